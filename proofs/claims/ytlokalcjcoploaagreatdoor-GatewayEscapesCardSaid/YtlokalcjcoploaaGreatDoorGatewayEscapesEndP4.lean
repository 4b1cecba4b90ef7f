/- Part 5 of the texts that prove GatewayEscapesEnd. -/
import Derived.Test.YtlokalcjcoploaaGreatDoorGatewayEscapesEndP2
import Derived.Test.YtlokalcjcoploaaGreatDoorProg
import Derived.Test.YtlokalcjcoploaaGreatDoorGatewayEscapesEndP3
import Derived.Lib.LaidU8
import Derived.Shelf.Vars
import Derived.Test.YtlokalcjcoploaaGreatDoorRows
import Derived.WalkKit
import Derived.JoinedCond
import Derived.SevenTiedAt
namespace Go.Proofs.YtlokalcjcoploaaGreatDoor.Lift
open Go.RowKit
set_option linter.unusedVariables false
set_option linter.unusedSimpArgs false
set_option linter.unnecessarySimpa false
set_option linter.unusedSectionVars false
set_option maxRecDepth 100000
def r208_0 : LO := [o 4 (mi 0)]
def r208_1 : LO := [o 6 (mv 0), o 7 (.len false (T 6)), o 8 (mi 0)]
def r208_2 : LO := [o 9 (.bin .lss (T 8) (T 7))]
def r208_6 : LO := [o 10 (mv 8), o 5 (mv 10)]
def r208_7 : LO := [o 11 (mv 1), o 12 (mv 0), o 13 (mv 5), o 14 (.idxSl 5 (T 12) (T 13)), o 15 (ln 5 14), o 16 (.call (T 11) [(T 15)])]
def r208_8 : LO := [o 17 (mv 5), o 4 (mv 17)]
def k208_1 : ACode := .seq (.region r208_7) (.cond (T 16) (.seq (.region r208_8) .ret) .skip)
def r208_16 : LO := [o 18 (.bin .add (T 8) (ci 1)), o 8 (mv 18)]
def k208_2 : ACode := .seq (.block 1 (.seq (.region r208_6) k208_1)) (.region r208_16)
def k208_3 : ACode := .seq (.region r208_2) (.seq (.cond (T 9) .skip (.exit 0)) k208_2)
def r208_23 : LO := [o 4 (mi (-1))]
def k208_4 : ACode := .seq (.seq (.region r208_1) (.block 0 (.loop k208_3))) (.seq (.region r208_23) .ret)
def k208_5 : ACode := .seq (.region r208_0) k208_4
theorem fn208 : getFn Tryz.prog 208 = some (19, k208_5, [.tmp 4]) := by kernel_rfl
def r147_0 : LO := [o 2 (.mv (.c aE))]
def r147_1 : LO := [o 6 (mv 0), o 7 (.call (cf 150) [(T 6), (.c (aS ⟨#[97, 108, 105, 97, 115]⟩))]), o 5 (mv 7), o 8 (.extract 0 (T 5)), o 9 (.extract 1 (T 5)), o 3 (.alloc zV), on (st 7 3 8), o 4 (mv 9)]
def r147_2 : LO := [o 10 (fa 2 3), o 11 (ld 10), o 2 (mv 11)]
def k147_1 : ACode := .seq (.region r147_0) (.seq (.region r147_1) (.seq (.region r147_2) .ret))
theorem fn147 : getFn Tryz.prog 147 = some (12, k147_1, [.tmp 2]) := by kernel_rfl
def r89_0 : LO := [o 1 (bx 0), o 2 (mb false)]
def r89_1 : LO := [o 3 (ln 3 1), o 4 (.call (cf 146) [(T 3)]), o 5 (.len false (T 4)), o 6 (.bin .eql (T 5) (ci 0)), o 2 (mv 6)]
def k89_1 : ACode := .seq (.region r89_0) (.seq (.region r89_1) .ret)
theorem fn89 : getFn Tryz.prog 89 = some (7, k89_1, [.tmp 2]) := by kernel_rfl
def r146_0 : LO := [o 1 (bx 0), o 2 (.mv (.c .nil))]
def r146_1 : LO := [o 14 (.build [aE, (aI 0), .nil] [((1, 1), (ci (-1)))]), o 15 (bx 14), o 3 (mv 15)]
def r146_2 : LO := [o 16 (ln 3 1), o 17 (.call (cf 200) [(T 16)]), o 4 (.alloc [.nil, .nil, .nil]), on (st 3 4 17)]
def r146_3 : LO := [o 18 (ln 3 4), o 19 (mi 0)]
def r146_4 : LO := [o 20 (.bin .lss (T 19) (ci 3))]
def r146_8 : LO := [o 21 (.idxV 3 1 none (T 18) (T 19)), o 6 (mv 21)]
def r146_9 : LO := [o 22 (mv 3), o 23 (mv 6), o 24 (.len false (T 23)), o 25 (.bin .leq (T 24) (ci 64)), o 26 (.call (cf 201) [(T 22), (T 25), (ci 3)])]
def r146_10 : LO := [o 27 (mv 3), o 28 (mv 6), o 29 (.call (cf 202) [(T 28)]), o 30 (.call (cf 201) [(T 27), (T 29), (ci 11)])]
def k146_1 : ACode := .seq (.region r146_8) (.seq (.region r146_9) (.region r146_10))
def r146_14 : LO := [o 31 (.bin .add (T 19) (ci 1)), o 19 (mv 31)]
def k146_2 : ACode := .seq (.cond (T 20) .skip (.exit 0)) (.seq (.block 1 k146_1) (.region r146_14))
def k146_3 : ACode := .seq (.region r146_4) k146_2
def r146_21 : LO := [o 32 (mv 3), o 33 (ln 3 4), o 34 (.call (cf 203) [(T 33)]), o 35 (.call (cf 201) [(T 32), (T 34), (ci 9)])]
def r146_22 : LO := [o 36 (ln 3 1), o 37 (.call (cf 204) [(T 36)]), o 7 (mv 37)]
def r146_23 : LO := [o 38 (fa 0 1), o 39 (ld 38), o 40 (.len false (T 39)), o 41 (mi 0)]
def r146_24 : LO := [o 42 (.bin .lss (T 41) (T 40))]
def r146_28 : LO := [o 43 (.idxSl 5 (T 39) (T 41)), o 44 (ln 5 43), o 9 (.alloc [aE, .nil, .nil, .nil, .nil]), on (st 5 9 44)]
def r146_29 : LO := [o 45 (mv 3), o 46 (mv 3), o 47 (.nilCheck (T 46)), o 48 (fa 2 47), o 49 (ld 48), o 50 (ln 3 1), o 51 (ln 5 9), o 52 (mv 7), o 53 (.call (cf 205) [(T 50), (T 51), (T 52)]), o 54 (.append 371 3 32 (T 49) (T 53)), o 55 (.nilCheck (T 45)), o 56 (fa 2 55), on (st 1 56 54)]
def r146_29t : LO := []
def r146_29o : LN := [[], [], [1], [2], [3], [], [], [], [5, 6, 7], [4, 8], [0, 1, 2, 3, 4, 5, 6, 7, 8, 9], [0, 1, 2, 3, 4, 5, 6, 7, 8, 9, 10], [0, 1, 2, 3, 4, 5, 6, 7, 8, 9, 11]]
def k146_4 : ACode := .block 3 (.seq (.region r146_28) (.drawn r146_29o r146_29 r146_29t))
def r146_32 : LO := [o 57 (.bin .add (T 41) (ci 1)), o 41 (mv 57)]
def k146_5 : ACode := .seq (.cond (T 42) .skip (.exit 2)) (.seq k146_4 (.region r146_32))
def k146_6 : ACode := .seq (.region r146_24) k146_5
def r146_39 : LO := [o 58 (fa 1 1), o 59 (ld 58), o 60 (.len false (T 59)), o 61 (mi 0)]
def r146_40 : LO := [o 62 (.bin .lss (T 61) (T 60))]
def r146_44 : LO := [o 63 (.idxSl 5 (T 59) (T 61)), o 64 (ln 5 63), o 11 (.alloc [aE, (aB false), .nil, .nil, .nil]), on (st 5 11 64)]
def r146_45 : LO := [o 65 (mv 3), o 66 (mv 3), o 67 (.nilCheck (T 66)), o 68 (fa 2 67), o 69 (ld 68), o 70 (ln 5 11), o 71 (.call (cf 206) [(T 70)]), o 72 (.append 371 3 32 (T 69) (T 71)), o 73 (.nilCheck (T 65)), o 74 (fa 2 73), on (st 1 74 72)]
def r146_45t : LO := []
def r146_45o : LN := [[], [], [1], [2], [3], [], [5], [4, 6], [0, 1, 2, 3, 4, 5, 6, 7], [0, 1, 2, 3, 4, 5, 6, 7, 8], [0, 1, 2, 3, 4, 5, 6, 7, 9]]
def k146_7 : ACode := .block 5 (.seq (.region r146_44) (.drawn r146_45o r146_45 r146_45t))
def r146_48 : LO := [o 75 (.bin .add (T 61) (ci 1)), o 61 (mv 75)]
def k146_8 : ACode := .seq (.cond (T 62) .skip (.exit 4)) (.seq k146_7 (.region r146_48))
def k146_9 : ACode := .seq (.region r146_40) k146_8
def r146_55 : LO := [o 76 (fa 2 1), o 77 (ld 76), o 78 (.len false (T 77)), o 79 (mi 0)]
def r146_56 : LO := [o 80 (.bin .lss (T 79) (T 78))]
def r146_60 : LO := [o 81 (.idxSl 3 (T 77) (T 79)), o 82 (ln 3 81), o 13 (.alloc [aE, .nil, .nil]), on (st 3 13 82)]
def r146_61 : LO := [o 83 (mv 3), o 84 (mv 3), o 85 (.nilCheck (T 84)), o 86 (fa 2 85), o 87 (ld 86), o 88 (ln 3 1), o 89 (ln 3 13), o 90 (.call (cf 207) [(T 88), (T 89)]), o 91 (.append 371 3 32 (T 87) (T 90)), o 92 (.nilCheck (T 83)), o 93 (fa 2 92), on (st 1 93 91)]
def r146_61t : LO := []
def r146_61o : LN := [[], [], [1], [2], [3], [], [], [5, 6], [4, 7], [0, 1, 2, 3, 4, 5, 6, 7, 8], [0, 1, 2, 3, 4, 5, 6, 7, 8, 9], [0, 1, 2, 3, 4, 5, 6, 7, 8, 10]]
def k146_10 : ACode := .block 7 (.seq (.region r146_60) (.drawn r146_61o r146_61 r146_61t))
def r146_64 : LO := [o 94 (.bin .add (T 79) (ci 1)), o 79 (mv 94)]
def k146_11 : ACode := .seq (.cond (T 80) .skip (.exit 6)) (.seq k146_10 (.region r146_64))
def k146_12 : ACode := .seq (.region r146_56) k146_11
def r146_71 : LO := [o 95 (mv 3), o 96 (.nilCheck (T 95)), o 97 (fa 2 96), o 98 (ld 97), o 2 (mv 98)]
def k146_13 : ACode := .seq (.seq (.region r146_55) (.block 6 (.loop k146_12))) (.seq (.region r146_71) .ret)
def k146_14 : ACode := .seq (.seq (.region r146_39) (.block 4 (.loop k146_9))) k146_13
def k146_15 : ACode := .seq (.seq (.region r146_23) (.block 2 (.loop k146_6))) k146_14
def k146_16 : ACode := .seq (.seq (.region r146_3) (.block 0 (.loop k146_3))) (.seq (.region r146_21) (.seq (.region r146_22) k146_15))
def k146_17 : ACode := .seq (.region r146_0) (.seq (.region r146_1) (.seq (.region r146_2) k146_16))
theorem fn146 : getFn Tryz.prog 146 = some (99, k146_17, [.tmp 2]) := by kernel_rfl
def r207_0 : LO := [o 2 (bx 0), o 3 (bx 1), o 4 (.mv (.c .nil))]
def r207_1 : LO := [o 12 (fa 0 3), o 13 (ld 12), o 14 (.build [aE, (aI 0), .nil] [((0, 1), (T 13)), ((1, 1), (ci (-1)))]), o 15 (bx 14), o 5 (mv 15)]
def r207_2 : LO := [o 16 (mv 5), o 17 (fa 0 3), o 18 (ld 17), o 19 (.call (cf 272) [(T 18)]), o 20 (.call (cf 201) [(T 16), (T 19), (ci 8)])]
def r207_3 : LO := [o 21 (mv 5), o 22 (fa 1 3), o 23 (ld 22), o 24 (.len false (T 23)), o 25 (.bin .leq (T 24) (ci 64)), o 26 (.call (cf 201) [(T 21), (T 25), (ci 3)])]
def r207_4 : LO := [o 27 (fa 1 3), o 28 (ld 27), o 29 (.len false (T 28)), o 30 (mi 0)]
def r207_5 : LO := [o 31 (.bin .lss (T 30) (T 29))]
def r207_9 : LO := [o 32 (mv 30), o 33 (.idxSl 5 (T 28) (T 30)), o 34 (ln 5 33), o 7 (.alloc [aE, aE, aE, (aI 0), .nil]), o 6 (mv 32), on (st 5 7 34)]
def r207_10 : LO := [o 35 (mv 5), o 36 (mv 6), o 37 (.nilCheck (T 35)), o 38 (fa 1 37), on (st 1 38 36)]
def r207_11 : LO := [o 39 (mv 5), o 40 (fa 0 7), o 41 (ld 40), o 42 (.call (cf 278) [(T 41)]), o 43 (.call (cf 201) [(T 39), (T 42), (ci 8)])]
def r207_12 : LO := [o 44 (mv 5), o 45 (mv 6), o 46 (.bin .eql (T 45) (ci 0)), o 47 (mv 46), og 48 (fa 0 7) 47 false, og 49 (ld 48) 47 false, og 50 (fa 1 3) 47 false, og 51 (ld 50) 47 false, og 52 (mv 6) 47 false, og 53 (.bin .sub (T 52) (ci 1)) 47 false, og 54 (.idxSl 5 (T 51) (T 53)) 47 false, og 55 (fa 0 54) 47 false, og 56 (ld 55) 47 false, og 57 (.bin .gtr (T 49) (T 56)) 47 false, o 58 (.pick (T 47) (cb true) (T 57)), o 59 (.call (cf 201) [(T 44), (T 58), (ci 11)])]
def r207_12t : LO := []
def r207_12o : LN := [[], [], [1], [2], [3], [3, 4], [3], [3, 6], [3], [3, 8], [3, 7, 9], [3, 10], [3, 11], [3, 5, 12], [3, 13], [0, 3, 14]]
def r207_13 : LO := [o 61 (ln 3 2), o 62 (fa 1 7), o 63 (ld 62), o 64 (.call (cf 269) [(T 61), (T 63)]), o 60 (mv 64), o 65 (.extract 0 (T 60)), o 66 (.extract 1 (T 60)), o 8 (.alloc [aE, .nil, .nil, .nil, .nil]), on (st 5 8 65), o 9 (mv 66)]
def r207_14 : LO := [o 68 (ln 3 2), o 69 (fa 2 7), o 70 (ld 69), o 71 (.call (cf 269) [(T 68), (T 70)]), o 67 (mv 71), o 72 (.extract 0 (T 67)), o 73 (.extract 1 (T 67)), o 10 (.alloc [aE, .nil, .nil, .nil, .nil]), on (st 5 10 72), o 11 (mv 73)]
def r207_15 : LO := [o 74 (mv 5), o 75 (mv 9), o 76 (mv 75), og 77 (mv 11) 76 true, o 78 (.pick (T 76) (T 77) (cb false)), o 79 (.call (cf 201) [(T 74), (T 78), (ci 12)])]
def r207_16 : LO := [o 80 (mv 5), o 81 (fa 3 7), o 82 (ld 81), o 83 (.bin .geq (T 82) (ci 1)), o 84 (mv 83), og 85 (fa 3 7) 84 true, og 86 (ld 85) 84 true, og 87 (.bin .leq (T 86) (ci 4)) 84 true, o 88 (.pick (T 84) (T 87) (cb false)), o 89 (.call (cf 201) [(T 80), (T 88), (ci 1)])]
def r207_17 : LO := [o 90 (mv 5), o 91 (fa 4 7), o 92 (ld 91), o 93 (.call (cf 276) [(T 90), (T 92), (ci 6)])]
def k207_1 : ACode := .seq (.region r207_15) (.seq (.region r207_16) (.region r207_17))
def k207_2 : ACode := .seq (.drawn r207_12o r207_12 r207_12t) (.seq (.region r207_13) (.seq (.region r207_14) k207_1))
def k207_3 : ACode := .seq (.region r207_9) (.seq (.region r207_10) (.seq (.region r207_11) k207_2))
def r207_27 : LO := [o 94 (.bin .add (T 30) (ci 1)), o 30 (mv 94)]
def k207_4 : ACode := .seq (.cond (T 31) .skip (.exit 0)) (.seq (.block 1 k207_3) (.region r207_27))
def k207_5 : ACode := .seq (.region r207_5) k207_4
def r207_34 : LO := [o 95 (mv 5), o 96 (.nilCheck (T 95)), o 97 (fa 1 96), on (.store 1 (T 97) (ci (-1)))]
def r207_35 : LO := [o 98 (mv 5), o 99 (fa 2 3), o 100 (ld 99), o 101 (.call (cf 276) [(T 98), (T 100), (ci 5)])]
def r207_36 : LO := [o 102 (mv 5), o 103 (.nilCheck (T 102)), o 104 (fa 2 103), o 105 (ld 104), o 4 (mv 105)]
def k207_6 : ACode := .seq (.region r207_34) (.seq (.region r207_35) (.seq (.region r207_36) .ret))
def k207_7 : ACode := .seq (.seq (.region r207_4) (.block 0 (.loop k207_5))) k207_6
def k207_8 : ACode := .seq (.region r207_1) (.seq (.region r207_2) (.seq (.region r207_3) k207_7))
def k207_9 : ACode := .seq (.region r207_0) k207_8
theorem fn207 : getFn Tryz.prog 207 = some (106, k207_9, [.tmp 4]) := by kernel_rfl
def r278_0 : LO := [o 2 (mb false)]
def r278_1 : LO := [o 3 (mv 0), o 4 (.call (cf 57) [(T 3)]), o 5 (mv 4), og 6 (mv 0) 5 true, og 7 (.call (cf 331) [(T 6)]) 5 true, og 8 (.un .not (T 7)) 5 true, o 9 (.pick (T 5) (T 8) (cb false)), o 2 (mv 9)]
def k278_1 : ACode := .seq (.region r278_0) (.seq (.region r278_1) .ret)
theorem fn278 : getFn Tryz.prog 278 = some (10, k278_1, [.tmp 2]) := by kernel_rfl
def r331_0 : LO := [o 2 (mb false)]
def r331_1 : LO := [o 3 (mv 0)]
def r331_2 : LO := [o 5 (.bin .eql (T 3) (.c (aS ⟨#[109, 101, 115, 115, 97, 103, 101]⟩))), o 4 (mv 5)]
def r331_4 : LO := [o 6 (.bin .eql (T 3) (.c (aS ⟨#[101, 110, 117, 109]⟩))), o 4 (mv 6)]
def r331_6 : LO := [o 7 (.bin .eql (T 3) (.c (aS ⟨#[115, 101, 114, 118, 105, 99, 101]⟩))), o 4 (mv 7)]
def r331_8 : LO := [o 8 (.bin .eql (T 3) (.c (aS ⟨#[117, 110, 105, 111, 110]⟩))), o 4 (mv 8)]
def r331_10 : LO := [o 9 (.bin .eql (T 3) (.c (aS ⟨#[109, 97, 112]⟩))), o 4 (mv 9)]
def r331_12 : LO := [o 10 (.bin .eql (T 3) (.c (aS ⟨#[108, 105, 115, 116]⟩))), o 4 (mv 10)]
def r331_14 : LO := [o 11 (.bin .eql (T 3) (.c (aS ⟨#[114, 101, 113, 117, 105, 114, 101, 100]⟩))), o 4 (mv 11)]
def r331_16 : LO := [o 12 (.bin .eql (T 3) (.c (aS ⟨#[111, 112, 116, 105, 111, 110, 97, 108]⟩))), o 4 (mv 12)]
def r331_18 : LO := [o 13 (.bin .eql (T 3) (.c (aS ⟨#[112, 108, 97, 105, 110]⟩))), o 4 (mv 13)]
def r331_20 : LO := [o 14 (.bin .eql (T 3) (.c (aS ⟨#[100, 101, 102, 97, 117, 108, 116]⟩))), o 4 (mv 14)]
def r331_22 : LO := [o 15 (.bin .eql (T 3) (.c (aS ⟨#[114, 101, 115, 101, 114, 118, 101, 100]⟩))), o 4 (mv 15)]
def k331_1 : ACode := .cond (T 4) .skip (.seq (.region r331_20) (.cond (T 4) .skip (.region r331_22)))
def k331_2 : ACode := .seq (.region r331_16) (.cond (T 4) .skip (.seq (.region r331_18) k331_1))
def k331_3 : ACode := .cond (T 4) .skip (.seq (.region r331_14) (.cond (T 4) .skip k331_2))
def k331_4 : ACode := .seq (.region r331_10) (.cond (T 4) .skip (.seq (.region r331_12) k331_3))
def k331_5 : ACode := .cond (T 4) .skip (.seq (.region r331_8) (.cond (T 4) .skip k331_4))
def k331_6 : ACode := .seq (.region r331_4) (.cond (T 4) .skip (.seq (.region r331_6) k331_5))
def r331_43 : LO := [o 2 (mb true)]
def r331_46 : LO := [o 17 (.bin .eql (T 3) (.c (aS ⟨#[105, 109, 112, 111, 114, 116]⟩))), o 16 (mv 17)]
def r331_48 : LO := [o 18 (.bin .eql (T 3) (.c (aS ⟨#[115, 112, 97, 99, 101]⟩))), o 16 (mv 18)]
def r331_50 : LO := [o 19 (.bin .eql (T 3) (.c (aS ⟨#[114, 112, 99]⟩))), o 16 (mv 19)]
def r331_52 : LO := [o 20 (.bin .eql (T 3) (.c (aS ⟨#[115, 116, 114, 101, 97, 109]⟩))), o 16 (mv 20)]
def r331_54 : LO := [o 21 (.bin .eql (T 3) (.c (aS ⟨#[114, 101, 116, 117, 114, 110, 115]⟩))), o 16 (mv 21)]
def r331_56 : LO := [o 22 (.bin .eql (T 3) (.c (aS ⟨#[111, 112, 101, 110]⟩))), o 16 (mv 22)]
def r331_58 : LO := [o 23 (.bin .eql (T 3) (.c (aS ⟨#[116, 114, 117, 101]⟩))), o 16 (mv 23)]
def r331_60 : LO := [o 24 (.bin .eql (T 3) (.c (aS ⟨#[102, 97, 108, 115, 101]⟩))), o 16 (mv 24)]
def r331_62 : LO := [o 25 (.bin .eql (T 3) (.c (aS ⟨#[110, 97, 110]⟩))), o 16 (mv 25)]
def r331_64 : LO := [o 26 (.bin .eql (T 3) (.c (aS ⟨#[105, 110, 102]⟩))), o 16 (mv 26)]
def k331_7 : ACode := .seq (.region r331_62) (.cond (T 16) .skip (.region r331_64))
def k331_8 : ACode := .cond (T 16) .skip (.seq (.region r331_60) (.cond (T 16) .skip k331_7))
def k331_9 : ACode := .seq (.region r331_56) (.cond (T 16) .skip (.seq (.region r331_58) k331_8))
def k331_10 : ACode := .cond (T 16) .skip (.seq (.region r331_54) (.cond (T 16) .skip k331_9))
def k331_11 : ACode := .seq (.region r331_50) (.cond (T 16) .skip (.seq (.region r331_52) k331_10))
def k331_12 : ACode := .cond (T 16) .skip (.seq (.region r331_48) (.cond (T 16) .skip k331_11))
def r331_83 : LO := [o 2 (mb true)]
def k331_13 : ACode := .seq (.seq (.region r331_46) k331_12) (.cond (T 16) (.seq (.region r331_83) .ret) .skip)
def k331_14 : ACode := .seq (.seq (.region r331_2) (.cond (T 4) .skip k331_6)) (.cond (T 4) (.seq (.region r331_43) .ret) k331_13)
def r331_93 : LO := [o 2 (mb false)]
def k331_15 : ACode := .seq (.seq (.region r331_1) (.block 0 k331_14)) (.seq (.region r331_93) .ret)
def k331_16 : ACode := .seq (.region r331_0) k331_15
theorem fn331 : getFn Tryz.prog 331 = some (27, k331_16, [.tmp 2]) := by kernel_rfl
def r276_0 : LO := [o 7 (mv 1), o 8 (mv 2), o 9 (.call (cf 339) [(T 7), (T 8)]), o 6 (mv 9)]
def r276_1 : LO := [o 10 (mv 0), o 11 (mv 6), o 12 (.bin .eql (T 11) (ci 0)), o 13 (mv 6), o 14 (.call (cf 201) [(T 10), (T 12), (T 13)])]
def k276_1 : ACode := .seq (.region r276_0) (.region r276_1)
theorem fn276 : getFn Tryz.prog 276 = some (15, k276_1, []) := by kernel_rfl
def r339_0 : LO := [o 4 (mi 0)]
def r339_1 : LO := [o 9 (mv 0), o 10 (.len false (T 9)), o 11 (.bin .gtr (T 10) (ci 8))]
def r339_2 : LO := [o 4 (mi 3)]
def k339_1 : ACode := .seq (.region r339_1) (.cond (T 11) (.seq (.region r339_2) .ret) .skip)
def r339_8 : LO := [o 5 (.mv (.c aE))]
def r339_9 : LO := [o 12 (mv 0), o 13 (.len false (T 12)), o 14 (mi 0)]
def r339_10 : LO := [o 15 (.bin .lss (T 14) (T 13))]
def r339_14 : LO := [o 16 (mv 14), o 17 (.idxSl 8 (T 12) (T 14)), o 18 (ln 8 17), o 7 (.alloc [aE, (aI 0), (aU 0), aE, .nil, .nil, .nil, .nil]), o 6 (mv 16), on (st 8 7 18)]
def r339_15 : LO := [o 19 (ln 8 7), o 20 (mv 1), o 21 (mv 5), o 22 (mv 6), o 23 (.bin .gtr (T 22) (ci 0)), o 24 (.call (cf 373) [(T 19), (T 20), (T 21), (T 23)]), o 8 (mv 24)]
def r339_16 : LO := [o 25 (mv 8), o 26 (.bin .neq (T 25) (ci 0))]
def r339_17 : LO := [o 27 (mv 8), o 4 (mv 27)]
def k339_2 : ACode := .seq (.region r339_16) (.cond (T 26) (.seq (.region r339_17) .ret) .skip)
def r339_24 : LO := [o 28 (fa 0 7), o 29 (ld 28), o 5 (mv 29)]
def k339_3 : ACode := .seq (.region r339_14) (.seq (.seq (.region r339_15) k339_2) (.region r339_24))
def r339_28 : LO := [o 30 (.bin .add (T 14) (ci 1)), o 14 (mv 30)]
def k339_4 : ACode := .seq (.cond (T 15) .skip (.exit 0)) (.seq (.block 1 k339_3) (.region r339_28))
def k339_5 : ACode := .seq (.region r339_10) k339_4
def r339_35 : LO := [o 4 (mi 0)]
def k339_6 : ACode := .seq (.seq (.region r339_9) (.block 0 (.loop k339_5))) (.seq (.region r339_35) .ret)
def k339_7 : ACode := .seq (.region r339_0) (.seq k339_1 (.seq (.region r339_8) k339_6))
theorem fn339 : getFn Tryz.prog 339 = some (31, k339_7, [.tmp 4]) := by kernel_rfl
def r201_0 : LO := [o 6 (mv 1), o 7 (.un .not (T 6))]
def r201_1 : LO := [o 8 (mv 0), o 9 (mv 0), o 10 (.nilCheck (T 9)), o 11 (fa 2 10), o 12 (ld 11), o 13 (mv 0), o 14 (.nilCheck (T 13)), o 15 (fa 0 14), o 16 (ld 15), o 17 (mv 0), o 18 (.nilCheck (T 17)), o 19 (fa 1 18), o 20 (ld 19), o 21 (mv 2), o 22 (.build [aE, (aI 0), (aI 0)] [((0, 1), (T 16)), ((1, 1), (T 20)), ((2, 1), (T 21))]), o 23 (.sliceLit 3 1 [aE, (aI 0), (aI 0)] [((0, 3), (T 22))]), o 24 (.append 371 3 32 (T 12) (T 23)), o 25 (.nilCheck (T 8)), o 26 (fa 2 25), on (st 1 26 24)]
def r201_1t : LO := []
def r201_1o : LN := [[], [], [1], [2], [3], [], [5], [6], [7], [], [9], [10], [11], [], [8, 12, 13], [14], [4, 15], [0, 1, 2, 3, 4, 5, 6, 7, 8, 9, 10, 11, 12, 13, 14, 15, 16], [0, 1, 2, 3, 4, 5, 6, 7, 8, 9, 10, 11, 12, 13, 14, 15, 16, 17], [0, 1, 2, 3, 4, 5, 6, 7, 8, 9, 10, 11, 12, 13, 14, 15, 16, 18]]
def k201_1 : ACode := .seq (.region r201_0) (.cond (T 7) (.drawn r201_1o r201_1 r201_1t) .skip)
theorem fn201 : getFn Tryz.prog 201 = some (27, k201_1, []) := by kernel_rfl
def r272_0 : LO := [o 2 (mb false)]
def r272_1 : LO := [o 3 (mv 0), o 4 (.call (cf 56) [(T 3)]), o 5 (mv 4), og 6 (mv 0) 5 true, og 7 (.call (cf 103) [(T 6), (.c (aS ⟨#[46]⟩))]) 5 true, og 8 (.call (cf 267) [(T 7), (cf 331)]) 5 true, og 9 (.un .not (T 8)) 5 true, o 10 (.pick (T 5) (T 9) (cb false)), o 2 (mv 10)]
def k272_1 : ACode := .seq (.region r272_0) (.seq (.region r272_1) .ret)
theorem fn272 : getFn Tryz.prog 272 = some (11, k272_1, [.tmp 2]) := by kernel_rfl
def r267_0 : LO := [o 4 (mb false)]
def r267_1 : LO := [o 5 (mv 0), o 6 (mv 1), o 7 (.call (cf 329) [(T 5), (T 6)]), o 8 (.bin .geq (T 7) (ci 0)), o 4 (mv 8)]
def k267_1 : ACode := .seq (.region r267_0) (.seq (.region r267_1) .ret)
theorem fn267 : getFn Tryz.prog 267 = some (9, k267_1, [.tmp 4]) := by kernel_rfl
def r329_0 : LO := [o 4 (mi 0)]
def r329_1 : LO := [o 6 (mv 0), o 7 (.len false (T 6)), o 8 (mi 0)]
def r329_2 : LO := [o 9 (.bin .lss (T 8) (T 7))]
def r329_6 : LO := [o 10 (mv 8), o 5 (mv 10)]
def r329_7 : LO := [o 11 (mv 1), o 12 (mv 0), o 13 (mv 5), o 14 (.idxSl 1 (T 12) (T 13)), o 15 (ld 14), o 16 (.call (T 11) [(T 15)])]
def r329_8 : LO := [o 17 (mv 5), o 4 (mv 17)]
def k329_1 : ACode := .seq (.region r329_7) (.cond (T 16) (.seq (.region r329_8) .ret) .skip)
def r329_16 : LO := [o 18 (.bin .add (T 8) (ci 1)), o 8 (mv 18)]
def k329_2 : ACode := .seq (.block 1 (.seq (.region r329_6) k329_1)) (.region r329_16)
def k329_3 : ACode := .seq (.region r329_2) (.seq (.cond (T 9) .skip (.exit 0)) k329_2)
def r329_23 : LO := [o 4 (mi (-1))]
def k329_4 : ACode := .seq (.seq (.region r329_1) (.block 0 (.loop k329_3))) (.seq (.region r329_23) .ret)
def k329_5 : ACode := .seq (.region r329_0) k329_4
theorem fn329 : getFn Tryz.prog 329 = some (19, k329_5, [.tmp 4]) := by kernel_rfl
def r269_0 : LO := [o 2 (bx 0), o 3 (bx 1), o 4 (.alloc [aE, .nil, .nil, .nil, .nil]), o 5 (mb false)]
def r269_1 : LO := [o 7 (fa 0 2), o 8 (ld 7), o 9 (.func (.func 330) [] [(T 3)]), o 10 (.call (cf 208) [(T 8), (T 9)]), o 6 (mv 10)]
def r269_2 : LO := [o 11 (mv 6), o 12 (.bin .lss (T 11) (ci 0))]
def r269_3 : LO := [o 13 (.build [aE, .nil, .nil, .nil, .nil] []), on (st 5 4 13), o 5 (mb false)]
def k269_1 : ACode := .seq (.region r269_2) (.cond (T 12) (.seq (.region r269_3) .ret) .skip)
def r269_9 : LO := [o 14 (fa 0 2), o 15 (ld 14), o 16 (mv 6), o 17 (.idxSl 5 (T 15) (T 16)), o 18 (ln 5 17), on (st 5 4 18), o 5 (mb true)]
def k269_2 : ACode := .seq (.region r269_1) (.seq k269_1 (.seq (.region r269_9) .ret))
def k269_3 : ACode := .seq (.region r269_0) k269_2
theorem fn269 : getFn Tryz.prog 269 = some (19, k269_3, [.cell 4 (some 5), .tmp 5]) := by kernel_rfl
def r330_0 : LO := [o 2 (bx 0), o 3 (mb false)]
def r330_1 : LO := [o 4 (fa 0 2), o 5 (ld 4), o 6 (ld 1), o 7 (.bin .eql (T 5) (T 6)), o 3 (mv 7)]
def k330_1 : ACode := .seq (.region r330_0) (.seq (.region r330_1) .ret)
theorem fn330 : getFn Tryz.prog 330 = some (8, k330_1, [.tmp 3]) := by kernel_rfl
def r281_0 : LO := [o 3 (bx 1), o 4 (mb false)]
def r281_1 : LO := [o 5 (mv 0), o 6 (.func (.func 343) [] [(T 3)]), o 7 (.call (cf 342) [(T 5), (T 6)]), o 4 (mv 7)]
def k281_1 : ACode := .seq (.region r281_0) (.seq (.region r281_1) .ret)
theorem fn281 : getFn Tryz.prog 281 = some (8, k281_1, [.tmp 4]) := by kernel_rfl
def r342_0 : LO := [o 4 (mb false)]
def r342_1 : LO := [o 5 (mv 0), o 6 (mv 1), o 7 (.call (cf 374) [(T 5), (T 6)]), o 8 (.bin .geq (T 7) (ci 0)), o 4 (mv 8)]
def k342_1 : ACode := .seq (.region r342_0) (.seq (.region r342_1) .ret)
theorem fn342 : getFn Tryz.prog 342 = some (9, k342_1, [.tmp 4]) := by kernel_rfl
def r374_0 : LO := [o 4 (mi 0)]
def r374_1 : LO := [o 6 (mv 0), o 7 (.len false (T 6)), o 8 (mi 0)]
def r374_2 : LO := [o 9 (.bin .lss (T 8) (T 7))]
def r374_6 : LO := [o 10 (mv 8), o 5 (mv 10)]
def r374_7 : LO := [o 11 (mv 1), o 12 (mv 0), o 13 (mv 5), o 14 (.idxSl 2 (T 12) (T 13)), o 15 (ln 2 14), o 16 (.call (T 11) [(T 15)])]
def r374_8 : LO := [o 17 (mv 5), o 4 (mv 17)]
def k374_1 : ACode := .seq (.region r374_7) (.cond (T 16) (.seq (.region r374_8) .ret) .skip)
def r374_16 : LO := [o 18 (.bin .add (T 8) (ci 1)), o 8 (mv 18)]
def k374_2 : ACode := .seq (.block 1 (.seq (.region r374_6) k374_1)) (.region r374_16)
def k374_3 : ACode := .seq (.region r374_2) (.seq (.cond (T 9) .skip (.exit 0)) k374_2)
def r374_23 : LO := [o 4 (mi (-1))]
def k374_4 : ACode := .seq (.seq (.region r374_1) (.block 0 (.loop k374_3))) (.seq (.region r374_23) .ret)
def k374_5 : ACode := .seq (.region r374_0) k374_4
theorem fn374 : getFn Tryz.prog 374 = some (19, k374_5, [.tmp 4]) := by kernel_rfl
def r274_0 : LO := [o 10 (mv 1), o 11 (.len false (T 10)), o 12 (mi 0)]
def r274_1 : LO := [o 13 (.bin .lss (T 12) (T 11))]
def r274_5 : LO := [o 14 (mv 12), o 15 (.idxSl 2 (T 10) (T 12)), o 16 (ln 2 15), o 9 (.alloc [(aI 0), (aI 0)]), o 8 (mv 14), on (st 2 9 16)]
def r274_6 : LO := [o 17 (mv 0), o 18 (fa 0 9), o 19 (ld 18), o 20 (mv 2), o 21 (.bin .geq (T 19) (T 20)), o 22 (mv 21), og 23 (fa 1 9) 22 true, og 24 (ld 23) 22 true, og 25 (mv 3) 22 true, og 26 (.bin .leq (T 24) (T 25)) 22 true, o 27 (.pick (T 22) (T 26) (cb false)), o 28 (mv 27), og 29 (fa 0 9) 28 true, og 30 (ld 29) 28 true, og 31 (fa 1 9) 28 true, og 32 (ld 31) 28 true, og 33 (.bin .leq (T 30) (T 32)) 28 true, o 34 (.pick (T 28) (T 33) (cb false)), o 35 (.call (cf 201) [(T 17), (T 34), (ci 6)])]
def r274_7 : LO := [o 36 (mv 0), o 37 (mv 8), o 38 (.bin .eql (T 37) (ci 0)), o 39 (mv 38), og 40 (fa 0 9) 39 false, og 41 (ld 40) 39 false, og 42 (mv 1) 39 false, og 43 (mv 8) 39 false, og 44 (.bin .sub (T 43) (ci 1)) 39 false, og 45 (.idxSl 2 (T 42) (T 44)) 39 false, og 46 (fa 1 45) 39 false, og 47 (ld 46) 39 false, og 48 (.bin .gtr (T 41) (T 47)) 39 false, o 49 (.pick (T 39) (cb true) (T 48)), o 50 (.call (cf 201) [(T 36), (T 49), (ci 11)])]
def r274_7t : LO := []
def r274_7o : LN := [[], [], [1], [2], [3], [3, 4], [3], [3], [3, 7], [3, 6, 8], [3, 9], [3, 10], [3, 5, 11], [3, 12], [0, 3, 13]]
def k274_1 : ACode := .seq (.region r274_5) (.seq (.region r274_6) (.drawn r274_7o r274_7 r274_7t))
def r274_11 : LO := [o 51 (.bin .add (T 12) (ci 1)), o 12 (mv 51)]
def k274_2 : ACode := .seq (.cond (T 13) .skip (.exit 0)) (.seq (.block 1 k274_1) (.region r274_11))
def k274_3 : ACode := .seq (.region r274_1) k274_2
def k274_4 : ACode := .seq (.region r274_0) (.block 0 (.loop k274_3))
theorem fn274 : getFn Tryz.prog 274 = some (52, k274_4, []) := by kernel_rfl
def r205_0 : LO := [o 3 (bx 0), o 4 (bx 1), o 6 (.mv (.c .nil))]
def r205_1 : LO := [o 11 (fa 0 4), o 12 (ld 11), o 13 (.build [aE, (aI 0), .nil] [((0, 1), (T 12)), ((1, 1), (ci (-1)))]), o 14 (bx 13), o 7 (mv 14)]
def r205_2 : LO := [o 15 (mv 7), o 16 (fa 0 4), o 17 (ld 16), o 18 (.call (cf 272) [(T 17)]), o 19 (.call (cf 201) [(T 15), (T 18), (ci 8)])]
def r205_3 : LO := [o 20 (mv 7), o 21 (fa 1 4), o 22 (ld 21), o 23 (.len false (T 22)), o 24 (.bin .leq (T 23) (ci 64)), o 25 (mv 24), og 26 (fa 2 4) 25 true, og 27 (ld 26) 25 true, og 28 (.len false (T 27)) 25 true, og 29 (fa 3 4) 25 true, og 30 (ld 29) 25 true, og 31 (.len false (T 30)) 25 true, og 32 (.minmax true [(T 28), (T 31)]) 25 true, og 33 (.bin .leq (T 32) (ci 16)) 25 true, o 34 (.pick (T 25) (T 33) (cb false)), o 35 (.call (cf 201) [(T 20), (T 34), (ci 3)])]
def r205_4 : LO := [o 36 (fa 1 4), o 37 (ld 36), o 38 (.len false (T 37)), o 39 (mi 0)]
def r205_5 : LO := [o 40 (.bin .lss (T 39) (T 38))]
def r205_9 : LO := [o 41 (mv 39), o 8 (mv 41)]
def r205_10 : LO := [o 42 (mv 7), o 43 (ln 3 3), o 44 (ln 5 4), o 45 (mv 8), o 46 (.call (cf 273) [(T 42), (T 43), (T 44), (T 45)])]
def r205_13 : LO := [o 47 (.bin .add (T 39) (ci 1)), o 39 (mv 47)]
def k205_1 : ACode := .seq (.block 1 (.seq (.region r205_9) (.region r205_10))) (.region r205_13)
def k205_2 : ACode := .seq (.region r205_5) (.seq (.cond (T 40) .skip (.exit 0)) k205_1)
def r205_20 : LO := [o 48 (mv 7), o 49 (fa 2 4), o 50 (ld 49), o 51 (.call (cf 274) [(T 48), (T 50), (ci 1), (ci 65535)])]
def r205_21 : LO := [o 52 (fa 3 4), o 53 (ld 52), o 54 (.len false (T 53)), o 55 (mi 0)]
def r205_22 : LO := [o 56 (.bin .lss (T 55) (T 54))]
def r205_26 : LO := [o 57 (.idxSl 1 (T 53) (T 55)), o 58 (ld 57), o 10 (mv 58)]
def r205_27 : LO := [o 59 (mv 7), o 60 (mv 10), o 61 (.call (cf 275) [(T 60)]), o 62 (.call (cf 201) [(T 59), (T 61), (ci 7)])]
def r205_30 : LO := [o 63 (.bin .add (T 55) (ci 1)), o 55 (mv 63)]
def k205_3 : ACode := .seq (.block 3 (.seq (.region r205_26) (.region r205_27))) (.region r205_30)
def k205_4 : ACode := .seq (.region r205_22) (.seq (.cond (T 56) .skip (.exit 2)) k205_3)
def r205_37 : LO := [o 64 (mv 7), o 65 (fa 4 4), o 66 (ld 65), o 67 (.call (cf 276) [(T 64), (T 66), (ci 1)])]
def r205_38 : LO := [o 68 (mv 7), o 69 (ln 3 3), o 70 (ln 5 4), o 71 (mv 2), o 72 (.call (cf 277) [(T 69), (T 70), (T 71)]), o 73 (.un .not (T 72)), o 74 (.call (cf 201) [(T 68), (T 73), (ci 19)])]
def r205_39 : LO := [o 75 (mv 7), o 76 (.nilCheck (T 75)), o 77 (fa 2 76), o 78 (ld 77), o 6 (mv 78)]
def k205_5 : ACode := .seq (.region r205_37) (.seq (.region r205_38) (.seq (.region r205_39) .ret))
def k205_6 : ACode := .seq (.seq (.region r205_21) (.block 2 (.loop k205_4))) k205_5
def k205_7 : ACode := .seq (.seq (.region r205_4) (.block 0 (.loop k205_2))) (.seq (.region r205_20) k205_6)
def k205_8 : ACode := .seq (.region r205_1) (.seq (.region r205_2) (.seq (.region r205_3) k205_7))
def k205_9 : ACode := .seq (.region r205_0) k205_8
theorem fn205 : getFn Tryz.prog 205 = some (79, k205_9, [.tmp 6]) := by kernel_rfl
def r277_0 : LO := [o 3 (bx 0), o 4 (bx 1), o 5 (bx 2), o 6 (mb false)]
def r277_1 : LO := [o 7 (ln 5 4), o 8 (.call (cf 270) [(T 7)]), o 9 (.func (.func 340) [] [(T 3), (T 5)]), o 10 (.call (cf 267) [(T 8), (T 9)]), o 6 (mv 10)]
def k277_1 : ACode := .seq (.region r277_0) (.seq (.region r277_1) .ret)
theorem fn277 : getFn Tryz.prog 277 = some (11, k277_1, [.tmp 6]) := by kernel_rfl
def r270_0 : LO := [o 1 (bx 0), o 2 (.mv (.c .nil))]
def r270_1 : LO := [o 3 (.mv (.c .nil))]
def r270_2 : LO := [o 6 (fa 1 1), o 7 (ld 6), o 8 (.len false (T 7)), o 9 (mi 0)]
def r270_3 : LO := [o 10 (.bin .lss (T 9) (T 8))]
def r270_7 : LO := [o 11 (.idxSl 16 (T 7) (T 9)), o 12 (ln 16 11), o 5 (.alloc [(aI 0), aE, (aI 0), (aI 0), (aI 0), aE, aE, (aB false), (aI 0), (aU 0), aE, .nil, .nil, .nil, .nil, .nil]), on (st 16 5 12)]
def r270_8 : LO := [o 13 (fa 2 5), o 14 (ld 13), o 15 (.bin .eql (T 14) (ci 1)), o 16 (mv 15), og 17 (fa 4 5) 16 true, og 18 (fa 0 17) 16 true, og 19 (ld 18) 16 true, og 20 (.bin .eql (T 19) (ci 10)) 16 true, o 21 (.pick (T 16) (T 20) (cb false))]
def r270_9 : LO := [o 22 (mv 3), o 23 (fa 4 5), o 24 (fa 1 23), o 25 (ld 24), o 26 (.sliceLit 1 1 [aE] [((0, 1), (T 25))]), o 27 (.append 9 1 16 (T 22) (T 26)), o 3 (mv 27)]
def k270_1 : ACode := .seq (.region r270_7) (.seq (.region r270_8) (.cond (T 21) (.region r270_9) .skip))
def r270_15 : LO := [o 28 (.bin .add (T 9) (ci 1)), o 9 (mv 28)]
def k270_2 : ACode := .seq (.cond (T 10) .skip (.exit 0)) (.seq (.block 1 k270_1) (.region r270_15))
def k270_3 : ACode := .seq (.region r270_3) k270_2
def r270_22 : LO := [o 29 (mv 3), o 2 (mv 29)]
def k270_4 : ACode := .seq (.seq (.region r270_2) (.block 0 (.loop k270_3))) (.seq (.region r270_22) .ret)
def k270_5 : ACode := .seq (.region r270_0) (.seq (.region r270_1) k270_4)
theorem fn270 : getFn Tryz.prog 270 = some (30, k270_5, [.tmp 2]) := by kernel_rfl
def r273_0 : LO := [o 5 (bx 1), o 6 (bx 2)]
def r273_1 : LO := [o 9 (fa 1 6), o 10 (ld 9), o 11 (mv 3), o 12 (.idxSl 16 (T 10) (T 11)), o 13 (ln 16 12), o 8 (.alloc [(aI 0), aE, (aI 0), (aI 0), (aI 0), aE, aE, (aB false), (aI 0), (aU 0), aE, .nil, .nil, .nil, .nil, .nil]), on (st 16 8 13)]
def r273_2 : LO := [o 14 (mv 0), o 15 (fa 0 8), o 16 (ld 15), o 17 (.nilCheck (T 14)), o 18 (fa 1 17), on (st 1 18 16)]
def r273_3 : LO := [o 19 (mv 0), o 20 (fa 0 8), o 21 (ld 20), o 22 (.bin .geq (T 21) (ci 1)), o 23 (mv 22), og 24 (fa 0 8) 23 true, og 25 (ld 24) 23 true, og 26 (.bin .leq (T 25) (ci 65535)) 23 true, o 27 (.pick (T 23) (T 26) (cb false)), o 28 (.call (cf 201) [(T 19), (T 27), (ci 6)])]
def r273_4 : LO := [o 29 (mv 0), o 30 (mv 3), o 31 (.bin .eql (T 30) (ci 0)), o 32 (mv 31), og 33 (fa 0 8) 32 false, og 34 (ld 33) 32 false, og 35 (fa 1 6) 32 false, og 36 (ld 35) 32 false, og 37 (mv 3) 32 false, og 38 (.bin .sub (T 37) (ci 1)) 32 false, og 39 (.idxSl 16 (T 36) (T 38)) 32 false, og 40 (fa 0 39) 32 false, og 41 (ld 40) 32 false, og 42 (.bin .gtr (T 34) (T 41)) 32 false, o 43 (.pick (T 32) (cb true) (T 42)), o 44 (.call (cf 201) [(T 29), (T 43), (ci 11)])]
def r273_4t : LO := []
def r273_4o : LN := [[], [], [1], [2], [3], [3, 4], [3], [3, 6], [3], [3, 8], [3, 7, 9], [3, 10], [3, 11], [3, 5, 12], [3, 13], [0, 3, 14]]
def r273_5 : LO := [o 45 (mv 0), o 46 (fa 1 8), o 47 (ld 46), o 48 (.call (cf 278) [(T 47)]), o 49 (.call (cf 201) [(T 45), (T 48), (ci 8)])]
def r273_6 : LO := [o 50 (mv 0), o 51 (fa 1 6), o 52 (ld 51), o 53 (mv 3), o 54 (.call (cf 332) [(T 52), (T 53), (cf 333)]), o 55 (.un .not (T 54)), o 56 (.call (cf 201) [(T 50), (T 55), (ci 9)])]
def r273_7 : LO := [o 57 (mv 0), o 58 (fa 2 6), o 59 (ld 58), o 60 (fa 0 8), o 61 (ld 60), o 62 (.call (cf 281) [(T 59), (T 61)]), o 63 (.un .not (T 62)), o 64 (mv 63), og 65 (fa 3 6) 64 true, og 66 (ld 65) 64 true, og 67 (fa 1 8) 64 true, og 68 (ld 67) 64 true, og 69 (.call (cf 59) [(T 66), (T 68)]) 64 true, og 70 (.un .not (T 69)) 64 true, o 71 (.pick (T 64) (T 70) (cb false)), o 72 (.call (cf 201) [(T 57), (T 71), (ci 21)])]
def r273_8 : LO := [o 73 (mv 0), o 74 (fa 2 8), o 75 (ld 74), o 76 (.bin .geq (T 75) (ci 1)), o 77 (mv 76), og 78 (fa 2 8) 77 true, og 79 (ld 78) 77 true, og 80 (.bin .leq (T 79) (ci 5)) 77 true, o 81 (.pick (T 77) (T 80) (cb false)), o 82 (mv 81), og 83 (fa 2 8) 82 true, og 84 (ld 83) 82 true, og 85 (fa 3 8) 82 true, og 86 (ld 85) 82 true, og 87 (.call (cf 334) [(T 84), (T 86)]) 82 true, o 88 (.pick (T 82) (T 87) (cb false)), o 89 (.call (cf 201) [(T 73), (T 88), (ci 1)])]
def r273_9 : LO := [o 90 (mv 0), o 91 (ln 3 5), o 92 (ln 16 8), o 93 (.call (cf 335) [(T 91), (T 92)]), o 94 (.call (cf 201) [(T 90), (T 93), (ci 12)])]
def r273_10 : LO := [o 95 (mv 0), o 96 (ln 5 6), o 97 (mv 3), o 98 (.call (cf 336) [(T 96), (T 97)]), o 99 (.call (cf 201) [(T 95), (T 98), (ci 15)])]
def r273_11 : LO := [o 100 (mv 0), o 101 (ln 3 5), o 102 (ln 16 8), o 103 (.call (cf 337) [(T 101), (T 102)]), o 104 (.call (cf 201) [(T 100), (T 103), (ci 1)])]
def r273_12 : LO := [o 105 (mv 0), o 106 (fa 15 8), o 107 (ld 106), o 108 (.call (cf 276) [(T 105), (T 107), (ci 2)])]
def r273_13 : LO := [o 109 (mv 0), o 110 (.nilCheck (T 109)), o 111 (fa 1 110), on (.store 1 (T 111) (ci (-1)))]
def k273_1 : ACode := .seq (.region r273_11) (.seq (.region r273_12) (.region r273_13))
def k273_2 : ACode := .seq (.region r273_8) (.seq (.region r273_9) (.seq (.region r273_10) k273_1))
def k273_3 : ACode := .seq (.region r273_5) (.seq (.region r273_6) (.seq (.region r273_7) k273_2))
def k273_4 : ACode := .seq (.region r273_3) (.seq (.drawn r273_4o r273_4 r273_4t) k273_3)
def k273_5 : ACode := .seq (.region r273_0) (.seq (.region r273_1) (.seq (.region r273_2) k273_4))
theorem fn273 : getFn Tryz.prog 273 = some (112, k273_5, []) := by kernel_rfl
def r337_0 : LO := [o 2 (bx 0), o 3 (bx 1), o 4 (mb false)]
def r337_1 : LO := [o 7 (fa 7 3), o 8 (ld 7), o 9 (.un .not (T 8))]
def r337_2 : LO := [o 10 (fa 8 3), o 11 (ln 7 10), o 12 (.call (cf 370) [(T 11)]), o 4 (mv 12)]
def k337_1 : ACode := .seq (.region r337_1) (.cond (T 9) (.seq (.region r337_2) .ret) .skip)
def r337_8 : LO := [o 13 (fa 2 3), o 14 (ld 13), o 15 (.bin .neq (T 14) (ci 2)), o 16 (mv 15), og 17 (fa 6 3) 16 false, og 18 (ld 17) 16 false, og 19 (.bin .neq (T 18) (.c aE)) 16 false, o 20 (.pick (T 16) (cb true) (T 19)), o 21 (mv 20), og 22 (fa 4 3) 21 false, og 23 (fa 0 22) 21 false, og 24 (ld 23) 21 false, og 25 (fa 8 3) 21 false, og 26 (ln 7 25) 21 false, og 27 (.call (cf 266) [(T 24), (T 26)]) 21 false, og 28 (.un .not (T 27)) 21 false, o 29 (.pick (T 21) (cb true) (T 28)), o 30 (mv 29), og 31 (fa 8 3) 30 false, og 32 (ln 7 31) 30 false, og 33 (.call (cf 139) [(T 32)]) 30 false, og 34 (.field none 1 (T 33)) 30 false, og 35 (fa 8 3) 30 false, og 36 (fa 1 35) 30 false, og 37 (ld 36) 30 false, og 38 (.bin .neq (T 34) (T 37)) 30 false, o 39 (.pick (T 30) (cb true) (T 38))]
def r337_8t : LO := []
def r337_8o : LN := [[], [0], [1], [2], [3], [3, 4], [3, 5], [3, 6], [3, 7], [8], [8, 9], [8, 10], [8], [8, 12], [8, 11, 13], [8, 14], [8, 15], [14, 16], [17], [17, 18], [17, 19], [17, 20], [17], [17, 22], [17, 23], [17, 21, 24], [17, 25]]
def r337_9 : LO := [o 4 (mb false)]
def k337_2 : ACode := .seq (.drawn r337_8o r337_8 r337_8t) (.cond (T 39) (.seq (.region r337_9) .ret) .skip)
def r337_15 : LO := [o 40 (fa 4 3), o 41 (fa 0 40), o 42 (ld 41), o 43 (.bin .neq (T 42) (ci 9))]
def r337_16 : LO := [o 4 (mb true)]
def k337_3 : ACode := .seq (.region r337_15) (.cond (T 43) (.seq (.region r337_16) .ret) .skip)
def r337_22 : LO := [o 45 (ln 3 2), o 46 (fa 4 3), o 47 (fa 1 46), o 48 (ld 47), o 49 (.call (cf 367) [(T 45), (T 48)]), o 44 (mv 49), o 50 (.extract 0 (T 44)), o 51 (.extract 1 (T 44)), o 5 (.alloc [aE, (aB false), .nil, .nil, .nil]), on (st 5 5 50), o 6 (mv 51)]
def r337_23 : LO := [o 52 (mv 6), o 53 (mv 52), og 54 (fa 2 5) 53 true, og 55 (ld 54) 53 true, og 56 (.func (.func 371) [] [(T 3)]) 53 true, og 57 (.call (cf 241) [(T 55), (T 56)]) 53 true, o 58 (.pick (T 53) (T 57) (cb false)), o 4 (mv 58)]
def k337_4 : ACode := .seq k337_3 (.seq (.region r337_22) (.seq (.region r337_23) .ret))
def k337_5 : ACode := .seq (.region r337_0) (.seq k337_1 (.seq k337_2 k337_4))
theorem fn337 : getFn Tryz.prog 337 = some (59, k337_5, [.tmp 4]) := by kernel_rfl
def r370_0 : LO := [o 1 (bx 0), o 2 (mb false)]
def r370_1 : LO := [o 3 (fa 0 1), o 4 (ld 3), o 5 (.bin .eql (T 4) (ci 0)), o 6 (mv 5), og 7 (fa 1 1) 6 true, og 8 (ld 7) 6 true, og 9 (.bin .eql (T 8) (.c (aU 0))) 6 true, o 10 (.pick (T 6) (T 9) (cb false)), o 11 (mv 10), og 12 (fa 2 1) 11 true, og 13 (ld 12) 11 true, og 14 (.bin .eql (T 13) (.c aE)) 11 true, o 15 (.pick (T 11) (T 14) (cb false)), o 16 (mv 15), og 17 (fa 3 1) 16 true, og 18 (ld 17) 16 true, og 19 (.len false (T 18)) 16 true, og 20 (fa 4 1) 16 true, og 21 (ld 20) 16 true, og 22 (.len false (T 21)) 16 true, og 23 (.bin .add (T 19) (T 22)) 16 true, og 24 (fa 5 1) 16 true, og 25 (ld 24) 16 true, og 26 (.len false (T 25)) 16 true, og 27 (.bin .add (T 23) (T 26)) 16 true, og 28 (fa 6 1) 16 true, og 29 (ld 28) 16 true, og 30 (.len false (T 29)) 16 true, og 31 (.bin .add (T 27) (T 30)) 16 true, og 32 (.bin .eql (T 31) (ci 0)) 16 true, o 33 (.pick (T 16) (T 32) (cb false)), o 2 (mv 33)]
def k370_1 : ACode := .seq (.region r370_0) (.seq (.region r370_1) .ret)
theorem fn370 : getFn Tryz.prog 370 = some (34, k370_1, [.tmp 2]) := by kernel_rfl
def r336_0 : LO := [o 2 (bx 0), o 4 (mb false)]
def r336_1 : LO := [o 7 (fa 1 2), o 8 (ld 7), o 9 (mv 1), o 10 (.idxSl 16 (T 8) (T 9)), o 11 (ln 16 10), o 5 (.alloc [(aI 0), aE, (aI 0), (aI 0), (aI 0), aE, aE, (aB false), (aI 0), (aU 0), aE, .nil, .nil, .nil, .nil, .nil]), on (st 16 5 11)]
def r336_2 : LO := [o 12 (fa 6 5), o 13 (ld 12), o 14 (.bin .eql (T 13) (.c aE))]
def r336_3 : LO := [o 4 (mb true)]
def k336_1 : ACode := .seq (.region r336_2) (.cond (T 14) (.seq (.region r336_3) .ret) .skip)
def r336_9 : LO := [o 15 (fa 2 5), o 16 (ld 15), o 17 (.bin .neq (T 16) (ci 2)), o 18 (mv 17), og 19 (fa 6 5) 18 false, og 20 (ld 19) 18 false, og 21 (.call (cf 278) [(T 20)]) 18 false, og 22 (.un .not (T 21)) 18 false, o 23 (.pick (T 18) (cb true) (T 22)), o 24 (mv 23), og 25 (fa 1 2) 24 false, og 26 (ld 25) 24 false, og 27 (.func (.func 368) [] [(T 5)]) 24 false, og 28 (.call (cf 365) [(T 26), (T 27)]) 24 false, o 29 (.pick (T 24) (cb true) (T 28))]
def r336_10 : LO := [o 4 (mb false)]
def k336_2 : ACode := .seq (.region r336_9) (.cond (T 29) (.seq (.region r336_10) .ret) .skip)
def r336_16 : LO := [o 30 (fa 1 2), o 31 (ld 30), o 32 (mv 1), o 33 (.sliceV 16 (T 31) none (some (T 32)) none), o 34 (.func (.func 369) [] [(T 5)]), o 35 (.call (cf 365) [(T 33), (T 34)]), o 6 (mv 35)]
def r336_17 : LO := [o 36 (mv 6), o 37 (.un .not (T 36)), o 38 (mv 37), og 39 (fa 1 2) 38 false, og 40 (ld 39) 38 false, og 41 (mv 1) 38 false, og 42 (.bin .sub (T 41) (ci 1)) 38 false, og 43 (.idxSl 16 (T 40) (T 42)) 38 false, og 44 (fa 6 43) 38 false, og 45 (ld 44) 38 false, og 46 (fa 6 5) 38 false, og 47 (ld 46) 38 false, og 48 (.bin .eql (T 45) (T 47)) 38 false, o 49 (.pick (T 38) (cb true) (T 48))]
def r336_17t : LO := [o 4 (mv 49)]
def r336_17o : LN := [[], [0], [1], [2], [2, 3], [2], [2, 5], [2, 4, 6], [2, 7], [2, 8], [2], [2, 10], [2, 9, 11], [2, 12]]
def k336_3 : ACode := .seq (.region r336_16) (.seq (.drawn r336_17o r336_17 r336_17t) .ret)
def k336_4 : ACode := .seq (.region r336_0) (.seq (.region r336_1) (.seq k336_1 (.seq k336_2 k336_3)))
theorem fn336 : getFn Tryz.prog 336 = some (50, k336_4, [.tmp 4]) := by kernel_rfl
def r365_0 : LO := [o 4 (mb false)]
def r365_1 : LO := [o 5 (mv 0), o 6 (mv 1), o 7 (.call (cf 315) [(T 5), (T 6)]), o 8 (.bin .geq (T 7) (ci 0)), o 4 (mv 8)]
def k365_1 : ACode := .seq (.region r365_0) (.seq (.region r365_1) .ret)
theorem fn365 : getFn Tryz.prog 365 = some (9, k365_1, [.tmp 4]) := by kernel_rfl
def r315_0 : LO := [o 4 (mi 0)]
def r315_1 : LO := [o 6 (mv 0), o 7 (.len false (T 6)), o 8 (mi 0)]
def r315_2 : LO := [o 9 (.bin .lss (T 8) (T 7))]
def r315_6 : LO := [o 10 (mv 8), o 5 (mv 10)]
def r315_7 : LO := [o 11 (mv 1), o 12 (mv 0), o 13 (mv 5), o 14 (.idxSl 16 (T 12) (T 13)), o 15 (ln 16 14), o 16 (.call (T 11) [(T 15)])]
def r315_8 : LO := [o 17 (mv 5), o 4 (mv 17)]
def k315_1 : ACode := .seq (.region r315_7) (.cond (T 16) (.seq (.region r315_8) .ret) .skip)
def r315_16 : LO := [o 18 (.bin .add (T 8) (ci 1)), o 8 (mv 18)]
def k315_2 : ACode := .seq (.block 1 (.seq (.region r315_6) k315_1)) (.region r315_16)
def k315_3 : ACode := .seq (.region r315_2) (.seq (.cond (T 9) .skip (.exit 0)) k315_2)
def r315_23 : LO := [o 4 (mi (-1))]
def k315_4 : ACode := .seq (.seq (.region r315_1) (.block 0 (.loop k315_3))) (.seq (.region r315_23) .ret)
def k315_5 : ACode := .seq (.region r315_0) k315_4
theorem fn315 : getFn Tryz.prog 315 = some (19, k315_5, [.tmp 4]) := by kernel_rfl
def r335_0 : LO := [o 2 (bx 0), o 3 (bx 1), o 4 (mb false)]
def r335_1 : LO := [o 10 (fa 4 3), o 11 (fa 0 10), o 12 (ld 11), o 13 (.bin .geq (T 12) (ci 1)), o 14 (mv 13), og 15 (fa 4 3) 14 true, og 16 (fa 0 15) 14 true, og 17 (ld 16) 14 true, og 18 (.bin .leq (T 17) (ci 8)) 14 true, o 19 (.pick (T 14) (T 18) (cb false)), o 9 (mv 19)]
def r335_2 : LO := [o 20 (fa 4 3), o 21 (fa 1 20), o 22 (ld 21), o 23 (.bin .eql (T 22) (.c aE)), o 4 (mv 23)]
def r335_5 : LO := [o 25 (fa 4 3), o 26 (fa 0 25), o 27 (ld 26), o 28 (.bin .eql (T 27) (ci 9)), o 24 (mv 28)]
def r335_6 : LO := [o 30 (ln 3 2), o 31 (fa 4 3), o 32 (fa 1 31), o 33 (ld 32), o 34 (.call (cf 367) [(T 30), (T 33)]), o 29 (mv 34), o 35 (.extract 0 (T 29)), o 36 (.extract 1 (T 29)), o 5 (.alloc [aE, (aB false), .nil, .nil, .nil]), on (st 5 5 35), o 6 (mv 36)]
def r335_7 : LO := [o 37 (mv 6), o 4 (mv 37)]
def r335_11 : LO := [o 39 (fa 4 3), o 40 (fa 0 39), o 41 (ld 40), o 42 (.bin .eql (T 41) (ci 10)), o 38 (mv 42)]
def r335_12 : LO := [o 44 (ln 3 2), o 45 (fa 4 3), o 46 (fa 1 45), o 47 (ld 46), o 48 (.call (cf 269) [(T 44), (T 47)]), o 43 (mv 48), o 49 (.extract 0 (T 43)), o 50 (.extract 1 (T 43)), o 7 (.alloc [aE, .nil, .nil, .nil, .nil]), on (st 5 7 49), o 8 (mv 50)]
def r335_13 : LO := [o 51 (mv 8), o 52 (mv 51), og 53 (fa 2 3) 52 true, og 54 (ld 53) 52 true, og 55 (.bin .neq (T 54) (ci 3)) 52 true, o 56 (.pick (T 52) (T 55) (cb false)), o 4 (mv 56)]
def k335_1 : ACode := .cond (T 38) (.seq (.region r335_12) (.seq (.region r335_13) .ret)) .skip
def k335_2 : ACode := .cond (T 24) (.seq (.region r335_6) (.seq (.region r335_7) .ret)) (.seq (.region r335_11) k335_1)
def k335_3 : ACode := .cond (T 9) (.seq (.region r335_2) .ret) (.seq (.region r335_5) k335_2)
def r335_25 : LO := [o 4 (mb false)]
def k335_4 : ACode := .seq (.block 0 (.seq (.region r335_1) k335_3)) (.seq (.region r335_25) .ret)
def k335_5 : ACode := .seq (.region r335_0) k335_4
theorem fn335 : getFn Tryz.prog 335 = some (57, k335_5, [.tmp 4]) := by kernel_rfl
def r334_0 : LO := [o 4 (mb false)]
def r334_1 : LO := [o 5 (mv 0), o 6 (.bin .neq (T 5) (ci 5))]
def r334_2 : LO := [o 7 (mv 1), o 8 (.bin .eql (T 7) (ci 0)), o 4 (mv 8)]
def k334_1 : ACode := .seq (.region r334_1) (.cond (T 6) (.seq (.region r334_2) .ret) .skip)
def r334_8 : LO := [o 9 (mv 1), o 10 (.bin .geq (T 9) (ci 1)), o 11 (mv 10), og 12 (mv 1) 11 true, og 13 (.bin .leq (T 12) (ci 7)) 11 true, o 14 (.pick (T 11) (T 13) (cb false)), o 15 (mv 14), og 16 (mv 1) 15 true, og 17 (.bin .neq (T 16) (ci 6)) 15 true, o 18 (.pick (T 15) (T 17) (cb false)), o 4 (mv 18)]
def k334_2 : ACode := .seq (.region r334_0) (.seq k334_1 (.seq (.region r334_8) .ret))
theorem fn334 : getFn Tryz.prog 334 = some (19, k334_2, [.tmp 4]) := by kernel_rfl
def r333_0 : LO := [o 1 (bx 0), o 2 (.mv (.c aE))]
def r333_1 : LO := [o 3 (fa 1 1), o 4 (ld 3), o 2 (mv 4)]
def k333_1 : ACode := .seq (.region r333_0) (.seq (.region r333_1) .ret)
theorem fn333 : getFn Tryz.prog 333 = some (5, k333_1, [.tmp 2]) := by kernel_rfl
def r332_0 : LO := [o 3 (bx 0), o 4 (bx 1), o 5 (bx 2), o 6 (mb false)]
def r332_1 : LO := [o 7 (ld 3), o 8 (ld 4), o 9 (.sliceV 16 (T 7) none (some (T 8)) none), o 10 (.func (.func 366) [] [(T 5), (T 3), (T 4)]), o 11 (.call (cf 365) [(T 9), (T 10)]), o 6 (mv 11)]
def k332_1 : ACode := .seq (.region r332_0) (.seq (.region r332_1) .ret)
theorem fn332 : getFn Tryz.prog 332 = some (12, k332_1, [.tmp 6]) := by kernel_rfl
def r366_0 : LO := [o 4 (bx 0), o 5 (mb false)]
def r366_1 : LO := [o 6 (ld 1), o 7 (ln 16 4), o 8 (.call (T 6) [(T 7)]), o 9 (ld 1), o 10 (ld 2), o 11 (ld 3), o 12 (.idxSl 16 (T 10) (T 11)), o 13 (ln 16 12), o 14 (.call (T 9) [(T 13)]), o 15 (.bin .eql (T 8) (T 14))]
def r366_1t : LO := [o 5 (mv 15)]
def r366_1o : LN := [[], [], [0, 1], [], [], [], [4, 5], [6], [2, 3, 7], [2, 8]]
def k366_1 : ACode := .seq (.region r366_0) (.seq (.drawn r366_1o r366_1 r366_1t) .ret)
theorem fn366 : getFn Tryz.prog 366 = some (16, k366_1, [.tmp 5]) := by kernel_rfl
def r204_0 : LO := [o 1 (bx 0), o 2 (.mv (.c (.v (.map none))))]
def r204_1 : LO := [o 9 (.mkmap), o 3 (.alloc [(.v (.map none))]), on (st 1 3 9)]
def r204_2 : LO := [o 10 (fa 0 1), o 11 (ld 10), o 12 (.len false (T 11)), o 13 (.bin .add (T 12) (ci 1)), o 14 (mi 0)]
def r204_3 : LO := [o 15 (.bin .lss (T 14) (T 13))]
def r204_7 : LO := [o 16 (fa 0 1), o 17 (ld 16), o 18 (.len false (T 17)), o 19 (mi 0)]
def r204_8 : LO := [o 20 (.bin .lss (T 19) (T 18))]
def r204_12 : LO := [o 21 (.idxSl 5 (T 17) (T 19)), o 22 (ln 5 21), o 5 (.alloc [aE, .nil, .nil, .nil, .nil]), on (st 5 5 22)]
def r204_13 : LO := [o 24 (ln 3 1), o 25 (fa 0 5), o 26 (ld 25), o 27 (.call (cf 269) [(T 24), (T 26)]), o 23 (mv 27), o 28 (.extract 0 (T 23)), o 29 (.extract 1 (T 23)), o 6 (.alloc [aE, .nil, .nil, .nil, .nil]), on (st 5 6 28), o 7 (mv 29)]
def r204_14 : LO := [o 30 (ln 5 6), o 31 (.call (cf 270) [(T 30)]), o 32 (.func (.func 271) [] [(T 1), (T 3)]), o 33 (.call (cf 267) [(T 31), (T 32)]), o 8 (mv 33)]
def r204_15 : LO := [o 34 (mv 8), o 35 (.un .not (T 34))]
def r204_16 : LO := [o 36 (ld 3), o 37 (fa 0 5), o 38 (ld 37), on (.mapset (T 36) (T 38) (cb true))]
def k204_1 : ACode := .seq (.region r204_15) (.cond (T 35) (.region r204_16) .skip)
def k204_2 : ACode := .seq (.region r204_12) (.seq (.region r204_13) (.seq (.region r204_14) k204_1))
def r204_24 : LO := [o 39 (.bin .add (T 19) (ci 1)), o 19 (mv 39)]
def k204_3 : ACode := .seq (.cond (T 20) .skip (.exit 2)) (.seq (.block 3 k204_2) (.region r204_24))
def k204_4 : ACode := .seq (.region r204_8) k204_3
def r204_32 : LO := [o 40 (.bin .add (T 14) (ci 1)), o 14 (mv 40)]
def k204_5 : ACode := .seq (.block 1 (.seq (.region r204_7) (.block 2 (.loop k204_4)))) (.region r204_32)
def k204_6 : ACode := .seq (.region r204_3) (.seq (.cond (T 15) .skip (.exit 0)) k204_5)
def r204_39 : LO := [o 41 (ld 3), o 2 (mv 41)]
def k204_7 : ACode := .seq (.seq (.region r204_2) (.block 0 (.loop k204_6))) (.seq (.region r204_39) .ret)
def k204_8 : ACode := .seq (.region r204_0) (.seq (.region r204_1) k204_7)
theorem fn204 : getFn Tryz.prog 204 = some (42, k204_8, [.tmp 2]) := by kernel_rfl
def r203_0 : LO := [o 1 (bx 0), o 2 (mb false)]
def r203_1 : LO := [o 5 (mi 0)]
def r203_2 : LO := [o 6 (.bin .lss (T 5) (ci 3))]
def r203_6 : LO := [o 7 (mv 5), o 3 (mv 7)]
def r203_7 : LO := [o 8 (mv 3), o 9 (mi 0)]
def r203_8 : LO := [o 10 (.bin .lss (T 9) (T 8))]
def r203_12 : LO := [o 11 (mv 9), o 4 (.alloc [(aI 0)]), on (st 1 4 11)]
def r203_13 : LO := [o 12 (mv 3), o 13 (.idxA 3 1 (T 1) (T 12)), o 14 (ld 13), o 15 (.func (.func 268) [] [(T 1), (T 4)]), o 16 (.call (cf 267) [(T 14), (T 15)])]
def r203_14 : LO := [o 2 (mb false)]
def k203_1 : ACode := .seq (.region r203_13) (.cond (T 16) (.seq (.region r203_14) .ret) .skip)
def r203_22 : LO := [o 17 (.bin .add (T 9) (ci 1)), o 9 (mv 17)]
def k203_2 : ACode := .seq (.block 3 (.seq (.region r203_12) k203_1)) (.region r203_22)
def k203_3 : ACode := .seq (.region r203_8) (.seq (.cond (T 10) .skip (.exit 2)) k203_2)
def k203_4 : ACode := .seq (.region r203_6) (.seq (.region r203_7) (.block 2 (.loop k203_3)))
def r203_31 : LO := [o 18 (.bin .add (T 5) (ci 1)), o 5 (mv 18)]
def k203_5 : ACode := .seq (.cond (T 6) .skip (.exit 0)) (.seq (.block 1 k203_4) (.region r203_31))
def k203_6 : ACode := .seq (.region r203_2) k203_5
def r203_38 : LO := [o 2 (mb true)]
def k203_7 : ACode := .seq (.seq (.region r203_1) (.block 0 (.loop k203_6))) (.seq (.region r203_38) .ret)
def k203_8 : ACode := .seq (.region r203_0) k203_7
theorem fn203 : getFn Tryz.prog 203 = some (19, k203_8, [.tmp 2]) := by kernel_rfl
def r268_0 : LO := [o 4 (mb false)]
def r268_1 : LO := [o 5 (ld 2), o 6 (.idxA 3 1 (T 1) (T 5)), o 7 (ld 6), o 8 (mv 0), o 9 (.call (cf 59) [(T 7), (T 8)]), o 4 (mv 9)]
def k268_1 : ACode := .seq (.region r268_0) (.seq (.region r268_1) .ret)
theorem fn268 : getFn Tryz.prog 268 = some (10, k268_1, [.tmp 4]) := by kernel_rfl
def r202_0 : LO := [o 2 (mb false)]
def r202_1 : LO := [o 3 (mi 1)]
def r202_2 : LO := [o 4 (mv 3), o 5 (mv 0), o 6 (.len false (T 5)), o 7 (.bin .lss (T 4) (T 6))]
def r202_7 : LO := [o 10 (mv 0), o 11 (mv 3), o 12 (.idxSl 1 (T 10) (T 11)), o 13 (ld 12), o 14 (mv 0), o 15 (mv 3), o 16 (.bin .sub (T 15) (ci 1)), o 17 (.idxSl 1 (T 14) (T 16)), o 18 (ld 17), o 19 (.bin .leq (T 13) (T 18))]
def r202_7t : LO := []
def r202_7o : LN := [[], [], [0, 1], [2], [], [], [5], [4, 6], [7], [3, 8]]
def r202_8 : LO := [o 2 (mb false)]
def k202_1 : ACode := .seq (.drawn r202_7o r202_7 r202_7t) (.cond (T 19) (.seq (.region r202_8) .ret) .skip)
def r202_15 : LO := [o 8 (mv 3), o 9 (.bin .add (T 8) (ci 1)), o 3 (mv 9)]
def k202_2 : ACode := .seq (.seq (.region r202_2) (.cond (T 7) .skip (.exit 0))) (.seq (.block 1 k202_1) (.region r202_15))
def r202_21 : LO := [o 2 (mb true)]
def k202_3 : ACode := .seq (.seq (.region r202_1) (.block 0 (.loop k202_2))) (.seq (.region r202_21) .ret)
def k202_4 : ACode := .seq (.region r202_0) k202_3
theorem fn202 : getFn Tryz.prog 202 = some (20, k202_4, [.tmp 2]) := by kernel_rfl
def r200_0 : LO := [o 1 (bx 0), o 2 (.alloc [.nil, .nil, .nil])]
def r200_1 : LO := [o 3 (.alloc [.nil, .nil, .nil])]
def r200_2 : LO := [o 10 (fa 0 1), o 11 (ld 10), o 12 (.len false (T 11)), o 13 (mi 0)]
def r200_3 : LO := [o 14 (.bin .lss (T 13) (T 12))]
def r200_7 : LO := [o 15 (.idxSl 5 (T 11) (T 13)), o 16 (ln 5 15), o 5 (.alloc [aE, .nil, .nil, .nil, .nil]), on (st 5 5 16)]
def r200_8 : LO := [o 17 (.idxA 3 1 (T 3) (ci 0)), o 18 (ld 17), o 19 (fa 0 5), o 20 (ld 19), o 21 (.sliceLit 1 1 [aE] [((0, 1), (T 20))]), o 22 (.append 9 1 16 (T 18) (T 21)), o 23 (.idxA 3 1 (T 3) (ci 0)), on (st 1 23 22)]
def r200_11 : LO := [o 24 (.bin .add (T 13) (ci 1)), o 13 (mv 24)]
def k200_1 : ACode := .seq (.block 1 (.seq (.region r200_7) (.region r200_8))) (.region r200_11)
def k200_2 : ACode := .seq (.region r200_3) (.seq (.cond (T 14) .skip (.exit 0)) k200_1)
def r200_18 : LO := [o 25 (fa 1 1), o 26 (ld 25), o 27 (.len false (T 26)), o 28 (mi 0)]
def r200_19 : LO := [o 29 (.bin .lss (T 28) (T 27))]
def r200_23 : LO := [o 30 (.idxSl 5 (T 26) (T 28)), o 31 (ln 5 30), o 7 (.alloc [aE, (aB false), .nil, .nil, .nil]), on (st 5 7 31)]
def r200_24 : LO := [o 32 (.idxA 3 1 (T 3) (ci 1)), o 33 (ld 32), o 34 (fa 0 7), o 35 (ld 34), o 36 (.sliceLit 1 1 [aE] [((0, 1), (T 35))]), o 37 (.append 9 1 16 (T 33) (T 36)), o 38 (.idxA 3 1 (T 3) (ci 1)), on (st 1 38 37)]
def r200_27 : LO := [o 39 (.bin .add (T 28) (ci 1)), o 28 (mv 39)]
def k200_3 : ACode := .seq (.block 3 (.seq (.region r200_23) (.region r200_24))) (.region r200_27)
def k200_4 : ACode := .seq (.region r200_19) (.seq (.cond (T 29) .skip (.exit 2)) k200_3)
def r200_34 : LO := [o 40 (fa 2 1), o 41 (ld 40), o 42 (.len false (T 41)), o 43 (mi 0)]
def r200_35 : LO := [o 44 (.bin .lss (T 43) (T 42))]
def r200_39 : LO := [o 45 (.idxSl 3 (T 41) (T 43)), o 46 (ln 3 45), o 9 (.alloc [aE, .nil, .nil]), on (st 3 9 46)]
def r200_40 : LO := [o 47 (.idxA 3 1 (T 3) (ci 2)), o 48 (ld 47), o 49 (fa 0 9), o 50 (ld 49), o 51 (.sliceLit 1 1 [aE] [((0, 1), (T 50))]), o 52 (.append 9 1 16 (T 48) (T 51)), o 53 (.idxA 3 1 (T 3) (ci 2)), on (st 1 53 52)]
def r200_43 : LO := [o 54 (.bin .add (T 43) (ci 1)), o 43 (mv 54)]
def k200_5 : ACode := .seq (.block 5 (.seq (.region r200_39) (.region r200_40))) (.region r200_43)
def k200_6 : ACode := .seq (.region r200_35) (.seq (.cond (T 44) .skip (.exit 4)) k200_5)
def r200_50 : LO := [o 55 (ln 3 3), on (st 3 2 55)]
def k200_7 : ACode := .seq (.seq (.region r200_34) (.block 4 (.loop k200_6))) (.seq (.region r200_50) .ret)
def k200_8 : ACode := .seq (.seq (.region r200_18) (.block 2 (.loop k200_4))) k200_7
def k200_9 : ACode := .seq (.seq (.region r200_2) (.block 0 (.loop k200_2))) k200_8
def k200_10 : ACode := .seq (.region r200_0) (.seq (.region r200_1) k200_9)
theorem fn200 : getFn Tryz.prog 200 = some (56, k200_10, [.cell 2 (some 3)]) := by kernel_rfl
def r40_0 : LO := [o 1 (bx 0), o 2 (.alloc [(aI 0), aE])]
def r40_1 : LO := [o 4 (fa 0 1), o 5 (ld 4), o 6 (.call (cf 87) [(T 5)]), o 3 (mv 6)]
def r40_2 : LO := [o 7 (fa 1 1), o 8 (ld 7), o 9 (.bin .neq (T 8) (.c aE))]
def r40_3 : LO := [o 10 (mv 3), o 11 (fa 1 1), o 12 (ld 11), o 13 (.bin .add (.c (aS ⟨#[32]⟩)) (T 12)), o 14 (.bin .add (T 10) (T 13)), o 3 (mv 14)]
def r40_7 : LO := [o 15 (fa 0 1), o 16 (ld 15), o 17 (.call (cf 20) [(T 16)]), o 18 (mv 3), o 19 (.build [(aI 0), aE] [((0, 1), (T 17)), ((1, 1), (T 18))]), on (st 2 2 19)]
def k40_1 : ACode := .seq (.seq (.region r40_2) (.cond (T 9) (.region r40_3) .skip)) (.seq (.region r40_7) .ret)
def k40_2 : ACode := .seq (.region r40_0) (.seq (.region r40_1) k40_1)
theorem fn40 : getFn Tryz.prog 40 = some (20, k40_2, [.cell 2 (some 2)]) := by kernel_rfl
def r87_0 : LO := [o 2 (.mv (.c aE))]
def r87_1 : LO := [o 3 (mv 0), o 4 (.bin .lss (T 3) (ci 0)), o 5 (mv 4), og 6 (mv 0) 5 false, og 7 (.bin .geq (T 6) (ci 14)) 5 false, o 8 (.pick (T 5) (cb true) (T 7))]
def r87_2 : LO := [o 2 (.mv (.c aE))]
def k87_1 : ACode := .seq (.region r87_1) (.cond (T 8) (.seq (.region r87_2) .ret) .skip)
def r87_8 : LO := [o 9 (mv 0), o 10 (.idxA 14 1 (.c (.glob 1)) (T 9)), o 11 (ld 10), o 2 (mv 11)]
def k87_2 : ACode := .seq (.region r87_0) (.seq k87_1 (.seq (.region r87_8) .ret))
theorem fn87 : getFn Tryz.prog 87 = some (12, k87_2, [.tmp 2]) := by kernel_rfl
def r17_0 : LO := [o 3 (bx 0), o 4 (bx 1), o 5 (bx 2), o 6 (.alloc [aE, aE, .nil, aE]), o 7 (mi 0)]
def r17_1 : LO := [o 15 (ln 3 3), o 16 (.call (cf 30) [(T 15)]), o 14 (mv 16), o 17 (.extract 0 (T 14)), o 18 (.extract 1 (T 14)), o 8 (.alloc [.nil, .nil, .nil, .nil, .nil]), on (st 5 8 17), o 9 (mv 18)]
def r17_2 : LO := [o 20 (ln 3 3), o 21 (fa 2 4), o 22 (ld 21), o 23 (fa 3 4), o 24 (ld 23), o 25 (.call (cf 31) [(T 22), (T 24)]), o 26 (.call (cf 32) [(T 20), (T 25)]), o 19 (mv 26), o 27 (.extract 0 (T 19)), o 28 (.extract 1 (T 19)), o 10 (.alloc [aE, aE, aE, (aI 0), .nil]), on (st 5 10 27)]
def r17_2t : LO := [o 11 (mv 28)]
def r17_2o : LN := [[], [], [1], [], [3], [2, 4], [0, 5], [6], [7], [7], [], [0, 1, 2, 3, 4, 5, 6, 7, 8, 10]]
def r17_3 : LO := [o 29 (mv 9), o 30 (.un .not (T 29)), o 31 (mv 30), og 32 (mv 11) 31 false, og 33 (.bin .neq (T 32) (ci 0)) 31 false, o 34 (.pick (T 31) (cb true) (T 33)), o 35 (mv 34), og 36 (ln 3 3) 35 false, og 37 (ln 5 4) 35 false, og 38 (.call (cf 33) [(T 36), (T 37)]) 35 false, og 39 (.bin .neq (T 38) (ci 0)) 35 false, o 40 (.pick (T 35) (cb true) (T 39))]
def r17_4 : LO := [o 41 (.build [aE, aE, .nil, aE] []), on (st 4 6 41), o 7 (mi 1)]
def k17_1 : ACode := .seq (.region r17_3) (.cond (T 40) (.seq (.region r17_4) .ret) .skip)
def r17_10 : LO := [o 42 (ln 3 3), o 43 (fa 1 10), o 44 (ld 43), o 45 (ln 7 5), o 46 (.call (cf 37) [(T 42), (T 44), (T 45)]), o 12 (mv 46)]
def r17_11 : LO := [o 47 (mv 12), o 48 (.bin .neq (T 47) (ci 0))]
def r17_12 : LO := [o 49 (.build [aE, aE, .nil, aE] []), o 50 (mv 12), on (st 4 6 49), o 7 (mv 50)]
def k17_2 : ACode := .seq (.region r17_11) (.cond (T 48) (.seq (.region r17_12) .ret) .skip)
def r17_19 : LO := [o 52 (ln 5 8), o 53 (fa 1 10), o 54 (ld 53), o 55 (ln 5 4), o 56 (ln 3 3), o 57 (fa 1 10), o 58 (ld 57), o 59 (ln 7 5), o 60 (.call (cf 38) [(T 56), (T 58), (T 59)]), o 61 (.call (cf 39) [(T 52), (T 54), (T 55), (T 60)]), o 51 (mv 61), o 62 (.extract 0 (T 51)), o 63 (.extract 1 (T 51)), o 13 (.alloc [aE, aE, .nil, aE]), on (st 4 13 62)]
def r17_19t : LO := [o 11 (mv 63)]
def r17_19o : LN := [[], [], [1], [], [], [], [5], [], [4, 6, 7], [0, 2, 3, 8], [9], [10], [10], [], [0, 1, 2, 3, 4, 5, 6, 7, 8, 9, 10, 11, 13]]
def r17_20 : LO := [o 64 (mv 11), o 65 (.bin .neq (T 64) (ci 0))]
def r17_21 : LO := [o 66 (.build [aE, aE, .nil, aE] []), o 67 (mv 11), on (st 4 6 66), o 7 (mv 67)]
def k17_3 : ACode := .seq (.region r17_20) (.cond (T 65) (.seq (.region r17_21) .ret) .skip)
def r17_27 : LO := [o 68 (ln 4 13), on (st 4 6 68), o 7 (mi 0)]
def k17_4 : ACode := .seq (.drawn r17_19o r17_19 r17_19t) (.seq k17_3 (.seq (.region r17_27) .ret))
def k17_5 : ACode := .seq (.drawn r17_2o r17_2 r17_2t) (.seq k17_1 (.seq (.seq (.region r17_10) k17_2) k17_4))
def k17_6 : ACode := .seq (.region r17_0) (.seq (.region r17_1) k17_5)
theorem fn17 : getFn Tryz.prog 17 = some (69, k17_6, [.cell 6 (some 4), .tmp 7]) := by kernel_rfl
def r39_0 : LO := [o 4 (bx 0), o 6 (bx 2), o 7 (bx 3), o 8 (.alloc [aE, aE, .nil, aE]), o 9 (mi 0)]
def r39_1 : LO := [o 19 (ln 5 4), o 20 (mv 1), o 21 (ln 5 6), o 22 (ln 7 7), o 23 (.call (cf 84) [(T 19), (T 20), (T 21), (T 22)]), o 18 (mv 23), o 24 (.extract 0 (T 18)), o 25 (.extract 1 (T 18)), o 26 (.extract 2 (T 18)), o 11 (.alloc zV), o 10 (mv 24), on (st 7 11 25), o 12 (mv 26)]
def r39_2 : LO := [o 27 (mv 12), o 28 (.bin .neq (T 27) (ci 0))]
def r39_3 : LO := [o 29 (.build [aE, aE, .nil, aE] []), o 30 (mv 12), on (st 4 8 29), o 9 (mv 30)]
def k39_1 : ACode := .seq (.region r39_2) (.cond (T 28) (.seq (.region r39_3) .ret) .skip)
def r39_9 : LO := [o 31 (fa 0 6), o 32 (ld 31), o 33 (mv 10), o 34 (.build [aE, aE, .nil, aE] [((0, 1), (T 32)), ((1, 1), (T 33))]), o 13 (.alloc [aE, aE, .nil, aE]), on (st 4 13 34)]
def r39_10 : LO := [o 35 (fa 4 6), o 36 (ld 35), o 37 (.bin .eql (T 36) (.c (aS ⟨#[42]⟩)))]
def r39_11 : LO := [o 39 (fa 3 4), o 40 (ln 2 39), o 41 (mv 1), o 42 (ln 7 11), o 43 (.call (cf 43) [(T 40), (T 41), (T 42)]), o 38 (mv 43), o 44 (.extract 0 (T 38)), o 45 (.extract 1 (T 38)), o 46 (fa 3 13), on (st 1 46 44), o 12 (mv 45)]
def r39_12 : LO := [o 47 (ln 4 13), o 48 (mv 12), on (st 4 8 47), o 9 (mv 48)]
def k39_2 : ACode := .cond (T 37) (.seq (.region r39_11) (.seq (.region r39_12) .ret)) .skip
def r39_19 : LO := [o 50 (fa 0 4), o 51 (ln 3 50), o 52 (mv 1), o 53 (ln 5 6), o 54 (.call (cf 61) [(T 51), (T 52), (T 53)]), o 49 (mv 54), o 55 (.extract 0 (T 49)), o 56 (.extract 1 (T 49)), o 14 (.alloc [(aI 0), aE, (aI 0), (aI 0), (aI 0), aE, aE, (aB false), (aI 0), (aU 0), aE, .nil, .nil, .nil, .nil, .nil]), on (st 16 14 55), o 15 (mv 56)]
def r39_20 : LO := [o 57 (mv 15)]
def r39_21 : LO := [o 59 (ln 7 11), o 60 (fa 0 14), o 61 (ld 60), o 62 (.sliceLit 1 1 [(aI 0)] [((0, 1), (T 61))]), o 63 (.call (cf 69) [(T 59), (T 62)]), o 58 (mv 63), o 64 (.extract 0 (T 58)), o 65 (.extract 1 (T 58)), o 16 (.alloc zV), on (st 7 16 64), o 17 (mv 65)]
def r39_22 : LO := [o 66 (mv 17), o 67 (.un .not (T 66))]
def r39_23 : LO := [o 68 (.build [aE, aE, .nil, aE] []), on (st 4 8 68), o 9 (mi 14)]
def k39_3 : ACode := .seq (.region r39_22) (.cond (T 67) (.seq (.region r39_23) .ret) .skip)
def r39_29 : LO := [o 70 (fa 3 4), o 71 (ln 2 70), o 72 (fa 4 14), o 73 (fa 1 72), o 74 (ld 73), o 75 (ln 7 16), o 76 (.call (cf 43) [(T 71), (T 74), (T 75)]), o 69 (mv 76), o 77 (.extract 0 (T 69)), o 78 (.extract 1 (T 69)), o 79 (fa 3 13), on (st 1 79 77), o 12 (mv 78)]
def r39_30 : LO := [o 80 (mv 12), o 81 (.bin .neq (T 80) (ci 0))]
def r39_31 : LO := [o 82 (.build [aE, aE, .nil, aE] []), o 83 (mv 12), on (st 4 8 82), o 9 (mv 83)]
def k39_4 : ACode := .seq (.region r39_30) (.cond (T 81) (.seq (.region r39_31) .ret) .skip)
def r39_37 : LO := [o 84 (ln 7 11), o 85 (fa 0 14), o 86 (ld 85), o 87 (.sliceLit 1 1 [(aI 0)] [((0, 1), (T 86))]), o 88 (.call (cf 85) [(T 84), (T 87)]), on (st 7 11 88)]
def k39_5 : ACode := .seq k39_3 (.seq (.region r39_29) (.seq k39_4 (.region r39_37)))
def k39_6 : ACode := .seq (.region r39_20) (.cond (T 57) (.seq (.region r39_21) k39_5) .skip)
def r39_46 : LO := [o 90 (ln 5 4), o 91 (mv 1), o 92 (ln 7 7), o 93 (ln 7 11), o 94 (.call (cf 86) [(T 90), (T 91), (.c aE), (T 92), (T 93)]), o 89 (mv 94), o 95 (.extract 0 (T 89)), o 96 (.extract 1 (T 89)), o 97 (fa 2 13), on (st 1 97 95), o 12 (mv 96)]
def r39_47 : LO := [o 98 (ln 4 13), o 99 (mv 12), on (st 4 8 98), o 9 (mv 99)]
def k39_7 : ACode := .seq (.seq (.region r39_19) k39_6) (.seq (.region r39_46) (.seq (.region r39_47) .ret))
def k39_8 : ACode := .seq (.region r39_9) (.seq (.seq (.region r39_10) k39_2) k39_7)
def k39_9 : ACode := .seq (.region r39_0) (.seq (.region r39_1) (.seq k39_1 k39_8))
theorem fn39 : getFn Tryz.prog 39 = some (100, k39_9, [.cell 8 (some 4), .tmp 9]) := by kernel_rfl
def r86_0 : LO := [o 5 (bx 0), o 8 (bx 3), o 9 (bx 4), o 10 (.mv (.c .nil)), o 11 (mi 0)]
def r86_1 : LO := [o 24 (fa 3 5), o 25 (ln 2 24), o 26 (mv 1), o 27 (.call (cf 122) [(T 25), (T 26)]), o 23 (mv 27), o 28 (.extract 0 (T 23)), o 29 (.extract 1 (T 23)), o 12 (mv 28), o 13 (mv 29)]
def r86_2 : LO := [o 14 (.mv (.c .nil))]
def r86_3 : LO := [o 30 (fa 5 9), o 31 (ld 30), o 32 (.len false (T 31)), o 33 (mi 0)]
def r86_4 : LO := [o 34 (.bin .lss (T 33) (T 32))]
def r86_8 : LO := [o 35 (.idxSl 8 (T 31) (T 33)), o 36 (ln 8 35), o 16 (.alloc [(aI 0), (aI 0), (aU 0), aE, .nil, .nil, .nil, .nil]), on (st 8 16 36)]
def r86_9 : LO := [o 38 (fa 3 5), o 39 (fa 0 38), o 40 (ld 39), o 41 (mv 12), o 42 (.idxSl 3 (T 40) (T 41)), o 43 (ln 3 42), o 44 (fa 0 16), o 45 (ld 44), o 46 (.call (cf 123) [(T 43), (T 45)]), o 37 (mv 46), o 47 (.extract 0 (T 37)), o 48 (.extract 1 (T 37)), o 17 (.alloc [(aI 0), aE, aE, (aI 0), (aI 0), (aI 0), (aI 0), (aI 0)]), on (st 8 17 47)]
def r86_9t : LO := [o 18 (mv 48)]
def r86_9o : LN := [[], [0], [1], [], [2, 3], [4], [], [6], [5, 7], [8], [9], [9], [], [0, 1, 2, 3, 4, 5, 6, 7, 8, 9, 10, 12]]
def r86_10 : LO := [o 19 (.mv (.c .nil))]
def r86_11 : LO := [o 20 (mi 0)]
def r86_12 : LO := [o 49 (fa 5 17), o 50 (ld 49), o 51 (.bin .eql (T 50) (ci 10)), o 52 (mv 51), og 53 (fa 3 17) 52 true, og 54 (ld 53) 52 true, og 55 (.bin .neq (T 54) (ci 4)) 52 true, o 56 (.pick (T 52) (T 55) (cb false)), o 57 (mv 56), og 58 (fa 3 17) 57 true, og 59 (ld 58) 57 true, og 60 (.bin .neq (T 59) (ci 5)) 57 true, o 61 (.pick (T 57) (T 60) (cb false))]
def r86_13 : LO := [o 63 (ln 7 8), o 64 (fa 0 16), o 65 (ld 64), o 66 (.sliceLit 1 1 [(aI 0)] [((0, 1), (T 65))]), o 67 (.call (cf 69) [(T 63), (T 66)]), o 62 (mv 67), o 68 (.extract 0 (T 62)), o 69 (.extract 1 (T 62)), o 21 (.alloc zV), on (st 7 21 68), o 22 (mv 69)]
def r86_14 : LO := [o 70 (fa 5 21), o 71 (ld 70), o 72 (.len false (T 71)), o 73 (.bin .eql (T 72) (ci 0))]
def r86_15 : LO := [o 10 (.mv (.c .nil)), o 11 (mi 12)]
def k86_1 : ACode := .seq (.region r86_14) (.cond (T 73) (.seq (.region r86_15) .ret) .skip)
def r86_21 : LO := [o 75 (ln 5 5), o 76 (fa 3 5), o 77 (fa 0 76), o 78 (ld 77), o 79 (fa 6 17), o 80 (ld 79), o 81 (.idxSl 3 (T 78) (T 80)), o 82 (fa 0 81), o 83 (ld 82), o 84 (mv 2), o 85 (fa 1 17), o 86 (ld 85), o 87 (.bin .add (T 84) (T 86)), o 88 (.bin .add (T 87) (.c (aS ⟨#[46]⟩))), o 89 (ln 7 21), o 90 (fa 1 16), o 91 (ln 7 90), o 92 (.call (cf 86) [(T 75), (T 83), (T 88), (T 89), (T 91)]), o 74 (mv 92), o 93 (.extract 0 (T 74)), o 94 (.extract 1 (T 74)), o 19 (mv 93)]
def r86_21t : LO := [o 20 (mv 94)]
def r86_21o : LN := [[], [], [1], [2], [], [4], [3, 5], [6], [7], [], [], [10], [9, 11], [12], [], [], [15], [0, 8, 13, 14, 16], [17], [18], [18], [0, 1, 2, 3, 4, 5, 6, 7, 8, 9, 10, 11, 12, 13, 14, 15, 16, 17, 18, 19]]
def k86_2 : ACode := .seq (.region r86_13) (.seq k86_1 (.drawn r86_21o r86_21 r86_21t))
def r86_24 : LO := [o 96 (ln 5 5), o 97 (ln 8 17), o 98 (mv 2), o 99 (fa 1 17), o 100 (ld 99), o 101 (.bin .add (T 98) (T 100)), o 102 (fa 1 16), o 103 (ln 7 102), o 104 (.call (cf 145) [(T 96), (T 97), (T 101), (T 103)]), o 95 (mv 104), o 105 (.extract 0 (T 95)), o 106 (.extract 1 (T 95)), o 19 (mv 105), o 20 (mv 106)]
def r86_27 : LO := [o 107 (mv 20), o 108 (.bin .neq (T 107) (ci 0))]
def r86_28 : LO := [o 109 (mv 20), o 10 (.mv (.c .nil)), o 11 (mv 109)]
def k86_3 : ACode := .seq (.region r86_27) (.cond (T 108) (.seq (.region r86_28) .ret) .skip)
def r86_34 : LO := [o 110 (mv 14), o 111 (mv 19), o 112 (.append 48 2 32 (T 110) (T 111)), o 14 (mv 112)]
def k86_4 : ACode := .seq (.seq (.region r86_12) (.cond (T 61) k86_2 (.region r86_24))) (.seq k86_3 (.region r86_34))
def k86_5 : ACode := .seq (.drawn r86_9o r86_9 r86_9t) (.seq (.region r86_10) (.seq (.region r86_11) k86_4))
def r86_42 : LO := [o 113 (.bin .add (T 33) (ci 1)), o 33 (mv 113)]
def k86_6 : ACode := .seq (.block 1 (.seq (.region r86_8) k86_5)) (.region r86_42)
def k86_7 : ACode := .seq (.region r86_4) (.seq (.cond (T 34) .skip (.exit 0)) k86_6)
def r86_49 : LO := [o 114 (fa 6 9), o 115 (ld 114), o 116 (.len false (T 115)), o 117 (.bin .gtr (T 116) (ci 0))]
def r86_50 : LO := [o 10 (.mv (.c .nil)), o 11 (mi 18)]
def k86_8 : ACode := .seq (.region r86_49) (.cond (T 117) (.seq (.region r86_50) .ret) .skip)
def r86_56 : LO := [o 118 (mv 14), o 10 (mv 118), o 11 (mi 0)]
def k86_9 : ACode := .seq (.seq (.region r86_3) (.block 0 (.loop k86_7))) (.seq k86_8 (.seq (.region r86_56) .ret))
def k86_10 : ACode := .seq (.region r86_0) (.seq (.region r86_1) (.seq (.region r86_2) k86_9))
theorem fn86 : getFn Tryz.prog 86 = some (119, k86_10, [.tmp 10, .tmp 11]) := by kernel_rfl
def r145_0 : LO := [o 4 (bx 0), o 5 (bx 1), o 7 (bx 3), o 8 (.mv (.c .nil)), o 9 (mi 0)]
def r145_1 : LO := [o 14 (ln 7 7), o 15 (.sliceLit 7 1 zV [((0, 7), (T 14))]), o 10 (mv 15)]
def r145_2 : LO := [o 16 (fa 0 7), o 17 (ld 16), o 18 (.bin .eql (T 17) (ci 11))]
def r145_3 : LO := [o 19 (fa 3 7), o 20 (ld 19), o 10 (mv 20)]
def r145_7 : LO := [o 21 (fa 3 5), o 22 (ld 21), o 23 (.bin .eql (T 22) (ci 5)), o 24 (mv 23), og 25 (fa 5 5) 24 false, og 26 (ld 25) 24 false, og 27 (.bin .eql (T 26) (ci 6)) 24 false, o 28 (.pick (T 24) (cb true) (T 27)), o 29 (mv 28), og 30 (fa 5 5) 29 false, og 31 (ld 30) 29 false, og 32 (.bin .eql (T 31) (ci 10)) 29 false, o 33 (.pick (T 29) (cb true) (T 32))]
def r145_8 : LO := [o 8 (.mv (.c .nil)), o 9 (mi 12)]
def k145_1 : ACode := .seq (.region r145_7) (.cond (T 33) (.seq (.region r145_8) .ret) .skip)
def r145_14 : LO := [o 11 (.mv (.c .nil))]
def r145_15 : LO := [o 34 (mv 10), o 35 (.len false (T 34)), o 36 (mi 0)]
def r145_16 : LO := [o 37 (.bin .lss (T 36) (T 35))]
def r145_20 : LO := [o 38 (.idxSl 7 (T 34) (T 36)), o 39 (ln 7 38), o 13 (.alloc zV), on (st 7 13 39)]
def r145_21 : LO := [o 40 (mv 11), o 41 (mv 2), o 42 (ln 5 4), o 43 (ln 8 5), o 44 (ln 7 13), o 45 (.call (cf 143) [(T 42), (T 43), (T 44)]), o 46 (.build [aE, aE] [((0, 1), (T 41)), ((1, 1), (T 45))]), o 47 (.sliceLit 2 1 [aE, aE] [((0, 2), (T 46))]), o 48 (.append 48 2 32 (T 40) (T 47)), o 11 (mv 48)]
def r145_24 : LO := [o 49 (.bin .add (T 36) (ci 1)), o 36 (mv 49)]
def k145_2 : ACode := .seq (.block 1 (.seq (.region r145_20) (.region r145_21))) (.region r145_24)
def k145_3 : ACode := .seq (.region r145_16) (.seq (.cond (T 37) .skip (.exit 0)) k145_2)
def r145_31 : LO := [o 50 (mv 11), o 8 (mv 50), o 9 (mi 0)]
def k145_4 : ACode := .seq (.seq (.region r145_15) (.block 0 (.loop k145_3))) (.seq (.region r145_31) .ret)
def k145_5 : ACode := .seq (.seq (.region r145_2) (.cond (T 18) (.region r145_3) .skip)) (.seq k145_1 (.seq (.region r145_14) k145_4))
def k145_6 : ACode := .seq (.region r145_0) (.seq (.region r145_1) k145_5)
theorem fn145 : getFn Tryz.prog 145 = some (51, k145_6, [.tmp 8, .tmp 9]) := by kernel_rfl
def r143_0 : LO := [o 3 (bx 0), o 4 (bx 1), o 5 (bx 2), o 6 (.mv (.c aE))]
def r143_1 : LO := [o 7 (fa 5 4), o 8 (ld 7), o 9 (.bin .eql (T 8) (ci 7))]
def r143_2 : LO := [o 10 (fa 2 5), o 11 (ld 10), o 6 (mv 11)]
def k143_1 : ACode := .seq (.region r143_1) (.cond (T 9) (.seq (.region r143_2) .ret) .skip)
def r143_8 : LO := [o 12 (fa 3 3), o 13 (ln 2 12), o 14 (ln 8 4), o 15 (ln 7 5), o 16 (.call (cf 199) [(T 13), (T 14), (T 15)]), o 6 (mv 16)]
def k143_2 : ACode := .seq (.region r143_0) (.seq k143_1 (.seq (.region r143_8) .ret))
theorem fn143 : getFn Tryz.prog 143 = some (17, k143_2, [.tmp 6]) := by kernel_rfl
def r69_0 : LO := [o 2 (bx 0), o 4 (.alloc zV), o 5 (mb false)]
def r69_1 : LO := [o 10 (mv 1), o 11 (.len false (T 10)), o 12 (mi 0)]
def r69_2 : LO := [o 13 (.bin .lss (T 12) (T 11))]
def r69_6 : LO := [o 14 (.idxSl 1 (T 10) (T 12)), o 15 (ld 14), o 7 (mv 15)]
def r69_7 : LO := [o 17 (ln 7 2), o 18 (mv 7), o 19 (.call (cf 118) [(T 17), (T 18)]), o 16 (mv 19), o 20 (.extract 0 (T 16)), o 21 (.extract 1 (T 16)), o 8 (mv 20), o 9 (mv 21)]
def r69_8 : LO := [o 22 (mv 9), o 23 (.un .not (T 22))]
def r69_9 : LO := [o 24 (.build zV []), on (st 7 4 24), o 5 (mb false)]
def k69_1 : ACode := .seq (.region r69_8) (.cond (T 23) (.seq (.region r69_9) .ret) .skip)
def r69_15 : LO := [o 25 (fa 5 2), o 26 (ld 25), o 27 (mv 8), o 28 (.idxSl 8 (T 26) (T 27)), o 29 (fa 1 28), o 30 (ln 7 29), on (st 7 2 30)]
def k69_2 : ACode := .seq (.region r69_6) (.seq (.region r69_7) (.seq k69_1 (.region r69_15)))
def r69_20 : LO := [o 31 (.bin .add (T 12) (ci 1)), o 12 (mv 31)]
def k69_3 : ACode := .seq (.cond (T 13) .skip (.exit 0)) (.seq (.block 1 k69_2) (.region r69_20))
def k69_4 : ACode := .seq (.region r69_2) k69_3
def r69_27 : LO := [o 32 (ln 7 2), on (st 7 4 32), o 5 (mb true)]
def k69_5 : ACode := .seq (.seq (.region r69_1) (.block 0 (.loop k69_4))) (.seq (.region r69_27) .ret)
def k69_6 : ACode := .seq (.region r69_0) k69_5
theorem fn69 : getFn Tryz.prog 69 = some (33, k69_6, [.cell 4 (some 7), .tmp 5]) := by kernel_rfl
def r118_0 : LO := [o 2 (bx 0), o 4 (mi 0), o 5 (mb false)]
def r118_1 : LO := [o 6 (fa 5 2), o 7 (ld 6), o 8 (mv 1), o 9 (.call (cf 170) [(T 7), (T 8), (cf 171)]), o 10 (.extract 0 (T 9)), o 11 (.extract 1 (T 9)), o 4 (mv 10), o 5 (mv 11)]
def k118_1 : ACode := .seq (.region r118_0) (.seq (.region r118_1) .ret)
theorem fn118 : getFn Tryz.prog 118 = some (12, k118_1, [.tmp 4, .tmp 5]) := by kernel_rfl
def r171_0 : LO := [o 2 (bx 0), o 4 (mi 0)]
def r171_1 : LO := [o 5 (fa 0 2), o 6 (ld 5), o 7 (mv 1), o 8 (.bin .sub (T 6) (T 7)), o 4 (mv 8)]
def k171_1 : ACode := .seq (.region r171_0) (.seq (.region r171_1) .ret)
theorem fn171 : getFn Tryz.prog 171 = some (9, k171_1, [.tmp 4]) := by kernel_rfl
def r170_0 : LO := [o 6 (mi 0), o 7 (mb false)]
def r170_1 : LO := [o 12 (mv 0), o 13 (.len false (T 12)), o 8 (mv 13)]
def r170_2 : LO := [o 14 (mv 8), o 9 (mi 0), o 10 (mv 14)]
def r170_3 : LO := [o 15 (mv 9), o 16 (mv 10), o 17 (.bin .lss (T 15) (T 16))]
def r170_8 : LO := [o 18 (mv 9), o 19 (mv 10), o 20 (.bin .add (T 18) (T 19)), o 21 (.conv (.num .u64) (T 20)), o 22 (.bin .shr (T 21) (.c (aU 1))), o 23 (.conv (.num .i64) (T 22)), o 11 (mv 23)]
def r170_9 : LO := [o 24 (mv 2), o 25 (mv 0), o 26 (mv 11), o 27 (.idxSl 8 (T 25) (T 26)), o 28 (ln 8 27), o 29 (mv 1), o 30 (.call (T 24) [(T 28), (T 29)]), o 31 (.bin .lss (T 30) (ci 0))]
def r170_10 : LO := [o 32 (mv 11), o 33 (.bin .add (T 32) (ci 1)), o 9 (mv 33)]
def r170_11 : LO := [o 34 (mv 11), o 10 (mv 34)]
def k170_1 : ACode := .seq (.region r170_9) (.cond (T 31) (.region r170_10) (.region r170_11))
def k170_2 : ACode := .seq (.seq (.region r170_3) (.cond (T 17) .skip (.exit 0))) (.block 1 (.seq (.region r170_8) k170_1))
def r170_19 : LO := [o 35 (mv 9), o 36 (mv 9), o 37 (mv 8), o 38 (.bin .lss (T 36) (T 37)), o 39 (mv 38), og 40 (mv 2) 39 true, og 41 (mv 0) 39 true, og 42 (mv 9) 39 true, og 43 (.idxSl 8 (T 41) (T 42)) 39 true, og 44 (ln 8 43) 39 true, og 45 (mv 1) 39 true, og 46 (.call (T 40) [(T 44), (T 45)]) 39 true, og 47 (.bin .eql (T 46) (ci 0)) 39 true, o 48 (.pick (T 39) (T 47) (cb false)), o 6 (mv 35), o 7 (mv 48)]
def k170_3 : ACode := .seq (.region r170_2) (.seq (.block 0 (.loop k170_2)) (.seq (.region r170_19) .ret))
def k170_4 : ACode := .seq (.region r170_0) (.seq (.region r170_1) k170_3)
theorem fn170 : getFn Tryz.prog 170 = some (49, k170_4, [.tmp 6, .tmp 7]) := by kernel_rfl
def r85_0 : LO := [o 2 (bx 0), o 4 (.alloc zV)]
def r85_1 : LO := [o 8 (ln 7 2), o 9 (mv 1), o 10 (.idxSl 1 (T 9) (ci 0)), o 11 (ld 10), o 12 (.call (cf 118) [(T 8), (T 11)]), o 7 (mv 12), o 13 (.extract 0 (T 7)), o 14 (.extract 1 (T 7)), o 5 (mv 13)]
def r85_1t : LO := [o 6 (mv 14)]
def r85_1o : LN := [[], [], [1], [2], [0, 3], [4], [5], [5], [0, 1, 2, 3, 4, 5, 6]]
def r85_2 : LO := [o 15 (mv 6), o 16 (.un .not (T 15))]
def r85_3 : LO := [o 17 (ln 7 2), on (st 7 4 17)]
def k85_1 : ACode := .seq (.region r85_2) (.cond (T 16) (.seq (.region r85_3) .ret) .skip)
def r85_9 : LO := [o 18 (fa 5 2), o 19 (ld 18), o 20 (.call (cf 119) [(T 19)]), o 21 (fa 5 2), on (st 1 21 20)]
def r85_10 : LO := [o 22 (mv 1), o 23 (.len false (T 22)), o 24 (.bin .eql (T 23) (ci 1))]
def r85_11 : LO := [o 25 (fa 5 2), o 26 (ld 25), o 27 (mv 5), o 28 (mv 5), o 29 (.bin .add (T 28) (ci 1)), o 30 (.call (cf 144) [(T 26), (T 27), (T 29)]), o 31 (fa 5 2), on (st 1 31 30)]
def r85_12 : LO := [o 32 (fa 5 2), o 33 (ld 32), o 34 (mv 5), o 35 (fa 5 2), o 36 (ld 35), o 37 (mv 5), o 38 (.idxSl 8 (T 36) (T 37)), o 39 (fa 1 38), o 40 (ln 7 39), o 41 (mv 1), o 42 (.sliceV 1 (T 41) (some (ci 1)) none none), o 43 (.call (cf 85) [(T 40), (T 42)]), o 44 (.idxSl 8 (T 33) (T 34)), o 45 (fa 1 44), on (st 7 45 43)]
def r85_12t : LO := []
def r85_12o : LN := [[], [0], [], [], [3], [], [4, 5], [6], [7], [], [9], [8, 10], [0, 1, 2, 3, 4, 5, 6, 7, 8, 9, 10, 11], [0, 1, 2, 3, 4, 5, 6, 7, 8, 9, 10, 11, 12], [0, 1, 2, 3, 4, 5, 6, 7, 8, 9, 10, 11, 13]]
def k85_2 : ACode := .cond (T 24) (.region r85_11) (.drawn r85_12o r85_12 r85_12t)
def r85_15 : LO := [o 46 (ln 7 2), on (st 7 4 46)]
def k85_3 : ACode := .seq (.seq (.region r85_10) k85_2) (.seq (.region r85_15) .ret)
def k85_4 : ACode := .seq (.drawn r85_1o r85_1 r85_1t) (.seq k85_1 (.seq (.region r85_9) k85_3))
def k85_5 : ACode := .seq (.region r85_0) k85_4
theorem fn85 : getFn Tryz.prog 85 = some (47, k85_5, [.cell 4 (some 7)]) := by kernel_rfl
def r144_0 : LO := [o 6 (.mv (.c .nil))]
def r144_1 : LO := [o 8 (mv 0), o 9 (mv 1), o 10 (mv 2), o 11 (mv 0), o 12 (.len false (T 11)), o 13 (.sliceV 8 (T 8) (some (T 9)) (some (T 10)) (some (T 12)))]
def r144_2 : LO := [o 14 (mv 1), o 15 (mv 2), o 16 (.bin .eql (T 14) (T 15))]
def r144_3 : LO := [o 17 (mv 0), o 6 (mv 17)]
def k144_1 : ACode := .seq (.region r144_2) (.cond (T 16) (.seq (.region r144_3) .ret) .skip)
def r144_9 : LO := [o 18 (mv 0), o 19 (.len false (T 18)), o 7 (mv 19)]
def r144_10 : LO := [o 20 (mv 0), o 21 (mv 1), o 22 (.sliceV 8 (T 20) none (some (T 21)) none), o 23 (mv 0), o 24 (mv 2), o 25 (.sliceV 8 (T 23) (some (T 24)) none none), o 26 (.append 66 8 136 (T 22) (T 25))]
def r144_10t : LO := [o 0 (mv 26)]
def r144_10o : LN := [[], [], [0, 1], [], [], [3, 4], [2, 5]]
def r144_11 : LO := [o 27 (mv 0), o 28 (mv 0), o 29 (.len false (T 28)), o 30 (mv 7), o 31 (.sliceV 8 (T 27) (some (T 29)) (some (T 30)) none), on (.clear 8 [(aI 0), (aI 0), (aU 0), aE, .nil, .nil, .nil, .nil] (T 31))]
def r144_12 : LO := [o 32 (mv 0), o 6 (mv 32)]
def k144_2 : ACode := .seq (.drawn r144_10o r144_10 r144_10t) (.seq (.region r144_11) (.seq (.region r144_12) .ret))
def k144_3 : ACode := .seq (.region r144_1) (.seq k144_1 (.seq (.region r144_9) k144_2))
def k144_4 : ACode := .seq (.region r144_0) k144_3
theorem fn144 : getFn Tryz.prog 144 = some (33, k144_4, [.tmp 6]) := by kernel_rfl
def r84_0 : LO := [o 4 (bx 0), o 6 (bx 2), o 7 (bx 3), o 8 (.mv (.c aE)), o 9 (.alloc zV), o 10 (mi 0)]
def r84_1 : LO := [o 23 (fa 1 6), o 24 (ld 23), o 25 (.call (cf 49) [(T 24)]), o 22 (mv 25), o 26 (.extract 0 (T 22)), o 27 (.extract 1 (T 22)), o 11 (mv 26), o 12 (mv 27)]
def r84_2 : LO := [o 13 (.mv (.c aE))]
def r84_3 : LO := [o 28 (mv 11), o 29 (.len false (T 28)), o 30 (mi 0)]
def r84_4 : LO := [o 31 (.bin .lss (T 30) (T 29))]
def r84_8 : LO := [o 32 (.idxSl 1 (T 28) (T 30)), o 33 (ld 32), o 15 (mv 33)]
def r84_9 : LO := [o 35 (mv 15), o 36 (.call (cf 51) [(T 35)]), o 34 (mv 36), o 37 (.extract 0 (T 34)), o 38 (.extract 1 (T 34)), o 16 (mv 37), o 17 (mv 38)]
def r84_10 : LO := [o 39 (mv 17), o 40 (.un .not (T 39))]
def r84_11 : LO := [o 41 (mv 13), o 42 (mv 15), o 43 (.bin .add (.c (aS ⟨#[47]⟩)) (T 42)), o 44 (.bin .add (T 41) (T 43)), o 13 (mv 44)]
def k84_1 : ACode := .seq (.region r84_10) (.cond (T 40) (.seq (.region r84_11) (.exit 1)) .skip)
def r84_17 : LO := [o 46 (fa 0 4), o 47 (ln 3 46), o 48 (mv 1), o 49 (mv 16), o 50 (.call (cf 67) [(T 47), (T 48), (T 49)]), o 45 (mv 50), o 51 (.extract 0 (T 45)), o 52 (.extract 1 (T 45)), o 18 (mv 51), o 19 (mv 52)]
def r84_18 : LO := [o 53 (mv 19), o 54 (.bin .neq (T 53) (ci 0))]
def r84_19 : LO := [o 55 (ln 7 7), o 56 (mv 19), o 8 (.mv (.c aE)), on (st 7 9 55)]
def r84_19t : LO := [o 10 (mv 56)]
def r84_19o : LN := [[], [], [], [0, 2]]
def k84_2 : ACode := .cond (T 54) (.seq (.drawn r84_19o r84_19 r84_19t) .ret) .skip
def r84_25 : LO := [o 58 (ln 7 7), o 59 (mv 18), o 60 (.call (cf 68) [(T 59)]), o 61 (.call (cf 69) [(T 58), (T 60)]), o 57 (mv 61), o 62 (.extract 0 (T 57)), o 63 (.extract 1 (T 57)), o 20 (.alloc zV), on (st 7 20 62)]
def r84_25t : LO := [o 17 (mv 63)]
def r84_25o : LN := [[], [], [1], [0, 2], [3], [4], [4], [], [0, 1, 2, 3, 4, 5, 7]]
def r84_26 : LO := [o 64 (ln 5 4), o 65 (ln 5 4), o 66 (mv 1), o 67 (mv 18), o 68 (.call (cf 71) [(T 65), (T 66), (T 67)]), o 69 (ln 7 20), o 70 (.call (cf 143) [(T 64), (T 68), (T 69)])]
def r84_26t : LO := [o 21 (mv 70)]
def r84_26o : LN := [[], [], [], [], [1, 2, 3], [], [0, 4, 5]]
def r84_27 : LO := [o 71 (mv 17), o 72 (.un .not (T 71)), o 73 (mv 72), og 74 (mv 21) 73 false, og 75 (.bin .eql (T 74) (.c aE)) 73 false, o 76 (.pick (T 73) (cb true) (T 75))]
def r84_28 : LO := [o 77 (ln 7 7), o 8 (.mv (.c aE))]
def r84_28t : LO := [on (st 7 9 77), o 10 (mi 14)]
def r84_28o : LN := [[], []]
def k84_3 : ACode := .cond (T 76) (.seq (.drawn r84_28o r84_28 r84_28t) .ret) .skip
def r84_34 : LO := [o 78 (mv 13), o 79 (mv 21), o 80 (.call (cf 9) [(T 79)]), o 81 (.bin .add (.c (aS ⟨#[47]⟩)) (T 80)), o 82 (.bin .add (T 78) (T 81)), o 13 (mv 82)]
def r84_35 : LO := [o 83 (ln 7 7), o 84 (mv 18), o 85 (.call (cf 68) [(T 84)]), o 86 (.call (cf 85) [(T 83), (T 85)])]
def r84_35t : LO := [on (st 7 7 86)]
def r84_35o : LN := [[], [], [1], [0, 2]]
def k84_4 : ACode := .seq (.seq (.region r84_27) k84_3) (.seq (.region r84_34) (.drawn r84_35o r84_35 r84_35t))
def k84_5 : ACode := .seq (.drawn r84_25o r84_25 r84_25t) (.seq (.drawn r84_26o r84_26 r84_26t) k84_4)
def k84_6 : ACode := .seq (.region r84_17) (.seq (.seq (.region r84_18) k84_2) k84_5)
def k84_7 : ACode := .seq (.region r84_8) (.seq (.region r84_9) (.seq k84_1 k84_6))
def r84_46 : LO := [o 87 (.bin .add (T 30) (ci 1)), o 30 (mv 87)]
def k84_8 : ACode := .seq (.cond (T 31) .skip (.exit 0)) (.seq (.block 1 k84_7) (.region r84_46))
def k84_9 : ACode := .seq (.region r84_4) k84_8
def r84_53 : LO := [o 88 (mv 13), o 89 (ln 7 7), o 8 (mv 88)]
def r84_53t : LO := [on (st 7 9 89), o 10 (mi 0)]
def r84_53o : LN := [[], [], [0]]
def k84_10 : ACode := .seq (.seq (.region r84_3) (.block 0 (.loop k84_9))) (.seq (.drawn r84_53o r84_53 r84_53t) .ret)
def k84_11 : ACode := .seq (.region r84_0) (.seq (.region r84_1) (.seq (.region r84_2) k84_10))
theorem fn84 : getFn Tryz.prog 84 = some (90, k84_11, [.tmp 8, .cell 9 (some 7), .tmp 10]) := by kernel_rfl
def r71_0 : LO := [o 3 (bx 0), o 6 (.alloc [(aI 0), aE, aE, (aI 0), (aI 0), (aI 0), (aI 0), (aI 0)])]
def r71_1 : LO := [o 12 (mv 2), o 13 (.len false (T 12)), o 7 (mv 13)]
def r71_2 : LO := [o 14 (mv 7), o 15 (.bin .gtr (T 14) (ci 1))]
def r71_3 : LO := [o 16 (mv 2), o 17 (mv 7), o 18 (.bin .sub (T 17) (ci 2)), o 19 (.idxSl 16 (T 16) (T 18)), o 20 (fa 4 19), o 21 (fa 1 20), o 22 (ld 21), o 1 (mv 22)]
def k71_1 : ACode := .seq (.region r71_1) (.seq (.region r71_2) (.cond (T 15) (.region r71_3) .skip))
def r71_8 : LO := [o 24 (fa 3 3), o 25 (ln 2 24), o 26 (mv 1), o 27 (.call (cf 122) [(T 25), (T 26)]), o 23 (mv 27), o 28 (.extract 0 (T 23)), o 29 (.extract 1 (T 23)), o 8 (mv 28), o 9 (mv 29)]
def r71_9 : LO := [o 31 (fa 3 3), o 32 (fa 0 31), o 33 (ld 32), o 34 (mv 8), o 35 (.idxSl 3 (T 33) (T 34)), o 36 (ln 3 35), o 37 (mv 2), o 38 (mv 2), o 39 (.len false (T 38)), o 40 (.bin .sub (T 39) (ci 1)), o 41 (.idxSl 16 (T 37) (T 40)), o 42 (fa 0 41), o 43 (ld 42), o 44 (.call (cf 123) [(T 36), (T 43)]), o 30 (mv 44), o 45 (.extract 0 (T 30)), o 46 (.extract 1 (T 30)), o 10 (.alloc [(aI 0), aE, aE, (aI 0), (aI 0), (aI 0), (aI 0), (aI 0)]), on (st 8 10 45)]
def r71_9t : LO := [o 11 (mv 46)]
def r71_9o : LN := [[], [0], [1], [], [2, 3], [4], [], [], [7], [8], [6, 9], [10], [11], [5, 12], [13], [14], [14], [], [0, 1, 2, 3, 4, 5, 6, 7, 8, 9, 10, 11, 12, 13, 14, 15, 17]]
def r71_10 : LO := [o 47 (ln 8 10), on (st 8 6 47)]
def k71_2 : ACode := .seq (.drawn r71_9o r71_9 r71_9t) (.seq (.region r71_10) .ret)
def k71_3 : ACode := .seq (.region r71_0) (.seq k71_1 (.seq (.region r71_8) k71_2))
theorem fn71 : getFn Tryz.prog 71 = some (48, k71_3, [.cell 6 (some 8)]) := by kernel_rfl
def r9_0 : LO := [o 2 (.mv (.c aE))]
def r9_1 : LO := [o 3 (.allocB 72 5)]
def r9_2 : LO := [o 6 (mv 0), o 7 (.len true (T 6)), o 8 (mi 0)]
def r9_3 : LO := [o 9 (.bin .lss (T 8) (T 7))]
def r9_7 : LO := [o 10 (mv 8), o 4 (mv 10)]
def r9_8 : LO := [o 11 (mv 0), o 12 (mv 4), o 13 (.idxS (T 11) (T 12)), o 5 (mv 13)]
def r9_9 : LO := [o 14 (mv 5), o 15 (.call (cf 25) [(T 14)])]
def r9_10 : LO := [o 16 (mv 5), o 17 (.call (cf 21) [(T 3), (T 16)])]
def r9_11 : LO := [o 18 (mv 5), o 19 (.bin .shr (T 18) (.c (aU 4))), o 20 (mv 5), o 21 (.bin .shr (T 20) (.c (aU 4))), o 22 (.bin .add (T 21) (.c (aC 1))), o 23 (.sliceS (.c (aS ⟨#[48, 49, 50, 51, 52, 53, 54, 55, 56, 57, 65, 66, 67, 68, 69, 70]⟩)) (some (T 19)) (some (T 22))), o 24 (.bin .add (.c (aS ⟨#[37]⟩)) (T 23)), o 25 (mv 5), o 26 (.bin .and (T 25) (.c (aC 15))), o 27 (mv 5), o 28 (.bin .and (T 27) (.c (aC 15))), o 29 (.bin .add (T 28) (.c (aC 1))), o 30 (.sliceS (.c (aS ⟨#[48, 49, 50, 51, 52, 53, 54, 55, 56, 57, 65, 66, 67, 68, 69, 70]⟩)) (some (T 26)) (some (T 29))), o 31 (.bin .add (T 24) (T 30)), o 32 (.call (cf 26) [(T 3), (T 31)])]
def r9_11t : LO := []
def r9_11o : LN := [[], [0], [], [2], [3], [1, 4], [5], [], [7], [], [9], [10], [8, 11], [6, 12], [13]]
def k9_1 : ACode := .seq (.region r9_9) (.cond (T 15) (.region r9_10) (.drawn r9_11o r9_11 r9_11t))
def r9_17 : LO := [o 33 (.bin .add (T 8) (ci 1)), o 8 (mv 33)]
def k9_2 : ACode := .seq (.block 1 (.seq (.region r9_7) (.seq (.region r9_8) k9_1))) (.region r9_17)
def k9_3 : ACode := .seq (.region r9_3) (.seq (.cond (T 9) .skip (.exit 0)) k9_2)
def r9_24 : LO := [o 34 (.call (cf 23) [(T 3)]), o 2 (mv 34)]
def k9_4 : ACode := .seq (.seq (.region r9_2) (.block 0 (.loop k9_3))) (.seq (.region r9_24) .ret)
def k9_5 : ACode := .seq (.region r9_0) (.seq (.region r9_1) k9_4)
theorem fn9 : getFn Tryz.prog 9 = some (35, k9_5, [.tmp 2]) := by kernel_rfl
def r21_0 : LO := [o 4 (.mv (.c (.v .nilIface)))]
def r21_1 : LO := [o 5 (mv 0), o 6 (.call (cf 47) [(T 5)])]
def r21_2 : LO := [o 7 (mv 0), o 8 (mv 0), o 9 (.nilCheck (T 8)), o 10 (fa 1 9), o 11 (ld 10), o 12 (mv 1), o 13 (.sliceLit 1 1 [(aC 0)] [((0, 1), (T 12))]), o 14 (.append 5 1 1 (T 11) (T 13)), o 15 (.nilCheck (T 7)), o 16 (fa 1 15), on (st 1 16 14)]
def r21_3 : LO := [o 4 (.mv (.c (.v .nilIface)))]
def k21_1 : ACode := .seq (.region r21_1) (.seq (.region r21_2) (.seq (.region r21_3) .ret))
def k21_2 : ACode := .seq (.region r21_0) k21_1
theorem fn21 : getFn Tryz.prog 21 = some (17, k21_2, [.tmp 4]) := by kernel_rfl
def r38_0 : LO := [o 3 (bx 0), o 5 (bx 2), o 6 (.alloc zV)]
def r38_1 : LO := [o 17 (ln 3 3), o 18 (mv 1), o 19 (.call (cf 74) [(T 17), (T 18)]), o 16 (mv 19), o 20 (.extract 0 (T 16)), o 21 (.extract 1 (T 16)), o 7 (.alloc [aE, .nil, .nil, .nil, .nil]), on (st 5 7 20), o 8 (mv 21)]
def r38_2 : LO := [o 22 (fa 6 5), o 23 (ld 22), o 24 (.call (cf 77) [(T 23)]), o 25 (.build zV [((0, 1), (ci 10)), ((6, 1), (T 24))]), o 9 (.alloc zV), on (st 7 9 25)]
def r38_3 : LO := [o 26 (fa 5 5), o 27 (ld 26), o 28 (.call (cf 78) [(T 27)]), o 29 (.len false (T 28)), o 30 (mi 0)]
def r38_4 : LO := [o 31 (.bin .lss (T 30) (T 29))]
def r38_8 : LO := [o 32 (.idxSl 8 (T 28) (T 30)), o 33 (ln 8 32), o 11 (.alloc [(aI 0), (aI 0), (aU 0), aE, .nil, .nil, .nil, .nil]), on (st 8 11 33)]
def r38_9 : LO := [o 35 (ln 5 7), o 36 (fa 0 11), o 37 (ld 36), o 38 (.call (cf 79) [(T 35), (T 37)]), o 34 (mv 38), o 39 (.extract 0 (T 34)), o 40 (.extract 1 (T 34)), o 12 (.alloc [(aI 0), aE, (aI 0), (aI 0), (aI 0), aE, aE, (aB false), (aI 0), (aU 0), aE, .nil, .nil, .nil, .nil, .nil]), on (st 16 12 39), o 13 (mv 40)]
def r38_10 : LO := [o 42 (ln 3 3), o 43 (ln 16 12), o 44 (fa 1 11), o 45 (ln 7 44), o 46 (.call (cf 80) [(T 42), (T 43), (T 45)]), o 41 (mv 46), o 47 (.extract 0 (T 41)), o 48 (.extract 1 (T 41)), o 14 (.alloc zV), on (st 7 14 47), o 15 (mv 48)]
def r38_11 : LO := [o 49 (mv 15)]
def r38_12 : LO := [o 50 (fa 5 9), o 51 (ld 50), o 52 (fa 0 11), o 53 (ld 52), o 54 (ln 7 14), o 55 (.build [(aI 0), (aI 0), (aU 0), aE, .nil, .nil, .nil, .nil] [((0, 1), (T 53)), ((1, 7), (T 54))]), o 56 (.sliceLit 8 1 [(aI 0), (aI 0), (aU 0), aE, .nil, .nil, .nil, .nil] [((0, 8), (T 55))]), o 57 (.append 66 8 136 (T 51) (T 56)), o 58 (fa 5 9), on (st 1 58 57)]
def k38_1 : ACode := .seq (.region r38_10) (.seq (.region r38_11) (.cond (T 49) (.region r38_12) .skip))
def r38_20 : LO := [o 59 (.bin .add (T 30) (ci 1)), o 30 (mv 59)]
def k38_2 : ACode := .seq (.block 1 (.seq (.region r38_8) (.seq (.region r38_9) k38_1))) (.region r38_20)
def k38_3 : ACode := .seq (.region r38_4) (.seq (.cond (T 31) .skip (.exit 0)) k38_2)
def r38_27 : LO := [o 60 (fa 6 9), o 61 (ld 60), o 62 (.call (cf 81) [(T 61), (cf 82)])]
def r38_28 : LO := [o 63 (ln 7 9), on (st 7 6 63)]
def k38_4 : ACode := .seq (.seq (.region r38_3) (.block 0 (.loop k38_3))) (.seq (.region r38_27) (.seq (.region r38_28) .ret))
def k38_5 : ACode := .seq (.region r38_0) (.seq (.region r38_1) (.seq (.region r38_2) k38_4))
theorem fn38 : getFn Tryz.prog 38 = some (64, k38_5, [.cell 6 (some 7)]) := by kernel_rfl
def k80_12 : ACode := (.seq (.region [⟨(.some 3), (.box (.t 0)), .none⟩, ⟨(.some 4), (.box (.t 1)), .none⟩, ⟨(.some 5), (.box (.t 2)), .none⟩, ⟨(.some 6), (.alloc [(.v (.int .i64 0)), (.v (.int .u64 0)), (.v (.string ⟨⟨[]⟩⟩)), .nil, .nil, .nil, .nil]), .none⟩, ⟨(.some 7), (.mv (.c (.v (.bool false)))), .none⟩]) (.seq (.seq (.region [⟨(.some 14), (.fieldAddr 2 (.t 4)), .none⟩, ⟨(.some 15), (.load .none (.t 14)), .none⟩]) (.block 0 (.seq (.region [⟨(.some 17), (.bin .eql (.t 15) (.c (.v (.int .i64 4)))), .none⟩, ⟨(.some 16), (.mv (.t 17)), .none⟩]) (.cond (.t 16) (.seq (.region [⟨(.some 18), (.build [(.v (.int .i64 0)), (.v (.int .u64 0)), (.v (.string ⟨⟨[]⟩⟩)), .nil, .nil, .nil, .nil] [((0, 1), (.c (.v (.int .i64 11))))]), .none⟩, ⟨(.some 8), (.alloc [(.v (.int .i64 0)), (.v (.int .u64 0)), (.v (.string ⟨⟨[]⟩⟩)), .nil, .nil, .nil, .nil]), .none⟩, ⟨.none, (.store 7 (.t 8) (.t 18)), .none⟩]) (.seq (.seq (.region [⟨(.some 19), (.fieldAddr 3 (.t 5)), .none⟩, ⟨(.some 20), (.load .none (.t 19)), .none⟩, ⟨(.some 21), (.len false (.t 20)), .none⟩, ⟨(.some 22), (.mv (.c (.v (.int .i64 0)))), .none⟩]) (.block 1 (.loop (.seq (.region [⟨(.some 23), (.bin .lss (.t 22) (.t 21)), .none⟩]) (.seq (.cond (.t 23) .skip (.exit 1)) (.seq (.block 2 (.seq (.region [⟨(.some 24), (.idxSl 7 (.t 20) (.t 22)), .none⟩, ⟨(.some 25), (.load (.some 7) (.t 24)), .none⟩, ⟨(.some 10), (.alloc [(.v (.int .i64 0)), (.v (.int .u64 0)), (.v (.string ⟨⟨[]⟩⟩)), .nil, .nil, .nil, .nil]), .none⟩, ⟨.none, (.store 7 (.t 10) (.t 25)), .none⟩]) (.drawn [[], [0], [], [], [3], [], [2, 4, 5], [6], [1, 6, 7]] [⟨(.some 26), (.fieldAddr 3 (.t 8)), .none⟩, ⟨(.some 27), (.load .none (.t 26)), .none⟩, ⟨(.some 28), (.load (.some 3) (.t 3)), .none⟩, ⟨(.some 29), (.fieldAddr 4 (.t 4)), .none⟩, ⟨(.some 30), (.load (.some 2) (.t 29)), .none⟩, ⟨(.some 31), (.load (.some 7) (.t 10)), .none⟩, ⟨(.some 32), (.call (.c (.clo (.func 137) [] [])) [(.t 28), (.t 30), (.t 31)]), .none⟩, ⟨(.some 33), (.sliceLit 7 1 [(.v (.int .i64 0)), (.v (.int .u64 0)), (.v (.string ⟨⟨[]⟩⟩)), .nil, .nil, .nil, .nil] [((0, 7), (.t 32))]), .none⟩, ⟨(.some 34), (.append 55 7 128 (.t 27) (.t 33)), .none⟩] [⟨(.some 35), (.fieldAddr 3 (.t 8)), .none⟩, ⟨.none, (.store 1 (.t 35) (.t 34)), .none⟩]))) (.region [⟨(.some 36), (.bin .add (.t 22) (.c (.v (.int .i64 1)))), .none⟩, ⟨(.some 22), (.mv (.t 36)), .none⟩]))))))) (.seq (.drawn [[], [], [1], [2], [3], [0]] [⟨(.some 37), (.load (.some 7) (.t 8)), .none⟩, ⟨(.some 38), (.fieldAddr 3 (.t 8)), .none⟩, ⟨(.some 39), (.load .none (.t 38)), .none⟩, ⟨(.some 40), (.len false (.t 39)), .none⟩, ⟨(.some 41), (.bin .gtr (.t 40) (.c (.v (.int .i64 0)))), .none⟩, ⟨.none, (.store 7 (.t 6) (.t 37)), .none⟩] [⟨(.some 7), (.mv (.t 41)), .none⟩]) .ret))) (.seq (.region [⟨(.some 43), (.bin .eql (.t 15) (.c (.v (.int .i64 5)))), .none⟩, ⟨(.some 42), (.mv (.t 43)), .none⟩]) (.cond (.t 42) (.seq (.region [⟨(.some 44), (.build [(.v (.int .i64 0)), (.v (.int .u64 0)), (.v (.string ⟨⟨[]⟩⟩)), .nil, .nil, .nil, .nil] [((0, 1), (.c (.v (.int .i64 12))))]), .none⟩, ⟨(.some 11), (.alloc [(.v (.int .i64 0)), (.v (.int .u64 0)), (.v (.string ⟨⟨[]⟩⟩)), .nil, .nil, .nil, .nil]), .none⟩, ⟨.none, (.store 7 (.t 11) (.t 44)), .none⟩]) (.seq (.seq (.region [⟨(.some 45), (.fieldAddr 4 (.t 5)), .none⟩, ⟨(.some 46), (.load .none (.t 45)), .none⟩, ⟨(.some 47), (.call (.c (.clo (.func 138) [] [])) [(.t 46)]), .none⟩, ⟨(.some 48), (.len false (.t 47)), .none⟩, ⟨(.some 49), (.mv (.c (.v (.int .i64 0)))), .none⟩]) (.block 3 (.loop (.seq (.region [⟨(.some 50), (.bin .lss (.t 49) (.t 48)), .none⟩]) (.seq (.cond (.t 50) .skip (.exit 3)) (.seq (.block 4 (.seq (.region [⟨(.some 51), (.idxSl 14 (.t 47) (.t 49)), .none⟩, ⟨(.some 52), (.load (.some 14) (.t 51)), .none⟩, ⟨(.some 13), (.alloc [(.v (.int .i64 0)), (.v (.int .u64 0)), (.v (.string ⟨⟨[]⟩⟩)), .nil, .nil, .nil, .nil, (.v (.int .i64 0)), (.v (.int .u64 0)), (.v (.string ⟨⟨[]⟩⟩)), .nil, .nil, .nil, .nil]), .none⟩, ⟨.none, (.store 14 (.t 13) (.t 52)), .none⟩]) (.drawn [[], [0], [], [2], [3], [], [], [6], [], [8], [4, 5, 7, 9], [4, 10], [11], [1, 10, 12]] [⟨(.some 53), (.fieldAddr 4 (.t 11)), .none⟩, ⟨(.some 54), (.load .none (.t 53)), .none⟩, ⟨(.some 55), (.fieldAddr 0 (.t 13)), .none⟩, ⟨(.some 56), (.load (.some 7) (.t 55)), .none⟩, ⟨(.some 57), (.call (.c (.clo (.func 139) [] [])) [(.t 56)]), .none⟩, ⟨(.some 58), (.load (.some 3) (.t 3)), .none⟩, ⟨(.some 59), (.fieldAddr 4 (.t 4)), .none⟩, ⟨(.some 60), (.load (.some 2) (.t 59)), .none⟩, ⟨(.some 61), (.fieldAddr 7 (.t 13)), .none⟩, ⟨(.some 62), (.load (.some 7) (.t 61)), .none⟩, ⟨(.some 63), (.call (.c (.clo (.func 137) [] [])) [(.t 58), (.t 60), (.t 62)]), .none⟩, ⟨(.some 64), (.build [(.v (.int .i64 0)), (.v (.int .u64 0)), (.v (.string ⟨⟨[]⟩⟩)), .nil, .nil, .nil, .nil, (.v (.int .i64 0)), (.v (.int .u64 0)), (.v (.string ⟨⟨[]⟩⟩)), .nil, .nil, .nil, .nil] [((0, 7), (.t 57)), ((7, 7), (.t 63))]), .none⟩, ⟨(.some 65), (.sliceLit 14 1 [(.v (.int .i64 0)), (.v (.int .u64 0)), (.v (.string ⟨⟨[]⟩⟩)), .nil, .nil, .nil, .nil, (.v (.int .i64 0)), (.v (.int .u64 0)), (.v (.string ⟨⟨[]⟩⟩)), .nil, .nil, .nil, .nil] [((0, 14), (.t 64))]), .none⟩, ⟨(.some 66), (.append 237 14 256 (.t 54) (.t 65)), .none⟩] [⟨(.some 67), (.fieldAddr 4 (.t 11)), .none⟩, ⟨.none, (.store 1 (.t 67) (.t 66)), .none⟩]))) (.region [⟨(.some 68), (.bin .add (.t 49) (.c (.v (.int .i64 1)))), .none⟩, ⟨(.some 49), (.mv (.t 68)), .none⟩]))))))) (.seq (.drawn [[], [], [1], [2], [3], [0]] [⟨(.some 69), (.load (.some 7) (.t 11)), .none⟩, ⟨(.some 70), (.fieldAddr 4 (.t 11)), .none⟩, ⟨(.some 71), (.load .none (.t 70)), .none⟩, ⟨(.some 72), (.len false (.t 71)), .none⟩, ⟨(.some 73), (.bin .gtr (.t 72) (.c (.v (.int .i64 0)))), .none⟩, ⟨.none, (.store 7 (.t 6) (.t 69)), .none⟩] [⟨(.some 7), (.mv (.t 73)), .none⟩]) .ret))) .skip)))))) (.seq (.drawn [[], [], [1], [], [0, 2, 3], [], [5], [6], [4, 7], [8], [8, 9], [8, 10], [8, 11], [0, 1, 2, 3, 4, 10]] [⟨(.some 74), (.load (.some 3) (.t 3)), .none⟩, ⟨(.some 75), (.fieldAddr 4 (.t 4)), .none⟩, ⟨(.some 76), (.load (.some 2) (.t 75)), .none⟩, ⟨(.some 77), (.load (.some 7) (.t 5)), .none⟩, ⟨(.some 78), (.call (.c (.clo (.func 137) [] [])) [(.t 74), (.t 76), (.t 77)]), .none⟩, ⟨(.some 79), (.fieldAddr 2 (.t 4)), .none⟩, ⟨(.some 80), (.load .none (.t 79)), .none⟩, ⟨(.some 81), (.bin .neq (.t 80) (.c (.v (.int .i64 3)))), .none⟩, ⟨(.some 82), (.mv (.t 81)), .none⟩, ⟨(.some 83), (.load (.some 7) (.t 5)), (.some (82, false))⟩, ⟨(.some 84), (.call (.c (.clo (.func 140) [] [])) [(.t 83)]), (.some (82, false))⟩, ⟨(.some 85), (.un .not (.t 84)), (.some (82, false))⟩, ⟨(.some 86), (.pick (.t 82) (.c (.v (.bool true))) (.t 85)), .none⟩, ⟨.none, (.store 7 (.t 6) (.t 78)), .none⟩] [⟨(.some 7), (.mv (.t 86)), .none⟩]) .ret)))
theorem fn80 : getFn Tryz.prog 80 = some (87, k80_12, [(.cell 6 (.some 7)), (.tmp 7)]) := by kernel_rfl
def r137_0 : LO := [o 3 (bx 0), o 4 (bx 1), o 5 (bx 2), o 6 (.alloc zV)]
def r137_1 : LO := [o 7 (fa 0 4), o 8 (ld 7), o 9 (.bin .eql (T 8) (ci 10))]
def r137_2 : LO := [o 10 (ln 3 3), o 11 (fa 1 4), o 12 (ld 11), o 13 (ln 7 5), o 14 (.call (cf 38) [(T 10), (T 12), (T 13)]), on (st 7 6 14)]
def k137_1 : ACode := .seq (.region r137_1) (.cond (T 9) (.seq (.region r137_2) .ret) .skip)
def r137_8 : LO := [o 15 (ln 7 5), o 16 (.call (cf 139) [(T 15)]), on (st 7 6 16)]
def k137_2 : ACode := .seq (.region r137_0) (.seq k137_1 (.seq (.region r137_8) .ret))
theorem fn137 : getFn Tryz.prog 137 = some (17, k137_2, [.cell 6 (some 7)]) := by kernel_rfl
def r79_0 : LO := [o 2 (bx 0), o 3 (bx 1), o 4 (.alloc [(aI 0), aE, (aI 0), (aI 0), (aI 0), aE, aE, (aB false), (aI 0), (aU 0), aE, .nil, .nil, .nil, .nil, .nil]), o 5 (mb false)]
def r79_1 : LO := [o 6 (fa 1 2), o 7 (ld 6), o 8 (.func (.func 136) [] [(T 3)]), o 9 (.call (cf 135) [(T 7), (T 8)]), o 10 (.extract 0 (T 9)), o 11 (.extract 1 (T 9)), on (st 16 4 10), o 5 (mv 11)]
def k79_1 : ACode := .seq (.region r79_0) (.seq (.region r79_1) .ret)
theorem fn79 : getFn Tryz.prog 79 = some (12, k79_1, [.cell 4 (some 16), .tmp 5]) := by kernel_rfl
def r136_0 : LO := [o 2 (bx 0), o 3 (mb false)]
def r136_1 : LO := [o 4 (fa 0 2), o 5 (ld 4), o 6 (ld 1), o 7 (.bin .eql (T 5) (T 6)), o 3 (mv 7)]
def k136_1 : ACode := .seq (.region r136_0) (.seq (.region r136_1) .ret)
theorem fn136 : getFn Tryz.prog 136 = some (8, k136_1, [.tmp 3]) := by kernel_rfl
def r37_0 : LO := [o 3 (bx 0), o 5 (bx 2), o 6 (mi 0)]
def r37_1 : LO := [o 11 (ln 3 3), o 12 (mv 1), o 13 (.call (cf 74) [(T 11), (T 12)]), o 10 (mv 13), o 14 (.extract 0 (T 10)), o 15 (.extract 1 (T 10)), o 7 (.alloc [aE, .nil, .nil, .nil, .nil]), on (st 5 7 14), o 8 (mv 15)]
def r37_2 : LO := [o 16 (mv 8), o 17 (.un .not (T 16))]
def r37_3 : LO := [o 6 (mi 10)]
def k37_1 : ACode := .seq (.region r37_2) (.cond (T 17) (.seq (.region r37_3) .ret) .skip)
def r37_9 : LO := [o 18 (ln 3 3), o 19 (ln 5 7), o 20 (ln 7 5), o 21 (.call (cf 75) [(T 18), (T 19), (T 20), (ci 1)]), o 9 (mv 21)]
def r37_10 : LO := [o 22 (mv 9), o 23 (.bin .neq (T 22) (ci 0))]
def r37_11 : LO := [o 24 (mv 9), o 6 (mv 24)]
def k37_2 : ACode := .seq (.region r37_10) (.cond (T 23) (.seq (.region r37_11) .ret) .skip)
def r37_18 : LO := [o 25 (ln 7 5), o 26 (.call (cf 76) [(T 25)]), o 27 (.bin .gtr (T 26) (ci 4096))]
def r37_19 : LO := [o 6 (mi 3)]
def k37_3 : ACode := .seq (.region r37_18) (.cond (T 27) (.seq (.region r37_19) .ret) .skip)
def r37_25 : LO := [o 6 (mi 0)]
def k37_4 : ACode := .seq (.seq (.region r37_9) k37_2) (.seq k37_3 (.seq (.region r37_25) .ret))
def k37_5 : ACode := .seq (.region r37_0) (.seq (.region r37_1) (.seq k37_1 k37_4))
theorem fn37 : getFn Tryz.prog 37 = some (28, k37_5, [.tmp 6]) := by kernel_rfl
def r75_0 : LO := [o 4 (bx 0), o 5 (bx 1), o 6 (bx 2), o 8 (mi 0)]
def r75_1 : LO := [o 17 (fa 0 6), o 18 (ld 17), o 19 (.bin .neq (T 18) (ci 10)), o 20 (mv 19), og 21 (ln 7 6) 20 false, og 22 (.call (cf 127) [(T 21)]) 20 false, o 23 (.pick (T 20) (cb true) (T 22)), o 16 (mv 23)]
def r75_2 : LO := [o 8 (mi 12)]
def r75_5 : LO := [o 25 (mv 3), o 26 (.bin .gtr (T 25) (ci 16)), o 24 (mv 26)]
def r75_6 : LO := [o 8 (mi 17)]
def k75_1 : ACode := .seq (.region r75_5) (.cond (T 24) (.seq (.region r75_6) .ret) .skip)
def k75_2 : ACode := .seq (.region r75_1) (.cond (T 16) (.seq (.region r75_2) .ret) k75_1)
def r75_15 : LO := [o 27 (fa 5 6), o 28 (ld 27), o 29 (.len false (T 28)), o 30 (mi 0)]
def r75_16 : LO := [o 31 (.bin .lss (T 30) (T 29))]
def r75_20 : LO := [o 32 (mv 30), o 9 (mv 32)]
def r75_21 : LO := [o 33 (ln 3 4), o 34 (ln 5 5), o 35 (fa 5 6), o 36 (ld 35), o 37 (mv 9), o 38 (mv 3), o 39 (.call (cf 128) [(T 33), (T 34), (T 36), (T 37), (T 38)]), o 10 (mv 39)]
def r75_22 : LO := [o 40 (mv 10), o 41 (.bin .neq (T 40) (ci 0))]
def r75_23 : LO := [o 42 (mv 10), o 8 (mv 42)]
def k75_3 : ACode := .seq (.region r75_22) (.cond (T 41) (.seq (.region r75_23) .ret) .skip)
def k75_4 : ACode := .block 2 (.seq (.region r75_20) (.seq (.region r75_21) k75_3))
def r75_32 : LO := [o 43 (.bin .add (T 30) (ci 1)), o 30 (mv 43)]
def k75_5 : ACode := .seq (.cond (T 31) .skip (.exit 1)) (.seq k75_4 (.region r75_32))
def k75_6 : ACode := .seq (.region r75_16) k75_5
def r75_39 : LO := [o 44 (fa 1 5), o 45 (ld 44), o 46 (.len false (T 45)), o 47 (mi 0)]
def r75_40 : LO := [o 48 (.bin .lss (T 47) (T 46))]
def r75_44 : LO := [o 49 (.idxSl 16 (T 45) (T 47)), o 50 (ln 16 49), o 12 (.alloc [(aI 0), aE, (aI 0), (aI 0), (aI 0), aE, aE, (aB false), (aI 0), (aU 0), aE, .nil, .nil, .nil, .nil, .nil]), on (st 16 12 50)]
def r75_45 : LO := [o 51 (fa 2 12), o 52 (ld 51), o 53 (.bin .eql (T 52) (ci 1)), o 54 (mv 53), og 55 (fa 5 6) 54 true, og 56 (ld 55) 54 true, og 57 (.func (.func 130) [] [(T 12)]) 54 true, og 58 (.call (cf 129) [(T 56), (T 57)]) 54 true, og 59 (.un .not (T 58)) 54 true, o 60 (.pick (T 54) (T 59) (cb false))]
def r75_46 : LO := [o 8 (mi 14)]
def k75_7 : ACode := .seq (.region r75_45) (.cond (T 60) (.seq (.region r75_46) .ret) .skip)
def r75_54 : LO := [o 61 (.bin .add (T 47) (ci 1)), o 47 (mv 61)]
def k75_8 : ACode := .seq (.block 4 (.seq (.region r75_44) k75_7)) (.region r75_54)
def k75_9 : ACode := .seq (.region r75_40) (.seq (.cond (T 48) .skip (.exit 3)) k75_8)
def r75_61 : LO := [o 62 (fa 6 6), o 63 (ld 62), o 64 (.len false (T 63)), o 65 (mi 0)]
def r75_62 : LO := [o 66 (.bin .lss (T 65) (T 64))]
def r75_66 : LO := [o 67 (.idxSl 4 (T 63) (T 65)), o 68 (ln 4 67), o 14 (.alloc [(aI 0), (aI 0), (aU 0), aE]), on (st 4 14 68)]
def r75_67 : LO := [o 69 (ln 3 4), o 70 (ln 5 5), o 71 (ln 4 14), o 72 (.call (cf 131) [(T 69), (T 70), (T 71)]), o 15 (mv 72)]
def r75_68 : LO := [o 73 (mv 15), o 74 (.bin .neq (T 73) (ci 0))]
def r75_69 : LO := [o 75 (mv 15), o 8 (mv 75)]
def k75_10 : ACode := .seq (.region r75_68) (.cond (T 74) (.seq (.region r75_69) .ret) .skip)
def k75_11 : ACode := .block 6 (.seq (.region r75_66) (.seq (.region r75_67) k75_10))
def r75_78 : LO := [o 76 (.bin .add (T 65) (ci 1)), o 65 (mv 76)]
def k75_12 : ACode := .seq (.cond (T 66) .skip (.exit 5)) (.seq k75_11 (.region r75_78))
def k75_13 : ACode := .seq (.region r75_62) k75_12
def r75_85 : LO := [o 8 (mi 0)]
def k75_14 : ACode := .seq (.seq (.region r75_61) (.block 5 (.loop k75_13))) (.seq (.region r75_85) .ret)
def k75_15 : ACode := .seq (.seq (.region r75_15) (.block 1 (.loop k75_6))) (.seq (.seq (.region r75_39) (.block 3 (.loop k75_9))) k75_14)
def k75_16 : ACode := .seq (.region r75_0) (.seq (.block 0 k75_2) k75_15)
theorem fn75 : getFn Tryz.prog 75 = some (77, k75_16, [.tmp 8]) := by kernel_rfl
def r250_0 : LO := [o 2 (bx 0), o 3 (bx 1), o 4 (.alloc [aE, (aB false), .nil, .nil, .nil]), o 5 (mb false)]
def r250_1 : LO := [o 6 (fa 1 2), o 7 (ld 6), o 8 (.func (.func 320) [] [(T 3)]), o 9 (.call (cf 319) [(T 7), (T 8)]), o 10 (.extract 0 (T 9)), o 11 (.extract 1 (T 9)), on (st 5 4 10), o 5 (mv 11)]
def k250_1 : ACode := .seq (.region r250_0) (.seq (.region r250_1) .ret)
theorem fn250 : getFn Tryz.prog 250 = some (12, k250_1, [.cell 4 (some 5), .tmp 5]) := by kernel_rfl
def r319_0 : LO := [o 4 (.alloc [aE, (aB false), .nil, .nil, .nil]), o 5 (mb false)]
def r319_1 : LO := [o 9 (mv 0), o 10 (.len false (T 9)), o 11 (mi 0)]
def r319_2 : LO := [o 12 (.bin .lss (T 11) (T 10))]
def r319_6 : LO := [o 13 (.idxSl 5 (T 9) (T 11)), o 14 (ln 5 13), o 7 (.alloc [aE, (aB false), .nil, .nil, .nil]), on (st 5 7 14)]
def r319_7 : LO := [o 15 (mv 1), o 16 (ln 5 7), o 17 (.call (T 15) [(T 16)])]
def r319_8 : LO := [o 18 (ln 5 7), on (st 5 4 18), o 5 (mb true)]
def k319_1 : ACode := .seq (.region r319_7) (.cond (T 17) (.seq (.region r319_8) .ret) .skip)
def r319_16 : LO := [o 19 (.bin .add (T 11) (ci 1)), o 11 (mv 19)]
def k319_2 : ACode := .seq (.block 1 (.seq (.region r319_6) k319_1)) (.region r319_16)
def k319_3 : ACode := .seq (.region r319_2) (.seq (.cond (T 12) .skip (.exit 0)) k319_2)
def r319_23 : LO := [o 8 (.alloc [aE, (aB false), .nil, .nil, .nil])]
def r319_24 : LO := [o 20 (ln 5 8), on (st 5 4 20), o 5 (mb false)]
def k319_4 : ACode := .seq (.seq (.region r319_1) (.block 0 (.loop k319_3))) (.seq (.region r319_23) (.seq (.region r319_24) .ret))
def k319_5 : ACode := .seq (.region r319_0) k319_4
theorem fn319 : getFn Tryz.prog 319 = some (21, k319_5, [.cell 4 (some 5), .tmp 5]) := by kernel_rfl
def r129_0 : LO := [o 3 (bx 1), o 4 (mb false)]
def r129_1 : LO := [o 5 (mv 0), o 6 (.func (.func 187) [] [(T 3)]), o 7 (.call (cf 186) [(T 5), (T 6)]), o 4 (mv 7)]
def k129_1 : ACode := .seq (.region r129_0) (.seq (.region r129_1) .ret)
theorem fn129 : getFn Tryz.prog 129 = some (8, k129_1, [.tmp 4]) := by kernel_rfl
def r187_0 : LO := [o 2 (bx 0), o 3 (mb false)]
def r187_1 : LO := [o 4 (ld 1), o 5 (fa 0 2), o 6 (ld 5), o 7 (.call (T 4) [(T 6)]), o 3 (mv 7)]
def k187_1 : ACode := .seq (.region r187_0) (.seq (.region r187_1) .ret)
theorem fn187 : getFn Tryz.prog 187 = some (8, k187_1, [.tmp 3]) := by kernel_rfl
def r128_0 : LO := [o 5 (bx 0), o 6 (bx 1), o 10 (mi 0)]
def r128_1 : LO := [o 16 (ln 5 6), o 17 (mv 2), o 18 (mv 3), o 19 (.idxSl 8 (T 17) (T 18)), o 20 (fa 0 19), o 21 (ld 20), o 22 (.call (cf 79) [(T 16), (T 21)]), o 15 (mv 22), o 23 (.extract 0 (T 15)), o 24 (.extract 1 (T 15)), o 11 (.alloc [(aI 0), aE, (aI 0), (aI 0), (aI 0), aE, aE, (aB false), (aI 0), (aU 0), aE, .nil, .nil, .nil, .nil, .nil]), on (st 16 11 23)]
def r128_1t : LO := [o 12 (mv 24)]
def r128_1o : LN := [[], [], [], [1, 2], [3], [4], [0, 5], [6], [7], [7], [], [0, 1, 2, 3, 4, 5, 6, 7, 8, 10]]
def r128_2 : LO := [o 25 (mv 12), o 26 (.un .not (T 25))]
def r128_3 : LO := [o 10 (mi 8)]
def k128_1 : ACode := .seq (.region r128_2) (.cond (T 26) (.seq (.region r128_3) .ret) .skip)
def r128_9 : LO := [o 27 (mv 2), o 28 (mv 3), o 29 (.sliceV 8 (T 27) none (some (T 28)) none), o 30 (.func (.func 182) [] [(T 11)]), o 31 (.call (cf 129) [(T 29), (T 30)])]
def r128_10 : LO := [o 10 (mi 9)]
def k128_2 : ACode := .seq (.region r128_9) (.cond (T 31) (.seq (.region r128_10) .ret) .skip)
def r128_16 : LO := [o 32 (ln 5 6), o 33 (fa 6 11), o 34 (ld 33), o 35 (.call (cf 183) [(T 32), (T 34)]), o 36 (.len false (T 35)), o 37 (mi 0)]
def r128_17 : LO := [o 38 (.bin .lss (T 37) (T 36))]
def r128_21 : LO := [o 39 (.idxSl 16 (T 35) (T 37)), o 40 (ln 16 39), o 14 (.alloc [(aI 0), aE, (aI 0), (aI 0), (aI 0), aE, aE, (aB false), (aI 0), (aU 0), aE, .nil, .nil, .nil, .nil, .nil]), on (st 16 14 40)]
def r128_22 : LO := [o 41 (fa 0 14), o 42 (ld 41), o 43 (fa 0 11), o 44 (ld 43), o 45 (.bin .neq (T 42) (T 44)), o 46 (mv 45), og 47 (mv 2) 46 true, og 48 (mv 3) 46 true, og 49 (.sliceV 8 (T 47) none (some (T 48)) none) 46 true, og 50 (.func (.func 184) [] [(T 14)]) 46 true, og 51 (.call (cf 129) [(T 49), (T 50)]) 46 true, o 52 (.pick (T 46) (T 51) (cb false))]
def r128_23 : LO := [o 10 (mi 15)]
def k128_3 : ACode := .seq (.region r128_22) (.cond (T 52) (.seq (.region r128_23) .ret) .skip)
def r128_31 : LO := [o 53 (.bin .add (T 37) (ci 1)), o 37 (mv 53)]
def k128_4 : ACode := .seq (.block 1 (.seq (.region r128_21) k128_3)) (.region r128_31)
def k128_5 : ACode := .seq (.region r128_17) (.seq (.cond (T 38) .skip (.exit 0)) k128_4)
def r128_38 : LO := [o 54 (ln 3 5), o 55 (ln 16 11), o 56 (mv 2), o 57 (mv 3), o 58 (.idxSl 8 (T 56) (T 57)), o 59 (fa 1 58), o 60 (ln 7 59), o 61 (mv 4), o 62 (.call (cf 185) [(T 54), (T 55), (T 60), (T 61)])]
def r128_38t : LO := [o 10 (mv 62)]
def r128_38o : LN := [[], [], [], [], [2, 3], [4], [5], [], [0, 1, 6, 7]]
def k128_6 : ACode := .seq (.seq (.region r128_16) (.block 0 (.loop k128_5))) (.seq (.drawn r128_38o r128_38 r128_38t) .ret)
def k128_7 : ACode := .seq (.drawn r128_1o r128_1 r128_1t) (.seq k128_1 (.seq k128_2 k128_6))
def k128_8 : ACode := .seq (.region r128_0) k128_7
theorem fn128 : getFn Tryz.prog 128 = some (63, k128_8, [.tmp 10]) := by kernel_rfl
def r185_0 : LO := [o 4 (bx 0), o 5 (bx 1), o 6 (bx 2), o 8 (mi 0)]
def r185_1 : LO := [o 12 (fa 2 5), o 13 (ld 12)]
def r185_2 : LO := [o 15 (.bin .eql (T 13) (ci 4)), o 14 (mv 15)]
def r185_3 : LO := [o 16 (fa 0 6), o 17 (ld 16), o 18 (.bin .neq (T 17) (ci 11)), o 19 (mv 18), og 20 (ln 7 6) 19 false, og 21 (.call (cf 127) [(T 20)]) 19 false, o 22 (.pick (T 19) (cb true) (T 21))]
def r185_4 : LO := [o 8 (mi 12)]
def k185_1 : ACode := .seq (.region r185_3) (.cond (T 22) (.seq (.region r185_4) .ret) .skip)
def r185_10 : LO := [o 23 (fa 3 6), o 24 (ld 23), o 25 (.len false (T 24)), o 26 (mi 0)]
def r185_11 : LO := [o 27 (.bin .lss (T 26) (T 25))]
def r185_15 : LO := [o 28 (.idxSl 7 (T 24) (T 26)), o 29 (ln 7 28), o 10 (.alloc zV), on (st 7 10 29)]
def r185_16 : LO := [o 30 (ln 3 4), o 31 (fa 4 5), o 32 (ln 2 31), o 33 (ln 7 10), o 34 (mv 3), o 35 (.call (cf 247) [(T 30), (T 32), (T 33), (T 34)]), o 11 (mv 35)]
def r185_17 : LO := [o 36 (mv 11), o 37 (.bin .neq (T 36) (ci 0))]
def r185_18 : LO := [o 38 (mv 11), o 8 (mv 38)]
def k185_2 : ACode := .seq (.region r185_17) (.cond (T 37) (.seq (.region r185_18) .ret) .skip)
def k185_3 : ACode := .block 2 (.seq (.region r185_15) (.seq (.region r185_16) k185_2))
def r185_27 : LO := [o 39 (.bin .add (T 26) (ci 1)), o 26 (mv 39)]
def k185_4 : ACode := .seq (.cond (T 27) .skip (.exit 1)) (.seq k185_3 (.region r185_27))
def k185_5 : ACode := .seq (.region r185_11) k185_4
def r185_34 : LO := [o 8 (mi 0)]
def k185_6 : ACode := .seq (.seq (.region r185_10) (.block 1 (.loop k185_5))) (.seq (.region r185_34) .ret)
def r185_39 : LO := [o 41 (.bin .eql (T 13) (ci 5)), o 40 (mv 41)]
def r185_40 : LO := [o 42 (fa 0 6), o 43 (ld 42), o 44 (.bin .neq (T 43) (ci 12)), o 45 (mv 44), og 46 (ln 7 6) 45 false, og 47 (.call (cf 127) [(T 46)]) 45 false, o 48 (.pick (T 45) (cb true) (T 47))]
def r185_41 : LO := [o 8 (mi 12)]
def k185_7 : ACode := .seq (.region r185_40) (.cond (T 48) (.seq (.region r185_41) .ret) .skip)
def r185_47 : LO := [o 49 (ln 3 4), o 50 (ln 16 5), o 51 (fa 4 6), o 52 (ld 51), o 53 (mv 3), o 54 (.call (cf 248) [(T 49), (T 50), (T 52), (T 53)]), o 8 (mv 54)]
def k185_8 : ACode := .cond (T 40) (.seq k185_7 (.seq (.region r185_47) .ret)) .skip
def k185_9 : ACode := .cond (T 14) (.seq k185_1 k185_6) (.seq (.region r185_39) k185_8)
def k185_10 : ACode := .seq (.region r185_1) (.block 0 (.seq (.region r185_2) k185_9))
def r185_58 : LO := [o 55 (ln 3 4), o 56 (fa 4 5), o 57 (ln 2 56), o 58 (ln 7 6), o 59 (mv 3), o 60 (.call (cf 247) [(T 55), (T 57), (T 58), (T 59)]), o 8 (mv 60)]
def k185_11 : ACode := .seq (.region r185_0) (.seq k185_10 (.seq (.region r185_58) .ret))
theorem fn185 : getFn Tryz.prog 185 = some (61, k185_11, [.tmp 8]) := by kernel_rfl
def r316_0 : LO := [o 3 (bx 0), o 4 (bx 1), o 5 (bx 2), o 6 (mi 0)]
def r316_1 : LO := [o 10 (fa 0 5), o 11 (ld 10), o 12 (fa 0 4), o 13 (ld 12), o 14 (.bin .neq (T 11) (T 13)), o 15 (mv 14), og 16 (ln 7 5) 15 false, og 17 (.call (cf 127) [(T 16)]) 15 false, o 18 (.pick (T 15) (cb true) (T 17)), o 9 (mv 18)]
def r316_2 : LO := [o 6 (mi 12)]
def r316_5 : LO := [o 20 (fa 2 5), o 21 (ld 20), o 22 (.len true (T 21)), o 23 (.bin .gtr (T 22) (ci 4096)), o 19 (mv 23)]
def r316_6 : LO := [o 6 (mi 3)]
def r316_9 : LO := [o 25 (fa 0 4), o 26 (ld 25), o 27 (.bin .eql (T 26) (ci 7)), o 28 (mv 27), og 29 (fa 2 5) 28 true, og 30 (ld 29) 28 true, og 31 (.call (cf 275) [(T 30)]) 28 true, og 32 (.un .not (T 31)) 28 true, o 33 (.pick (T 28) (T 32) (cb false)), o 24 (mv 33)]
def r316_10 : LO := [o 6 (mi 7)]
def r316_13 : LO := [o 35 (fa 0 4), o 36 (ld 35), o 37 (ln 7 5), o 38 (.call (cf 266) [(T 36), (T 37)]), o 39 (.un .not (T 38)), o 34 (mv 39)]
def r316_14 : LO := [o 6 (mi 12)]
def k316_1 : ACode := .seq (.region r316_13) (.cond (T 34) (.seq (.region r316_14) .ret) .skip)
def k316_2 : ACode := .seq (.region r316_9) (.cond (T 24) (.seq (.region r316_10) .ret) k316_1)
def k316_3 : ACode := .seq (.region r316_5) (.cond (T 19) (.seq (.region r316_6) .ret) k316_2)
def k316_4 : ACode := .seq (.region r316_1) (.cond (T 9) (.seq (.region r316_2) .ret) k316_3)
def r316_27 : LO := [o 41 (ln 3 3), o 42 (fa 1 4), o 43 (ld 42), o 44 (.call (cf 250) [(T 41), (T 43)]), o 40 (mv 44), o 45 (.extract 0 (T 40)), o 46 (.extract 1 (T 40)), o 7 (.alloc [aE, (aB false), .nil, .nil, .nil]), on (st 5 7 45), o 8 (mv 46)]
def r316_28 : LO := [o 47 (fa 0 4), o 48 (ld 47), o 49 (.bin .eql (T 48) (ci 9)), o 50 (mv 49), og 51 (ln 5 7) 50 true, og 52 (fa 1 5) 50 true, og 53 (ld 52) 50 true, og 54 (.call (cf 251) [(T 51), (T 53)]) 50 true, og 55 (.un .not (T 54)) 50 true, o 56 (.pick (T 50) (T 55) (cb false))]
def r316_29 : LO := [o 6 (mi 16)]
def k316_5 : ACode := .seq (.region r316_28) (.cond (T 56) (.seq (.region r316_29) .ret) .skip)
def r316_36 : LO := [o 6 (mi 0)]
def k316_6 : ACode := .seq (.seq (.region r316_27) k316_5) (.seq (.region r316_36) .ret)
def k316_7 : ACode := .seq (.region r316_0) (.seq (.block 0 k316_4) k316_6)
theorem fn316 : getFn Tryz.prog 316 = some (57, k316_7, [.tmp 6]) := by kernel_rfl
def r127_0 : LO := [o 1 (bx 0), o 2 (mb false)]
def r127_1 : LO := [o 4 (fa 0 1), o 5 (ld 4), o 6 (.bin .eql (T 5) (ci 7)), o 7 (mv 6), og 8 (fa 0 1) 7 false, og 9 (ld 8) 7 false, og 10 (.bin .eql (T 9) (ci 8)) 7 false, o 11 (.pick (T 7) (cb true) (T 10)), o 3 (mv 11)]
def r127_2 : LO := [o 12 (fa 0 1), o 13 (ld 12), o 14 (.bin .neq (T 13) (ci 11)), o 15 (mv 14), og 16 (fa 3 1) 15 true, og 17 (ld 16) 15 true, og 18 (.len false (T 17)) 15 true, og 19 (.bin .gtr (T 18) (ci 0)) 15 true, o 20 (.pick (T 15) (T 19) (cb false)), o 21 (mv 20), og 22 (fa 0 1) 21 false, og 23 (ld 22) 21 false, og 24 (.bin .neq (T 23) (ci 12)) 21 false, og 25 (mv 24) 21 false, og 26 (fa 4 1) 25 true, og 27 (ld 26) 25 true, og 28 (.len false (T 27)) 25 true, og 29 (.bin .gtr (T 28) (ci 0)) 25 true, og 30 (.pick (T 25) (T 29) (cb false)) 21 false, o 31 (.pick (T 21) (cb true) (T 30)), o 32 (mv 31), og 33 (fa 0 1) 32 false, og 34 (ld 33) 32 false, og 35 (.bin .neq (T 34) (ci 10)) 32 false, og 36 (mv 35) 32 false, og 37 (fa 5 1) 36 true, og 38 (ld 37) 36 true, og 39 (.len false (T 38)) 36 true, og 40 (fa 6 1) 36 true, og 41 (ld 40) 36 true, og 42 (.len false (T 41)) 36 true, og 43 (.bin .add (T 39) (T 42)) 36 true, og 44 (.bin .gtr (T 43) (ci 0)) 36 true, og 45 (.pick (T 36) (T 44) (cb false)) 32 false, o 46 (.pick (T 32) (cb true) (T 45)), o 47 (mv 46), og 48 (fa 1 1) 47 false, og 49 (ld 48) 47 false, og 50 (.bin .neq (T 49) (.c (aU 0))) 47 false, og 51 (mv 50) 47 false, og 52 (mv 3) 51 true, og 53 (mv 52) 51 true, og 54 (fa 0 1) 53 false, og 55 (ld 54) 53 false, og 56 (.bin .geq (T 55) (ci 10)) 53 false, og 57 (mv 56) 53 false, og 58 (fa 0 1) 57 true, og 59 (ld 58) 57 true, og 60 (.bin .leq (T 59) (ci 12)) 57 true, og 61 (.pick (T 57) (T 60) (cb false)) 53 false, og 62 (.pick (T 53) (cb true) (T 61)) 51 true, og 63 (.pick (T 51) (T 62) (cb false)) 47 false, o 64 (.pick (T 47) (cb true) (T 63)), o 65 (mv 64), og 66 (fa 2 1) 65 false, og 67 (ld 66) 65 false, og 68 (.bin .neq (T 67) (.c aE)) 65 false, og 69 (mv 68) 65 false, og 70 (mv 3) 69 true, og 71 (.un .not (T 70)) 69 true, og 72 (.pick (T 69) (T 71) (cb false)) 65 false, o 73 (.pick (T 65) (cb true) (T 72)), o 2 (mv 73)]
def k127_1 : ACode := .seq (.region r127_0) (.seq (.region r127_1) (.seq (.region r127_2) .ret))
theorem fn127 : getFn Tryz.prog 127 = some (74, k127_1, [.tmp 2]) := by kernel_rfl
def r247_0 : LO := [o 4 (bx 0), o 5 (bx 1), o 6 (bx 2), o 8 (mi 0)]
def r247_1 : LO := [o 11 (fa 0 5), o 12 (ld 11), o 13 (.bin .eql (T 12) (ci 10))]
def r247_2 : LO := [o 15 (ln 3 4), o 16 (fa 1 5), o 17 (ld 16), o 18 (.call (cf 74) [(T 15), (T 17)]), o 14 (mv 18), o 19 (.extract 0 (T 14)), o 20 (.extract 1 (T 14)), o 9 (.alloc [aE, .nil, .nil, .nil, .nil]), on (st 5 9 19), o 10 (mv 20)]
def r247_3 : LO := [o 21 (ln 3 4), o 22 (ln 5 9), o 23 (ln 7 6), o 24 (mv 3), o 25 (.bin .add (T 24) (ci 1)), o 26 (.call (cf 75) [(T 21), (T 22), (T 23), (T 25)]), o 8 (mv 26)]
def k247_1 : ACode := .cond (T 13) (.seq (.region r247_2) (.seq (.region r247_3) .ret)) .skip
def r247_10 : LO := [o 27 (ln 3 4), o 28 (ln 2 5), o 29 (ln 7 6), o 30 (.call (cf 316) [(T 27), (T 28), (T 29)]), o 8 (mv 30)]
def k247_2 : ACode := .seq (.seq (.region r247_1) k247_1) (.seq (.region r247_10) .ret)
def k247_3 : ACode := .seq (.region r247_0) k247_2
theorem fn247 : getFn Tryz.prog 247 = some (31, k247_3, [.tmp 8]) := by kernel_rfl
def r183_0 : LO := [o 2 (bx 0), o 3 (bx 1), o 4 (.mv (.c .nil))]
def r183_1 : LO := [o 5 (ld 3), o 6 (.bin .eql (T 5) (.c aE))]
def r183_2 : LO := [o 4 (.mv (.c .nil))]
def k183_1 : ACode := .seq (.region r183_1) (.cond (T 6) (.seq (.region r183_2) .ret) .skip)
def r183_8 : LO := [o 7 (fa 1 2), o 8 (ld 7), o 9 (.call (cf 245) [(T 8)]), o 10 (.func (.func 246) [] [(T 3)]), o 11 (.call (cf 244) [(T 9), (T 10)]), o 4 (mv 11)]
def k183_2 : ACode := .seq (.region r183_0) (.seq k183_1 (.seq (.region r183_8) .ret))
theorem fn183 : getFn Tryz.prog 183 = some (12, k183_2, [.tmp 4]) := by kernel_rfl
def r182_0 : LO := [o 3 (mb false)]
def r182_1 : LO := [o 4 (mv 0), o 5 (fa 0 1), o 6 (ld 5), o 7 (.bin .eql (T 4) (T 6)), o 3 (mv 7)]
def k182_1 : ACode := .seq (.region r182_0) (.seq (.region r182_1) .ret)
theorem fn182 : getFn Tryz.prog 182 = some (8, k182_1, [.tmp 3]) := by kernel_rfl
def r30_0 : LO := [o 1 (bx 0), o 2 (.alloc [.nil, .nil, .nil, .nil, .nil]), o 3 (mb false)]
def r30_1 : LO := [o 7 (ln 3 1), o 8 (.call (cf 42) [(T 7)]), o 6 (mv 8), o 9 (.extract 0 (T 6)), o 10 (.extract 1 (T 6)), o 4 (.alloc [.nil, .nil]), on (st 2 4 9), o 5 (mv 10)]
def r30_2 : LO := [o 11 (ln 3 1), o 12 (ln 2 4), o 13 (.build [.nil, .nil, .nil, .nil, .nil] [((0, 3), (T 11)), ((3, 2), (T 12))]), o 14 (mv 5), o 15 (.bin .eql (T 14) (ci 0)), on (st 5 2 13), o 3 (mv 15)]
def k30_1 : ACode := .seq (.region r30_0) (.seq (.region r30_1) (.seq (.region r30_2) .ret))
theorem fn30 : getFn Tryz.prog 30 = some (16, k30_1, [.cell 2 (some 5), .tmp 3]) := by kernel_rfl
def r16_0 : LO := [o 3 (bx 0), o 5 (bx 2), o 6 (.mv (.c aE)), o 7 (.alloc zV), o 8 (mi 0)]
def r16_1 : LO := [o 22 (mv 1), o 23 (fa 0 5), o 24 (ld 23), o 25 (fa 1 5), o 26 (ld 25), o 27 (.call (cf 12) [(T 22), (T 24), (T 26)]), o 21 (mv 27), o 28 (.extract 0 (T 21)), o 29 (.extract 1 (T 21)), o 30 (.extract 2 (T 21)), o 9 (mv 28), o 10 (mv 29), o 11 (mv 30)]
def r16_2 : LO := [o 31 (mv 11), o 32 (.bin .neq (T 31) (ci 0))]
def r16_3 : LO := [o 33 (.build zV []), o 34 (mv 11), o 6 (.mv (.c aE)), on (st 7 7 33), o 8 (mv 34)]
def k16_1 : ACode := .seq (.region r16_2) (.cond (T 32) (.seq (.region r16_3) .ret) .skip)
def r16_9 : LO := [o 36 (ln 3 3), o 37 (.call (cf 30) [(T 36)]), o 35 (mv 37), o 38 (.extract 0 (T 35)), o 39 (.extract 1 (T 35)), o 12 (.alloc [.nil, .nil, .nil, .nil, .nil]), on (st 5 12 38), o 13 (mv 39)]
def r16_10 : LO := [o 40 (mv 1), o 41 (mv 9), o 42 (.idxSl 5 (T 40) (T 41)), o 43 (fa 2 42), o 44 (ld 43), o 45 (mv 1), o 46 (mv 9), o 47 (.idxSl 5 (T 45) (T 46)), o 48 (fa 3 47), o 49 (ld 48), o 50 (.call (cf 31) [(T 44), (T 49)])]
def r16_10t : LO := [o 14 (mv 50)]
def r16_10o : LN := [[], [], [0, 1], [2], [3], [], [], [5, 6], [7], [8], [4, 9]]
def r16_11 : LO := [o 52 (ln 3 3), o 53 (mv 14), o 54 (.call (cf 32) [(T 52), (T 53)]), o 51 (mv 54), o 55 (.extract 0 (T 51)), o 56 (.extract 1 (T 51)), o 15 (.alloc [aE, aE, aE, (aI 0), .nil]), on (st 5 15 55), o 11 (mv 56)]
def r16_12 : LO := [o 57 (mv 13), o 58 (.un .not (T 57)), o 59 (mv 58), og 60 (ln 3 3) 59 false, og 61 (mv 1) 59 false, og 62 (mv 9) 59 false, og 63 (.idxSl 5 (T 61) (T 62)) 59 false, og 64 (ln 5 63) 59 false, og 65 (.call (cf 33) [(T 60), (T 64)]) 59 false, og 66 (.bin .neq (T 65) (ci 0)) 59 false, o 67 (.pick (T 59) (cb true) (T 66))]
def r16_12t : LO := []
def r16_12o : LN := [[], [0], [1], [2], [2], [2], [2, 4, 5], [2, 6], [2, 3, 7], [2, 8], [2, 9]]
def r16_13 : LO := [o 68 (.build zV []), o 6 (.mv (.c aE)), on (st 7 7 68), o 8 (mi 1)]
def k16_2 : ACode := .seq (.drawn r16_12o r16_12 r16_12t) (.cond (T 67) (.seq (.region r16_13) .ret) .skip)
def r16_19 : LO := [o 70 (ln 5 12), o 71 (fa 1 15), o 72 (ld 71), o 73 (mv 1), o 74 (mv 9), o 75 (.idxSl 5 (T 73) (T 74)), o 76 (ln 5 75), o 77 (ln 4 5), o 78 (.call (cf 34) [(T 70), (T 72), (T 76), (T 77)]), o 69 (mv 78), o 79 (.extract 0 (T 69)), o 80 (.extract 1 (T 69)), o 16 (.alloc zV), on (st 7 16 79)]
def r16_19t : LO := [o 11 (mv 80)]
def r16_19o : LN := [[], [], [1], [], [], [3, 4], [5], [], [0, 2, 6, 7], [8], [9], [9], [], [0, 1, 2, 3, 4, 5, 6, 7, 8, 9, 10, 12]]
def r16_20 : LO := [o 81 (mv 10), o 82 (.len false (T 81)), o 83 (mi 0)]
def r16_21 : LO := [o 84 (.bin .lss (T 83) (T 82))]
def r16_25 : LO := [o 85 (.idxSl 2 (T 81) (T 83)), o 86 (ln 2 85), o 18 (.alloc [aE, aE]), on (st 2 18 86)]
def r16_26 : LO := [o 87 (mv 11), o 88 (.bin .eql (T 87) (ci 0))]
def r16_27 : LO := [o 90 (ln 5 12), o 91 (fa 1 15), o 92 (ld 91), o 93 (ln 7 16), o 94 (ln 2 18), o 95 (.call (cf 35) [(T 90), (T 92), (T 93), (T 94)]), o 89 (mv 95), o 96 (.extract 0 (T 89)), o 97 (.extract 1 (T 89)), on (st 7 16 96), o 11 (mv 97)]
def k16_3 : ACode := .seq (.region r16_25) (.seq (.region r16_26) (.cond (T 88) (.region r16_27) .skip))
def r16_33 : LO := [o 98 (.bin .add (T 83) (ci 1)), o 83 (mv 98)]
def k16_4 : ACode := .seq (.cond (T 84) .skip (.exit 0)) (.seq (.block 1 k16_3) (.region r16_33))
def k16_5 : ACode := .seq (.region r16_21) k16_4
def r16_40 : LO := [o 99 (fa 2 5), o 100 (ld 99), o 101 (.len false (T 100)), o 102 (mi 0)]
def r16_41 : LO := [o 103 (.bin .lss (T 102) (T 101))]
def r16_45 : LO := [o 104 (.idxSl 2 (T 100) (T 102)), o 105 (ln 2 104), o 20 (.alloc [aE, aE]), on (st 2 20 105)]
def r16_46 : LO := [o 106 (mv 11), o 107 (.bin .eql (T 106) (ci 0))]
def r16_47 : LO := [o 109 (ln 5 12), o 110 (fa 1 15), o 111 (ld 110), o 112 (mv 1), o 113 (mv 9), o 114 (.idxSl 5 (T 112) (T 113)), o 115 (ln 5 114), o 116 (ln 7 16), o 117 (ln 2 20), o 118 (.call (cf 36) [(T 109), (T 111), (T 115), (T 116), (T 117)]), o 108 (mv 118), o 119 (.extract 0 (T 108)), o 120 (.extract 1 (T 108)), on (st 7 16 119)]
def r16_47t : LO := [o 11 (mv 120)]
def r16_47o : LN := [[], [], [1], [], [], [3, 4], [5], [], [], [0, 2, 6, 7, 8], [9], [10], [10], [0, 1, 2, 3, 4, 5, 6, 7, 8, 9, 10, 11]]
def k16_6 : ACode := .seq (.region r16_46) (.cond (T 107) (.drawn r16_47o r16_47 r16_47t) .skip)
def r16_53 : LO := [o 121 (.bin .add (T 102) (ci 1)), o 102 (mv 121)]
def k16_7 : ACode := .seq (.block 3 (.seq (.region r16_45) k16_6)) (.region r16_53)
def k16_8 : ACode := .seq (.region r16_41) (.seq (.cond (T 103) .skip (.exit 2)) k16_7)
def r16_60 : LO := [o 122 (mv 11), o 123 (.bin .eql (T 122) (ci 0))]
def r16_61 : LO := [o 124 (ln 3 3), o 125 (fa 1 15), o 126 (ld 125), o 127 (ln 7 16), o 128 (.call (cf 37) [(T 124), (T 126), (T 127)]), o 11 (mv 128)]
def r16_65 : LO := [o 129 (mv 11), o 130 (.bin .neq (T 129) (ci 0))]
def r16_66 : LO := [o 131 (.build zV []), o 132 (mv 11), o 6 (.mv (.c aE)), on (st 7 7 131), o 8 (mv 132)]
def k16_9 : ACode := .seq (.region r16_65) (.cond (T 130) (.seq (.region r16_66) .ret) .skip)
def r16_72 : LO := [o 133 (mv 14), o 134 (ln 3 3), o 135 (fa 1 15), o 136 (ld 135), o 137 (ln 7 16), o 138 (.call (cf 38) [(T 134), (T 136), (T 137)]), o 6 (mv 133), on (st 7 7 138), o 8 (mi 0)]
def k16_10 : ACode := .seq (.seq (.region r16_60) (.cond (T 123) (.region r16_61) .skip)) (.seq k16_9 (.seq (.region r16_72) .ret))
def k16_11 : ACode := .seq (.seq (.region r16_20) (.block 0 (.loop k16_5))) (.seq (.seq (.region r16_40) (.block 2 (.loop k16_8))) k16_10)
def k16_12 : ACode := .seq (.region r16_11) (.seq k16_2 (.seq (.drawn r16_19o r16_19 r16_19t) k16_11))
def k16_13 : ACode := .seq (.region r16_9) (.seq (.drawn r16_10o r16_10 r16_10t) k16_12)
def k16_14 : ACode := .seq (.region r16_0) (.seq (.region r16_1) (.seq k16_1 k16_13))
theorem fn16 : getFn Tryz.prog 16 = some (139, k16_14, [.tmp 6, .cell 7 (some 7), .tmp 8]) := by kernel_rfl
def r36_0 : LO := [o 5 (bx 0), o 7 (bx 2), o 8 (bx 3), o 9 (bx 4), o 10 (.alloc zV), o 11 (mi 0)]
def r36_1 : LO := [o 22 (fa 0 5), o 23 (ln 3 22), o 24 (mv 1), o 25 (fa 0 9), o 26 (ld 25), o 27 (.call (cf 67) [(T 23), (T 24), (T 26)]), o 21 (mv 27), o 28 (.extract 0 (T 21)), o 29 (.extract 1 (T 21)), o 12 (mv 28), o 13 (mv 29)]
def r36_2 : LO := [o 30 (mv 13), o 31 (.bin .neq (T 30) (ci 0))]
def r36_3 : LO := [o 32 (ln 7 8), o 33 (mv 13), on (st 7 10 32), o 11 (mv 33)]
def k36_1 : ACode := .seq (.region r36_2) (.cond (T 31) (.seq (.region r36_3) .ret) .skip)
def r36_9 : LO := [o 34 (mv 12), o 35 (mv 12), o 36 (.len false (T 35)), o 37 (.bin .sub (T 36) (ci 1)), o 38 (.idxSl 16 (T 34) (T 37)), o 39 (ln 16 38), o 14 (.alloc [(aI 0), aE, (aI 0), (aI 0), (aI 0), aE, aE, (aB false), (aI 0), (aU 0), aE, .nil, .nil, .nil, .nil, .nil]), on (st 16 14 39)]
def r36_10 : LO := [o 41 (fa 0 5), o 42 (ln 3 41), o 43 (mv 1), o 44 (ln 5 7), o 45 (.call (cf 61) [(T 42), (T 43), (T 44)]), o 40 (mv 45), o 46 (.extract 0 (T 40)), o 47 (.extract 1 (T 40)), o 15 (.alloc [(aI 0), aE, (aI 0), (aI 0), (aI 0), aE, aE, (aB false), (aI 0), (aU 0), aE, .nil, .nil, .nil, .nil, .nil]), on (st 16 15 46), o 16 (mv 47)]
def r36_11 : LO := [o 48 (mv 16), o 49 (mv 48), og 50 (fa 0 15) 49 true, og 51 (ld 50) 49 true, og 52 (mv 12) 49 true, og 53 (.idxSl 16 (T 52) (ci 0)) 49 true, og 54 (fa 0 53) 49 true, og 55 (ld 54) 49 true, og 56 (.bin .eql (T 51) (T 55)) 49 true, o 57 (.pick (T 49) (T 56) (cb false))]
def r36_11t : LO := []
def r36_11o : LN := [[], [0], [1], [1, 2], [1], [1, 4], [1, 5], [1, 6], [1, 3, 7], [1, 8]]
def r36_12 : LO := [o 58 (ln 7 8), on (st 7 10 58), o 11 (mi 9)]
def k36_2 : ACode := .seq (.drawn r36_11o r36_11 r36_11t) (.cond (T 57) (.seq (.region r36_12) .ret) .skip)
def r36_19 : LO := [o 59 (fa 2 14), o 60 (ld 59), o 61 (.bin .eql (T 60) (ci 5)), o 62 (mv 61), og 63 (ln 16 14) 62 false, og 64 (.call (cf 72) [(T 63)]) 62 false, og 65 (.un .not (T 64)) 62 false, o 66 (.pick (T 62) (cb true) (T 65))]
def r36_20 : LO := [o 67 (ln 7 8), on (st 7 10 67), o 11 (mi 12)]
def k36_3 : ACode := .seq (.region r36_19) (.cond (T 66) (.seq (.region r36_20) .ret) .skip)
def r36_26 : LO := [o 68 (fa 2 14), o 69 (ld 68), o 70 (.bin .neq (T 69) (ci 4))]
def r36_27 : LO := [o 71 (ln 5 5), o 72 (mv 1), o 73 (ln 7 8), o 74 (ln 2 9), o 75 (.call (cf 35) [(T 71), (T 72), (T 73), (T 74)]), o 76 (.extract 0 (T 75)), o 77 (.extract 1 (T 75)), on (st 7 10 76), o 11 (mv 77)]
def k36_4 : ACode := .seq (.region r36_26) (.cond (T 70) (.seq (.region r36_27) .ret) .skip)
def r36_33 : LO := [o 79 (ln 5 5), o 80 (ln 5 5), o 81 (mv 1), o 82 (mv 12), o 83 (.call (cf 71) [(T 80), (T 81), (T 82)]), o 84 (fa 1 9), o 85 (ld 84), o 86 (.call (cf 70) [(T 79), (T 83), (T 85)]), o 78 (mv 86), o 87 (.extract 0 (T 78)), o 88 (.extract 1 (T 78)), o 17 (.alloc zV), on (st 7 17 87)]
def r36_33t : LO := [o 13 (mv 88)]
def r36_33o : LN := [[], [], [], [], [1, 2, 3], [], [5], [0, 4, 6], [7], [8], [8], [], [0, 1, 2, 3, 4, 5, 6, 7, 8, 9, 11]]
def r36_34 : LO := [o 89 (mv 13), o 90 (.bin .neq (T 89) (ci 0))]
def r36_35 : LO := [o 91 (ln 7 8), o 92 (mv 13), on (st 7 10 91), o 11 (mv 92)]
def k36_5 : ACode := .seq (.region r36_34) (.cond (T 90) (.seq (.region r36_35) .ret) .skip)
def r36_41 : LO := [o 93 (mv 12), o 94 (.call (cf 68) [(T 93)]), o 18 (mv 94)]
def r36_42 : LO := [o 96 (ln 7 8), o 97 (mv 18), o 98 (.call (cf 69) [(T 96), (T 97)]), o 95 (mv 98), o 99 (.extract 0 (T 95)), o 100 (.extract 1 (T 95)), o 19 (.alloc zV), on (st 7 19 99), o 20 (mv 100)]
def r36_43 : LO := [o 101 (ln 7 8), o 102 (mv 18), o 103 (fa 3 19), o 104 (ld 103), o 105 (.call (cf 73) [(T 104)]), o 106 (ln 7 17), o 107 (.sliceLit 7 1 zV [((0, 7), (T 106))]), o 108 (.append 55 7 128 (T 105) (T 107)), o 109 (.build zV [((0, 1), (ci 11)), ((3, 1), (T 108))]), o 110 (.call (cf 66) [(T 101), (T 102), (T 109)])]
def r36_43t : LO := [on (st 7 10 110), o 11 (mi 0)]
def r36_43o : LN := [[], [], [], [2], [3], [], [5], [4, 6], [7], [0, 1, 7, 8]]
def k36_6 : ACode := .seq (.region r36_42) (.seq (.drawn r36_43o r36_43 r36_43t) .ret)
def k36_7 : ACode := .seq (.drawn r36_33o r36_33 r36_33t) (.seq k36_5 (.seq (.region r36_41) k36_6))
def k36_8 : ACode := .seq (.seq (.region r36_10) k36_2) (.seq k36_3 (.seq k36_4 k36_7))
def k36_9 : ACode := .seq (.region r36_1) (.seq k36_1 (.seq (.region r36_9) k36_8))
def k36_10 : ACode := .seq (.region r36_0) k36_9
theorem fn36 : getFn Tryz.prog 36 = some (111, k36_10, [.cell 10 (some 7), .tmp 11]) := by kernel_rfl
def r70_0 : LO := [o 3 (bx 0), o 4 (bx 1), o 6 (.alloc zV), o 7 (mi 0)]
def r70_1 : LO := [o 8 (fa 5 4), o 9 (ld 8), o 10 (.bin .eql (T 9) (ci 7))]
def r70_2 : LO := [o 11 (mv 2), o 12 (.build zV [((0, 1), (ci 7)), ((2, 1), (T 11))]), on (st 7 6 12), o 7 (mi 0)]
def k70_1 : ACode := .seq (.region r70_1) (.cond (T 10) (.seq (.region r70_2) .ret) .skip)
def r70_8 : LO := [o 13 (fa 3 3), o 14 (ln 2 13), o 15 (ln 8 4), o 16 (mv 2), o 17 (.call (cf 121) [(T 14), (T 15), (T 16)]), o 18 (.extract 0 (T 17)), o 19 (.extract 1 (T 17)), on (st 7 6 18), o 7 (mv 19)]
def k70_2 : ACode := .seq (.region r70_0) (.seq k70_1 (.seq (.region r70_8) .ret))
theorem fn70 : getFn Tryz.prog 70 = some (20, k70_2, [.cell 6 (some 7), .tmp 7]) := by kernel_rfl
def r121_0 : LO := [o 3 (bx 0), o 4 (bx 1), o 6 (.alloc zV), o 7 (mi 0)]
def r121_1 : LO := [o 16 (fa 5 4), o 17 (ld 16), o 18 (.call (cf 124) [(T 17)]), o 19 (.un .not (T 18))]
def r121_2 : LO := [o 20 (.build zV []), on (st 7 6 20), o 7 (mi 12)]
def k121_1 : ACode := .seq (.region r121_1) (.cond (T 19) (.seq (.region r121_2) .ret) .skip)
def r121_8 : LO := [o 21 (fa 5 4), o 22 (ld 21), o 23 (.bin .neq (T 22) (ci 9))]
def r121_9 : LO := [o 24 (fa 5 4), o 25 (ld 24), o 26 (mv 2), o 27 (.call (cf 174) [(T 25), (T 26)]), o 28 (.extract 0 (T 27)), o 29 (.extract 1 (T 27)), on (st 7 6 28), o 7 (mv 29)]
def k121_2 : ACode := .seq (.region r121_8) (.cond (T 23) (.seq (.region r121_9) .ret) .skip)
def r121_15 : LO := [o 31 (mv 2), o 32 (.call (cf 175) [(T 31), (.c (aS ⟨#[35]⟩))]), o 30 (mv 32), o 33 (.extract 0 (T 30)), o 34 (.extract 1 (T 30)), o 8 (mv 33), o 9 (mv 34)]
def r121_16 : LO := [o 35 (mv 9)]
def r121_17 : LO := [o 37 (mv 8), o 38 (.call (cf 174) [(ci 9), (T 37)]), o 36 (mv 38), o 39 (.extract 0 (T 36)), o 40 (.extract 1 (T 36)), o 10 (.alloc zV), on (st 7 10 39), o 11 (mv 40)]
def r121_18 : LO := [o 41 (mv 11), o 42 (.bin .neq (T 41) (ci 0))]
def r121_19 : LO := [o 43 (.build zV []), o 44 (mv 11), on (st 7 6 43), o 7 (mv 44)]
def k121_3 : ACode := .seq (.region r121_18) (.cond (T 42) (.seq (.region r121_19) .ret) .skip)
def r121_25 : LO := [o 46 (ln 2 3), o 47 (fa 6 4), o 48 (ld 47), o 49 (fa 1 10), o 50 (ld 49), o 51 (.call (cf 176) [(T 46), (T 48), (T 50)]), o 45 (mv 51), o 52 (.extract 0 (T 45)), o 53 (.extract 1 (T 45)), o 12 (.alloc [aE, (aI 0), .nil]), on (st 3 12 52), o 13 (mv 53)]
def r121_26 : LO := [o 54 (mv 13), o 55 (mv 54), og 56 (ln 2 3) 55 false, og 57 (fa 6 4) 55 false, og 58 (ld 57) 55 false, og 59 (fa 1 10) 55 false, og 60 (ld 59) 55 false, og 61 (.call (cf 177) [(T 56), (T 58), (T 60)]) 55 false, og 62 (.un .not (T 61)) 55 false, o 63 (.pick (T 55) (cb true) (T 62))]
def r121_27 : LO := [o 64 (.build zV []), on (st 7 6 64), o 7 (mi 16)]
def k121_4 : ACode := .seq (.region r121_26) (.cond (T 63) (.seq (.region r121_27) .ret) .skip)
def r121_34 : LO := [o 65 (ln 7 10), on (st 7 6 65), o 7 (mi 0)]
def k121_5 : ACode := .seq (.seq (.region r121_25) k121_4) (.seq (.region r121_34) .ret)
def k121_6 : ACode := .cond (T 35) (.seq (.region r121_17) (.seq k121_3 k121_5)) .skip
def r121_44 : LO := [o 66 (mv 2), o 67 (.call (cf 57) [(T 66)]), o 68 (.un .not (T 67))]
def r121_45 : LO := [o 69 (.build zV []), on (st 7 6 69), o 7 (mi 2)]
def k121_7 : ACode := .seq (.region r121_44) (.cond (T 68) (.seq (.region r121_45) .ret) .skip)
def r121_51 : LO := [o 70 (fa 6 4), o 71 (ld 70), o 72 (.bin .geq (T 71) (ci 0)), o 73 (mv 72), og 74 (fa 6 4) 73 true, og 75 (ld 74) 73 true, og 76 (fa 1 3) 73 true, og 77 (ld 76) 73 true, og 78 (.len false (T 77)) 73 true, og 79 (.bin .lss (T 75) (T 78)) 73 true, o 80 (.pick (T 73) (T 79) (cb false))]
def r121_52 : LO := [o 81 (fa 1 3), o 82 (ld 81), o 83 (fa 6 4), o 84 (ld 83), o 85 (.idxSl 5 (T 82) (T 84)), o 86 (fa 2 85), o 87 (ld 86), o 88 (.len false (T 87)), o 89 (mi 0)]
def r121_53 : LO := [o 90 (.bin .lss (T 89) (T 88))]
def r121_57 : LO := [o 91 (.idxSl 3 (T 87) (T 89)), o 92 (ln 3 91), o 15 (.alloc [aE, (aI 0), .nil]), on (st 3 15 92)]
def r121_58 : LO := [o 93 (fa 0 15), o 94 (ld 93), o 95 (mv 2), o 96 (.bin .eql (T 94) (T 95))]
def r121_59 : LO := [o 97 (fa 1 15), o 98 (ld 97), o 99 (.conv (.num .u64) (T 98)), o 100 (.build zV [((0, 1), (ci 9)), ((1, 1), (T 99))]), on (st 7 6 100), o 7 (mi 0)]
def k121_8 : ACode := .seq (.region r121_58) (.cond (T 96) (.seq (.region r121_59) .ret) .skip)
def r121_67 : LO := [o 101 (.bin .add (T 89) (ci 1)), o 89 (mv 101)]
def k121_9 : ACode := .seq (.block 1 (.seq (.region r121_57) k121_8)) (.region r121_67)
def k121_10 : ACode := .seq (.region r121_53) (.seq (.cond (T 90) .skip (.exit 0)) k121_9)
def k121_11 : ACode := .cond (T 80) (.seq (.region r121_52) (.block 0 (.loop k121_10))) .skip
def r121_77 : LO := [o 102 (.build zV []), on (st 7 6 102), o 7 (mi 16)]
def k121_12 : ACode := .seq (.seq (.region r121_51) k121_11) (.seq (.region r121_77) .ret)
def k121_13 : ACode := .seq (.seq (.region r121_15) (.seq (.region r121_16) k121_6)) (.seq k121_7 k121_12)
def k121_14 : ACode := .seq (.region r121_0) (.seq k121_1 (.seq k121_2 k121_13))
theorem fn121 : getFn Tryz.prog 121 = some (103, k121_14, [.cell 6 (some 7), .tmp 7]) := by kernel_rfl
def r174_0 : LO := [o 4 (.alloc zV), o 5 (mi 0)]
def r174_1 : LO := [o 7 (mv 0), o 8 (.call (cf 124) [(T 7)]), o 9 (.un .not (T 8)), o 6 (mv 9)]
def r174_2 : LO := [o 10 (.build zV []), on (st 7 4 10), o 5 (mi 1)]
def r174_5 : LO := [o 12 (mv 0), o 13 (.bin .eql (T 12) (ci 1)), o 14 (mv 13), og 15 (mv 1) 14 true, og 16 (.bin .eql (T 15) (.c (aS ⟨#[116, 114, 117, 101]⟩))) 14 true, o 17 (.pick (T 14) (T 16) (cb false)), o 11 (mv 17)]
def r174_6 : LO := [o 18 (mv 0), o 19 (.build zV [((0, 1), (T 18)), ((1, 1), (.c (aU 1)))]), on (st 7 4 19), o 5 (mi 0)]
def r174_9 : LO := [o 21 (mv 0), o 22 (.bin .eql (T 21) (ci 1)), o 23 (mv 22), og 24 (mv 1) 23 true, og 25 (.bin .eql (T 24) (.c (aS ⟨#[102, 97, 108, 115, 101]⟩))) 23 true, o 26 (.pick (T 23) (T 25) (cb false)), o 20 (mv 26)]
def r174_10 : LO := [o 27 (mv 0), o 28 (.build zV [((0, 1), (T 27))]), on (st 7 4 28), o 5 (mi 0)]
def r174_13 : LO := [o 30 (mv 0), o 31 (.bin .eql (T 30) (ci 1)), o 29 (mv 31)]
def r174_14 : LO := [o 32 (.build zV []), on (st 7 4 32), o 5 (mi 2)]
def r174_17 : LO := [o 34 (mv 0), o 35 (.bin .eql (T 34) (ci 6)), o 33 (mv 35)]
def r174_18 : LO := [o 36 (mv 1), o 37 (.call (cf 236) [(T 36)]), o 38 (.extract 0 (T 37)), o 39 (.extract 1 (T 37)), on (st 7 4 38), o 5 (mv 39)]
def r174_21 : LO := [o 41 (mv 0), o 42 (.call (cf 237) [(T 41)]), o 40 (mv 42)]
def r174_22 : LO := [o 43 (mv 0), o 44 (mv 1), o 45 (.call (cf 238) [(T 43), (T 44)]), o 46 (.extract 0 (T 45)), o 47 (.extract 1 (T 45)), on (st 7 4 46), o 5 (mv 47)]
def k174_1 : ACode := .seq (.region r174_21) (.cond (T 40) (.seq (.region r174_22) .ret) .skip)
def k174_2 : ACode := .seq (.region r174_17) (.cond (T 33) (.seq (.region r174_18) .ret) k174_1)
def k174_3 : ACode := .seq (.region r174_13) (.cond (T 29) (.seq (.region r174_14) .ret) k174_2)
def k174_4 : ACode := .seq (.region r174_9) (.cond (T 20) (.seq (.region r174_10) .ret) k174_3)
def k174_5 : ACode := .seq (.region r174_5) (.cond (T 11) (.seq (.region r174_6) .ret) k174_4)
def k174_6 : ACode := .seq (.region r174_1) (.cond (T 6) (.seq (.region r174_2) .ret) k174_5)
def r174_39 : LO := [o 48 (mv 0), o 49 (mv 1), o 50 (.call (cf 239) [(T 48), (T 49)]), o 51 (.extract 0 (T 50)), o 52 (.extract 1 (T 50)), on (st 7 4 51), o 5 (mv 52)]
def k174_7 : ACode := .seq (.region r174_0) (.seq (.block 0 k174_6) (.seq (.region r174_39) .ret))
theorem fn174 : getFn Tryz.prog 174 = some (53, k174_7, [.cell 4 (some 7), .tmp 5]) := by kernel_rfl
def r239_0 : LO := [o 4 (.alloc zV), o 5 (mi 0)]
def r239_1 : LO := [o 9 (mv 1), o 10 (.call (cf 311) [(T 9)]), o 11 (.un .not (T 10))]
def r239_2 : LO := [o 12 (.build zV []), on (st 7 4 12), o 5 (mi 2)]
def k239_1 : ACode := .seq (.region r239_1) (.cond (T 11) (.seq (.region r239_2) .ret) .skip)
def r239_8 : LO := [o 13 (mv 0), o 14 (.build zV [((0, 1), (T 13))]), o 6 (.alloc zV), on (st 7 6 14)]
def r239_9 : LO := [o 7 (.mv (.c (.v .nilIface)))]
def r239_10 : LO := [o 15 (mv 0), o 16 (.bin .eql (T 15) (ci 2)), o 17 (mv 16), og 18 (mv 0) 17 false, og 19 (.bin .eql (T 18) (ci 3)) 17 false, o 20 (.pick (T 17) (cb true) (T 19))]
def r239_11 : LO := [o 8 (mi 0)]
def r239_12 : LO := [o 22 (mv 1), o 23 (.call (cf 312) [(T 22), (ci 10), (ci 64)]), o 21 (mv 23), o 24 (.extract 0 (T 21)), o 25 (.extract 1 (T 21)), o 8 (mv 24), o 7 (mv 25)]
def r239_13 : LO := [o 26 (mv 8), o 27 (.conv (.num .u64) (T 26)), o 28 (fa 1 6), on (st 1 28 27)]
def k239_2 : ACode := .seq (.region r239_11) (.seq (.region r239_12) (.region r239_13))
def r239_16 : LO := [o 30 (mv 1), o 31 (.call (cf 307) [(T 30), (ci 10), (ci 64)]), o 29 (mv 31), o 32 (.extract 0 (T 29)), o 33 (.extract 1 (T 29)), o 34 (fa 1 6), on (st 1 34 32), o 7 (mv 33)]
def k239_3 : ACode := .seq (.region r239_10) (.cond (T 20) k239_2 (.region r239_16))
def r239_19 : LO := [o 35 (mv 7), o 36 (.eq .iface false (T 35) (.c (.v .nilIface))), o 37 (mv 36), og 38 (mv 0) 37 false, og 39 (fa 1 6) 37 false, og 40 (ld 39) 37 false, og 41 (.call (cf 313) [(T 38), (T 40)]) 37 false, og 42 (.un .not (T 41)) 37 false, o 43 (.pick (T 37) (cb true) (T 42))]
def r239_20 : LO := [o 44 (.build zV []), on (st 7 4 44), o 5 (mi 6)]
def k239_4 : ACode := .seq (.region r239_19) (.cond (T 43) (.seq (.region r239_20) .ret) .skip)
def r239_26 : LO := [o 45 (ln 7 6), on (st 7 4 45), o 5 (mi 0)]
def k239_5 : ACode := .seq (.region r239_9) (.seq k239_3 (.seq k239_4 (.seq (.region r239_26) .ret)))
def k239_6 : ACode := .seq (.region r239_0) (.seq k239_1 (.seq (.region r239_8) k239_5))
theorem fn239 : getFn Tryz.prog 239 = some (46, k239_6, [.cell 4 (some 7), .tmp 5]) := by kernel_rfl
def r354_0 : LO := [o 6 (.mv (.c (aU 0))), o 7 (.mv (.c (.v .nilIface)))]
def r354_1 : LO := [o 18 (mv 0), o 19 (.bin .eql (T 18) (.c aE))]
def r354_2 : LO := [o 20 (.iface 456 (ci 2)), o 6 (.mv (.c (aU 0))), o 7 (mv 20)]
def k354_1 : ACode := .seq (.region r354_1) (.cond (T 19) (.seq (.region r354_2) .ret) .skip)
def r354_8 : LO := [o 21 (mv 1), o 22 (.bin .eql (T 21) (ci 0)), o 8 (mv 22)]
def r354_9 : LO := [o 23 (mv 0), o 9 (mv 23)]
def r354_10 : LO := [o 26 (mv 1), o 27 (.bin .leq (ci 2) (T 26)), o 28 (mv 27), og 29 (mv 1) 28 true, og 30 (.bin .leq (T 29) (ci 36)) 28 true, o 31 (.pick (T 28) (T 30) (cb false)), o 25 (mv 31)]
def r354_12 : LO := [o 33 (mv 1), o 34 (.bin .eql (T 33) (ci 0)), o 32 (mv 34)]
def r354_13 : LO := [o 1 (mi 10)]
def r354_14 : LO := [o 35 (mv 0), o 36 (.idxS (T 35) (ci 0)), o 37 (.bin .eql (T 36) (.c (aC 48)))]
def r354_15 : LO := [o 41 (mv 0), o 42 (.len true (T 41)), o 43 (.bin .geq (T 42) (ci 3)), o 44 (mv 43), og 45 (mv 0) 44 true, og 46 (.idxS (T 45) (ci 1)) 44 true, og 47 (.call (cf 385) [(T 46)]) 44 true, og 48 (.bin .eql (T 47) (.c (aC 98))) 44 true, o 49 (.pick (T 44) (T 48) (cb false)), o 40 (mv 49)]
def r354_16 : LO := [o 1 (mi 2)]
def r354_17 : LO := [o 50 (mv 0), o 51 (.sliceS (T 50) (some (ci 2)) none), o 0 (mv 51)]
def r354_19 : LO := [o 53 (mv 0), o 54 (.len true (T 53)), o 55 (.bin .geq (T 54) (ci 3)), o 56 (mv 55), og 57 (mv 0) 56 true, og 58 (.idxS (T 57) (ci 1)) 56 true, og 59 (.call (cf 385) [(T 58)]) 56 true, og 60 (.bin .eql (T 59) (.c (aC 111))) 56 true, o 61 (.pick (T 56) (T 60) (cb false)), o 52 (mv 61)]
def r354_20 : LO := [o 1 (mi 8)]
def r354_21 : LO := [o 62 (mv 0), o 63 (.sliceS (T 62) (some (ci 2)) none), o 0 (mv 63)]
def r354_23 : LO := [o 65 (mv 0), o 66 (.len true (T 65)), o 67 (.bin .geq (T 66) (ci 3)), o 68 (mv 67), og 69 (mv 0) 68 true, og 70 (.idxS (T 69) (ci 1)) 68 true, og 71 (.call (cf 385) [(T 70)]) 68 true, og 72 (.bin .eql (T 71) (.c (aC 120))) 68 true, o 73 (.pick (T 68) (T 72) (cb false)), o 64 (mv 73)]
def r354_24 : LO := [o 1 (mi 16)]
def r354_25 : LO := [o 74 (mv 0), o 75 (.sliceS (T 74) (some (ci 2)) none), o 0 (mv 75)]
def r354_27 : LO := [o 1 (mi 8)]
def r354_28 : LO := [o 38 (mv 0), o 39 (.sliceS (T 38) (some (ci 1)) none), o 0 (mv 39)]
def k354_2 : ACode := .cond (T 64) (.seq (.region r354_24) (.region r354_25)) (.seq (.region r354_27) (.region r354_28))
def k354_3 : ACode := .cond (T 52) (.seq (.region r354_20) (.region r354_21)) (.seq (.region r354_23) k354_2)
def k354_4 : ACode := .cond (T 40) (.seq (.region r354_16) (.region r354_17)) (.seq (.region r354_19) k354_3)
def k354_5 : ACode := .cond (T 37) (.block 1 (.seq (.region r354_15) k354_4)) .skip
def r354_41 : LO := [o 24 (.iface 456 (ci 3)), o 6 (.mv (.c (aU 0))), o 7 (mv 24)]
def k354_6 : ACode := .cond (T 32) (.seq (.region r354_13) (.seq (.region r354_14) k354_5)) (.seq (.region r354_41) .ret)
def k354_7 : ACode := .seq (.region r354_10) (.cond (T 25) .skip (.seq (.region r354_12) k354_6))
def r354_49 : LO := [o 76 (mv 2), o 77 (.bin .eql (T 76) (ci 0))]
def r354_50 : LO := [o 2 (mi 64)]
def r354_51 : LO := [o 78 (mv 2), o 79 (.bin .lss (T 78) (ci 0)), o 80 (mv 79), og 81 (mv 2) 80 false, og 82 (.bin .gtr (T 81) (ci 64)) 80 false, o 83 (.pick (T 80) (cb true) (T 82))]
def r354_52 : LO := [o 84 (.iface 456 (ci 4)), o 6 (.mv (.c (aU 0))), o 7 (mv 84)]
def k354_8 : ACode := .seq (.region r354_51) (.cond (T 83) (.seq (.region r354_52) .ret) .skip)
def k354_9 : ACode := .seq (.region r354_49) (.cond (T 77) (.region r354_50) k354_8)
def r354_60 : LO := [o 10 (.mv (.c (aU 0)))]
def r354_61 : LO := [o 85 (mv 1)]
def r354_62 : LO := [o 91 (.bin .eql (T 85) (ci 10)), o 90 (mv 91)]
def r354_63 : LO := [o 10 (.mv (.c (aU 1844674407370955162)))]
def r354_64 : LO := [o 93 (.bin .eql (T 85) (ci 16)), o 92 (mv 93)]
def r354_65 : LO := [o 10 (.mv (.c (aU 1152921504606846976)))]
def r354_66 : LO := [o 86 (mv 1), o 87 (.conv (.num .u64) (T 86)), o 88 (.bin .quo (.c (aU 18446744073709551615)) (T 87)), o 89 (.bin .add (T 88) (.c (aU 1))), o 10 (mv 89)]
def k354_10 : ACode := .seq (.region r354_64) (.cond (T 92) (.region r354_65) (.region r354_66))
def k354_11 : ACode := .seq (.region r354_62) (.cond (T 90) (.region r354_63) k354_10)
def r354_73 : LO := [o 94 (mv 2), o 95 (.conv (.num .u64) (T 94)), o 96 (.bin .shl (.c (aU 1)) (T 95)), o 97 (.bin .sub (T 96) (.c (aU 1))), o 11 (mv 97)]
def r354_74 : LO := [o 12 (mb false)]
def r354_75 : LO := [o 13 (.mv (.c (aU 0)))]
def r354_76 : LO := [o 98 (mv 0), o 99 (.bytes (T 98)), o 100 (.len false (T 99)), o 101 (mi 0)]
def r354_77 : LO := [o 102 (.bin .lss (T 101) (T 100))]
def r354_81 : LO := [o 103 (.idxSl 1 (T 99) (T 101)), o 104 (ld 103), o 15 (mv 104)]
def r354_82 : LO := [o 16 (.mv (.c (aC 0)))]
def r354_83 : LO := [o 107 (mv 15), o 108 (.bin .eql (T 107) (.c (aC 95))), o 109 (mv 108), og 110 (mv 8) 109 true, o 111 (.pick (T 109) (T 110) (cb false)), o 106 (mv 111)]
def r354_84 : LO := [o 12 (mb true)]
def r354_87 : LO := [o 113 (mv 15), o 114 (.bin .leq (.c (aC 48)) (T 113)), o 115 (mv 114), og 116 (mv 15) 115 true, og 117 (.bin .leq (T 116) (.c (aC 57))) 115 true, o 118 (.pick (T 115) (T 117) (cb false)), o 112 (mv 118)]
def r354_88 : LO := [o 119 (mv 15), o 120 (.bin .sub (T 119) (.c (aC 48))), o 16 (mv 120)]
def r354_89 : LO := [o 122 (mv 15), o 123 (.call (cf 385) [(T 122)]), o 124 (.bin .leq (.c (aC 97)) (T 123)), o 125 (mv 124), og 126 (mv 15) 125 true, og 127 (.call (cf 385) [(T 126)]) 125 true, og 128 (.bin .leq (T 127) (.c (aC 122))) 125 true, o 129 (.pick (T 125) (T 128) (cb false)), o 121 (mv 129)]
def r354_90 : LO := [o 130 (mv 15), o 131 (.call (cf 385) [(T 130)]), o 132 (.bin .sub (T 131) (.c (aC 97))), o 133 (.bin .add (T 132) (.c (aC 10))), o 16 (mv 133)]
def r354_91 : LO := [o 105 (.iface 456 (ci 2)), o 6 (.mv (.c (aU 0))), o 7 (mv 105)]
def k354_12 : ACode := .cond (T 121) (.region r354_90) (.seq (.region r354_91) .ret)
def k354_13 : ACode := .cond (T 112) (.region r354_88) (.seq (.region r354_89) k354_12)
def k354_14 : ACode := .cond (T 106) (.seq (.region r354_84) (.exit 4)) (.seq (.region r354_87) k354_13)
def r354_101 : LO := [o 134 (mv 16), o 135 (mv 1), o 136 (.conv (.num .u8) (T 135)), o 137 (.bin .geq (T 134) (T 136))]
def r354_102 : LO := [o 138 (.iface 456 (ci 2)), o 6 (.mv (.c (aU 0))), o 7 (mv 138)]
def k354_15 : ACode := .seq (.region r354_101) (.cond (T 137) (.seq (.region r354_102) .ret) .skip)
def r354_108 : LO := [o 139 (mv 13), o 140 (mv 10), o 141 (.bin .geq (T 139) (T 140))]
def r354_109 : LO := [o 142 (mv 11), o 143 (.iface 456 (ci 1)), o 6 (mv 142), o 7 (mv 143)]
def k354_16 : ACode := .seq (.region r354_108) (.cond (T 141) (.seq (.region r354_109) .ret) .skip)
def r354_115 : LO := [o 144 (mv 13), o 145 (mv 1), o 146 (.conv (.num .u64) (T 145)), o 147 (.bin .mul (T 144) (T 146)), o 13 (mv 147)]
def r354_116 : LO := [o 148 (mv 13), o 149 (mv 16), o 150 (.conv (.num .u64) (T 149)), o 151 (.bin .add (T 148) (T 150)), o 17 (mv 151)]
def r354_117 : LO := [o 152 (mv 17), o 153 (mv 13), o 154 (.bin .lss (T 152) (T 153)), o 155 (mv 154), og 156 (mv 17) 155 false, og 157 (mv 11) 155 false, og 158 (.bin .gtr (T 156) (T 157)) 155 false, o 159 (.pick (T 155) (cb true) (T 158))]
def r354_118 : LO := [o 160 (mv 11), o 161 (.iface 456 (ci 1)), o 6 (mv 160), o 7 (mv 161)]
def k354_17 : ACode := .seq (.region r354_117) (.cond (T 159) (.seq (.region r354_118) .ret) .skip)
def r354_124 : LO := [o 162 (mv 17), o 13 (mv 162)]
def k354_18 : ACode := .seq (.region r354_115) (.seq (.region r354_116) (.seq k354_17 (.region r354_124)))
def k354_19 : ACode := .seq (.block 5 (.seq (.region r354_83) k354_14)) (.seq k354_15 (.seq k354_16 k354_18))
def k354_20 : ACode := .block 4 (.seq (.region r354_81) (.seq (.region r354_82) k354_19))
def r354_134 : LO := [o 163 (.bin .add (T 101) (ci 1)), o 101 (mv 163)]
def k354_21 : ACode := .seq (.cond (T 102) .skip (.exit 3)) (.seq k354_20 (.region r354_134))
def k354_22 : ACode := .seq (.region r354_77) k354_21
def r354_141 : LO := [o 164 (mv 12), o 165 (mv 164), og 166 (mv 9) 165 true, og 167 (.call (cf 386) [(T 166)]) 165 true, og 168 (.un .not (T 167)) 165 true, o 169 (.pick (T 165) (T 168) (cb false))]
def r354_142 : LO := [o 170 (.iface 456 (ci 2)), o 6 (.mv (.c (aU 0))), o 7 (mv 170)]
def k354_23 : ACode := .seq (.region r354_141) (.cond (T 169) (.seq (.region r354_142) .ret) .skip)
def r354_148 : LO := [o 171 (mv 13), o 6 (mv 171), o 7 (.mv (.c (.v .nilIface)))]
def k354_24 : ACode := .seq (.seq (.region r354_76) (.block 3 (.loop k354_22))) (.seq k354_23 (.seq (.region r354_148) .ret))
def k354_25 : ACode := .seq (.region r354_73) (.seq (.region r354_74) (.seq (.region r354_75) k354_24))
def k354_26 : ACode := .seq (.region r354_60) (.seq (.seq (.region r354_61) (.block 2 k354_11)) k354_25)
def k354_27 : ACode := .seq (.region r354_9) (.seq (.block 0 k354_7) (.seq k354_9 k354_26))
def k354_28 : ACode := .seq (.region r354_0) (.seq k354_1 (.seq (.region r354_8) k354_27))
theorem fn354 : getFn Tryz.prog 354 = some (172, k354_28, [.tmp 6, .tmp 7]) := by kernel_rfl
def r311_0 : LO := [o 2 (mb false)]
def r311_1 : LO := [o 5 (mv 0), o 6 (.call (cf 308) [(T 5), (.c (aS ⟨#[45]⟩))]), o 3 (mv 6)]
def r311_2 : LO := [o 7 (mv 3), o 8 (.bin .eql (T 7) (.c aE)), o 9 (mv 8), og 10 (mv 3) 9 false, og 11 (.idxS (T 10) (ci 0)) 9 false, og 12 (.bin .eql (T 11) (.c (aC 48))) 9 false, og 13 (mv 12) 9 false, og 14 (mv 0) 13 true, og 15 (.bin .neq (T 14) (.c (aS ⟨#[48]⟩))) 13 true, og 16 (.pick (T 13) (T 15) (cb false)) 9 false, o 17 (.pick (T 9) (cb true) (T 16))]
def r311_3 : LO := [o 2 (mb false)]
def k311_1 : ACode := .seq (.region r311_2) (.cond (T 17) (.seq (.region r311_3) .ret) .skip)
def r311_9 : LO := [o 18 (mv 3), o 19 (.len true (T 18)), o 20 (mi 0)]
def r311_10 : LO := [o 21 (.bin .lss (T 20) (T 19))]
def r311_14 : LO := [o 22 (mv 20), o 4 (mv 22)]
def r311_15 : LO := [o 23 (mv 3), o 24 (mv 4), o 25 (.idxS (T 23) (T 24)), o 26 (.bin .lss (T 25) (.c (aC 48))), o 27 (mv 26), og 28 (mv 3) 27 false, og 29 (mv 4) 27 false, og 30 (.idxS (T 28) (T 29)) 27 false, og 31 (.bin .gtr (T 30) (.c (aC 57))) 27 false, o 32 (.pick (T 27) (cb true) (T 31))]
def r311_16 : LO := [o 2 (mb false)]
def k311_2 : ACode := .seq (.region r311_15) (.cond (T 32) (.seq (.region r311_16) .ret) .skip)
def r311_24 : LO := [o 33 (.bin .add (T 20) (ci 1)), o 20 (mv 33)]
def k311_3 : ACode := .seq (.block 1 (.seq (.region r311_14) k311_2)) (.region r311_24)
def k311_4 : ACode := .seq (.region r311_10) (.seq (.cond (T 21) .skip (.exit 0)) k311_3)
def r311_31 : LO := [o 2 (mb true)]
def k311_5 : ACode := .seq (.seq (.region r311_9) (.block 0 (.loop k311_4))) (.seq (.region r311_31) .ret)
def k311_6 : ACode := .seq (.region r311_0) (.seq (.region r311_1) (.seq k311_1 k311_5))
theorem fn311 : getFn Tryz.prog 311 = some (34, k311_6, [.tmp 2]) := by kernel_rfl
def r308_0 : LO := [o 4 (.mv (.c aE))]
def r308_1 : LO := [o 5 (mv 0), o 6 (mv 1), o 7 (.call (cf 356) [(T 5), (T 6)]), o 4 (mv 7)]
def k308_1 : ACode := .seq (.region r308_0) (.seq (.region r308_1) .ret)
theorem fn308 : getFn Tryz.prog 308 = some (8, k308_1, [.tmp 4]) := by kernel_rfl
def r356_0 : LO := [o 4 (.mv (.c aE))]
def r356_1 : LO := [o 5 (mv 0), o 6 (mv 1), o 7 (.call (cf 305) [(T 5), (T 6)])]
def r356_2 : LO := [o 8 (mv 0), o 9 (mv 1), o 10 (.len true (T 9)), o 11 (.sliceS (T 8) (some (T 10)) none), o 4 (mv 11)]
def k356_1 : ACode := .seq (.region r356_1) (.cond (T 7) (.seq (.region r356_2) .ret) .skip)
def r356_8 : LO := [o 12 (mv 0), o 4 (mv 12)]
def k356_2 : ACode := .seq (.region r356_0) (.seq k356_1 (.seq (.region r356_8) .ret))
theorem fn356 : getFn Tryz.prog 356 = some (13, k356_2, [.tmp 4]) := by kernel_rfl
def r307_0 : LO := [o 6 (.mv (.c (aU 0))), o 7 (.mv (.c (.v .nilIface)))]
def r307_1 : LO := [o 11 (mv 0), o 12 (mv 1), o 13 (mv 2), o 14 (.call (cf 354) [(T 11), (T 12), (T 13)]), o 10 (mv 14), o 15 (.extract 0 (T 10)), o 16 (.extract 1 (T 10)), o 8 (mv 15), o 9 (mv 16)]
def r307_2 : LO := [o 17 (mv 9), o 18 (.eq .iface false (T 17) (.c (.v .nilIface)))]
def r307_3 : LO := [o 19 (mv 8), o 20 (mv 0), o 21 (mv 1), o 22 (mv 2), o 23 (mv 9), o 24 (.call (cf 355) [(.c (aS ⟨#[80, 97, 114, 115, 101, 85, 105, 110, 116]⟩)), (T 20), (T 21), (T 22), (T 23)]), o 6 (mv 19), o 7 (mv 24)]
def k307_1 : ACode := .seq (.region r307_2) (.cond (T 18) (.seq (.region r307_3) .ret) .skip)
def r307_9 : LO := [o 25 (mv 8), o 6 (mv 25), o 7 (.mv (.c (.v .nilIface)))]
def k307_2 : ACode := .seq (.region r307_1) (.seq k307_1 (.seq (.region r307_9) .ret))
def k307_3 : ACode := .seq (.region r307_0) k307_2
theorem fn307 : getFn Tryz.prog 307 = some (26, k307_3, [.tmp 6, .tmp 7]) := by kernel_rfl
def r22_0 : LO := [o 4 (mi 0)]
def r22_1 : LO := [o 5 (mv 0), o 6 (mv 1), o 7 (.call (cf 48) [(T 5), (T 6)]), o 4 (mv 7)]
def k22_1 : ACode := .seq (.region r22_0) (.seq (.region r22_1) .ret)
theorem fn22 : getFn Tryz.prog 22 = some (8, k22_1, [.tmp 4]) := by kernel_rfl
def r66_0 : LO := [o 3 (bx 0), o 5 (bx 2), o 6 (.alloc zV)]
def r66_1 : LO := [o 9 (mv 1), o 10 (.len false (T 9)), o 11 (.bin .eql (T 10) (ci 0))]
def r66_2 : LO := [o 12 (ln 7 5), on (st 7 6 12)]
def k66_1 : ACode := .seq (.region r66_1) (.cond (T 11) (.seq (.region r66_2) .ret) .skip)
def r66_8 : LO := [o 14 (ln 7 3), o 15 (mv 1), o 16 (.idxSl 1 (T 15) (ci 0)), o 17 (ld 16), o 18 (.call (cf 118) [(T 14), (T 17)]), o 13 (mv 18), o 19 (.extract 0 (T 13)), o 20 (.extract 1 (T 13)), o 7 (mv 19)]
def r66_8t : LO := [o 8 (mv 20)]
def r66_8o : LN := [[], [], [1], [2], [0, 3], [4], [5], [5], [0, 1, 2, 3, 4, 5, 6]]
def r66_9 : LO := [o 21 (fa 5 3), o 22 (ld 21), o 23 (.call (cf 119) [(T 22)]), o 24 (fa 5 3), on (st 1 24 23)]
def r66_10 : LO := [o 25 (mv 8), o 26 (.un .not (T 25))]
def r66_11 : LO := [o 27 (fa 5 3), o 28 (ld 27), o 29 (mv 7), o 30 (mv 1), o 31 (.idxSl 1 (T 30) (ci 0)), o 32 (ld 31), o 33 (.build zV [((0, 1), (ci 10))]), o 34 (.build [(aI 0), (aI 0), (aU 0), aE, .nil, .nil, .nil, .nil] [((0, 1), (T 32)), ((1, 7), (T 33))]), o 35 (.sliceLit 8 1 [(aI 0), (aI 0), (aU 0), aE, .nil, .nil, .nil, .nil] [((0, 8), (T 34))]), o 36 (.call (cf 120) [(T 28), (T 29), (T 35)])]
def r66_11t : LO := [o 37 (fa 5 3), on (st 1 37 36)]
def r66_11o : LN := [[], [0], [], [], [3], [4], [], [5, 6], [7], [1, 2, 8]]
def k66_2 : ACode := .seq (.region r66_10) (.cond (T 26) (.drawn r66_11o r66_11 r66_11t) .skip)
def r66_15 : LO := [o 38 (fa 5 3), o 39 (ld 38), o 40 (mv 7), o 41 (fa 5 3), o 42 (ld 41), o 43 (mv 7), o 44 (.idxSl 8 (T 42) (T 43)), o 45 (fa 1 44), o 46 (ln 7 45), o 47 (mv 1), o 48 (.sliceV 1 (T 47) (some (ci 1)) none none), o 49 (ln 7 5), o 50 (.call (cf 66) [(T 46), (T 48), (T 49)]), o 51 (.idxSl 8 (T 39) (T 40)), o 52 (fa 1 51), on (st 7 52 50)]
def r66_15t : LO := []
def r66_15o : LN := [[], [0], [], [], [3], [], [4, 5], [6], [7], [], [9], [], [8, 10, 11], [0, 1, 2, 3, 4, 5, 6, 7, 8, 9, 10, 11, 12], [0, 1, 2, 3, 4, 5, 6, 7, 8, 9, 10, 11, 12, 13], [0, 1, 2, 3, 4, 5, 6, 7, 8, 9, 10, 11, 12, 14]]
def r66_16 : LO := [o 53 (ln 7 3), on (st 7 6 53)]
def k66_3 : ACode := .seq (.drawn r66_15o r66_15 r66_15t) (.seq (.region r66_16) .ret)
def k66_4 : ACode := .seq (.drawn r66_8o r66_8 r66_8t) (.seq (.region r66_9) (.seq k66_2 k66_3))
def k66_5 : ACode := .seq (.region r66_0) (.seq k66_1 k66_4)
theorem fn66 : getFn Tryz.prog 66 = some (54, k66_5, [.cell 6 (some 7)]) := by kernel_rfl
def r120_0 : LO := [o 6 (.mv (.c .nil))]
def r120_1 : LO := [o 10 (mv 0), o 11 (mv 1), o 12 (.sliceV 8 (T 10) (some (T 11)) none none)]
def r120_2 : LO := [o 13 (mv 2), o 14 (.len false (T 13)), o 7 (mv 14)]
def r120_3 : LO := [o 15 (mv 7), o 16 (.bin .eql (T 15) (ci 0))]
def r120_4 : LO := [o 17 (mv 0), o 6 (mv 17)]
def k120_1 : ACode := .seq (.region r120_3) (.cond (T 16) (.seq (.region r120_4) .ret) .skip)
def r120_10 : LO := [o 18 (mv 0), o 19 (.len false (T 18)), o 8 (mv 19)]
def r120_11 : LO := [o 20 (mv 1), o 21 (mv 8), o 22 (.bin .eql (T 20) (T 21))]
def r120_12 : LO := [o 23 (mv 0), o 24 (mv 2), o 25 (.append 66 8 136 (T 23) (T 24)), o 6 (mv 25)]
def k120_2 : ACode := .seq (.region r120_11) (.cond (T 22) (.seq (.region r120_12) .ret) .skip)
def r120_18 : LO := [o 26 (mv 8), o 27 (mv 7), o 28 (.bin .add (T 26) (T 27)), o 29 (mv 0), o 30 (.cap0 (T 29)), o 31 (.bin .gtr (T 28) (T 30))]
def r120_19 : LO := [o 32 (mv 0), o 33 (mv 1), o 34 (.sliceV 8 (T 32) none (some (T 33)) none), o 35 (mv 8), o 36 (mv 7), o 37 (.bin .add (T 35) (T 36)), o 38 (mv 1), o 39 (.bin .sub (T 37) (T 38)), o 40 (.bad), o 9 (mv 40)]
def r120_20 : LO := [o 41 (mv 9), o 42 (mv 1), o 43 (.sliceV 8 (T 41) (some (T 42)) none none), o 44 (mv 2), o 45 (.copy0 (T 43) (T 44))]
def r120_21 : LO := [o 46 (mv 9), o 47 (mv 1), o 48 (mv 7), o 49 (.bin .add (T 47) (T 48)), o 50 (.sliceV 8 (T 46) (some (T 49)) none none), o 51 (mv 0), o 52 (mv 1), o 53 (.sliceV 8 (T 51) (some (T 52)) none none), o 54 (.copy0 (T 50) (T 53))]
def r120_21t : LO := []
def r120_21o : LN := [[], [], [], [1, 2], [0, 3], [], [], [5, 6], [4, 7]]
def r120_22 : LO := [o 55 (mv 9), o 6 (mv 55)]
def k120_3 : ACode := .seq (.drawn r120_21o r120_21 r120_21t) (.seq (.region r120_22) .ret)
def k120_4 : ACode := .cond (T 31) (.seq (.region r120_19) (.seq (.region r120_20) k120_3)) .skip
def r120_31 : LO := [o 56 (mv 0), o 57 (mv 8), o 58 (mv 7), o 59 (.bin .add (T 57) (T 58)), o 60 (.sliceV 8 (T 56) none (some (T 59)) none), o 0 (mv 60)]
def r120_32 : LO := [o 61 (mv 2), o 62 (mv 0), o 63 (mv 1), o 64 (mv 7), o 65 (.bin .add (T 63) (T 64)), o 66 (.sliceV 8 (T 62) (some (T 65)) none none), o 67 (.call (cf 172) [(T 61), (T 66)]), o 68 (.un .not (T 67))]
def r120_33 : LO := [o 69 (mv 0), o 70 (mv 1), o 71 (mv 7), o 72 (.bin .add (T 70) (T 71)), o 73 (.sliceV 8 (T 69) (some (T 72)) none none), o 74 (mv 0), o 75 (mv 1), o 76 (.sliceV 8 (T 74) (some (T 75)) none none), o 77 (.copy0 (T 73) (T 76))]
def r120_33t : LO := []
def r120_33o : LN := [[], [], [], [1, 2], [0, 3], [], [], [5, 6], [4, 7]]
def r120_34 : LO := [o 78 (mv 0), o 79 (mv 1), o 80 (.sliceV 8 (T 78) (some (T 79)) none none), o 81 (mv 2), o 82 (.copy0 (T 80) (T 81))]
def r120_35 : LO := [o 83 (mv 0), o 6 (mv 83)]
def k120_5 : ACode := .seq (.drawn r120_33o r120_33 r120_33t) (.seq (.region r120_34) (.seq (.region r120_35) .ret))
def r120_43 : LO := [o 84 (mv 0), o 85 (mv 8), o 86 (.sliceV 8 (T 84) (some (T 85)) none none), o 87 (mv 2), o 88 (.copy0 (T 86) (T 87))]
def r120_44 : LO := [o 89 (mv 0), o 90 (mv 1), o 91 (.sliceV 8 (T 89) (some (T 90)) none none), o 92 (mv 7), o 93 (.call (cf 173) [(T 91), (T 92)])]
def r120_45 : LO := [o 94 (mv 0), o 6 (mv 94)]
def k120_6 : ACode := .seq (.region r120_43) (.seq (.region r120_44) (.seq (.region r120_45) .ret))
def k120_7 : ACode := .seq (.seq (.region r120_32) (.cond (T 68) k120_5 .skip)) k120_6
def k120_8 : ACode := .seq (.seq (.region r120_18) k120_4) (.seq (.region r120_31) k120_7)
def k120_9 : ACode := .seq (.region r120_2) (.seq k120_1 (.seq (.region r120_10) (.seq k120_2 k120_8)))
def k120_10 : ACode := .seq (.region r120_0) (.seq (.region r120_1) k120_9)
theorem fn120 : getFn Tryz.prog 120 = some (95, k120_10, [.tmp 6]) := by kernel_rfl
def r35_0 : LO := [o 4 (bx 0), o 6 (bx 2), o 7 (bx 3), o 8 (.alloc zV), o 9 (mi 0)]
def r35_1 : LO := [o 17 (fa 0 4), o 18 (ln 3 17), o 19 (mv 1), o 20 (fa 0 7), o 21 (ld 20), o 22 (.call (cf 67) [(T 18), (T 19), (T 21)]), o 16 (mv 22), o 23 (.extract 0 (T 16)), o 24 (.extract 1 (T 16)), o 10 (mv 23), o 11 (mv 24)]
def r35_2 : LO := [o 25 (mv 11), o 26 (.bin .neq (T 25) (ci 0))]
def r35_3 : LO := [o 27 (ln 7 6), o 28 (mv 11), on (st 7 8 27), o 9 (mv 28)]
def k35_1 : ACode := .seq (.region r35_2) (.cond (T 26) (.seq (.region r35_3) .ret) .skip)
def r35_9 : LO := [o 29 (mv 10), o 30 (.call (cf 68) [(T 29)]), o 12 (mv 30)]
def r35_10 : LO := [o 32 (ln 7 6), o 33 (mv 12), o 34 (.call (cf 69) [(T 32), (T 33)]), o 31 (mv 34), o 35 (.extract 0 (T 31)), o 36 (.extract 1 (T 31)), o 13 (.alloc zV), on (st 7 13 35), o 14 (mv 36)]
def r35_11 : LO := [o 37 (mv 14)]
def r35_12 : LO := [o 38 (ln 7 6), on (st 7 8 38), o 9 (mi 9)]
def k35_2 : ACode := .seq (.region r35_11) (.cond (T 37) (.seq (.region r35_12) .ret) .skip)
def r35_19 : LO := [o 40 (ln 5 4), o 41 (ln 5 4), o 42 (mv 1), o 43 (mv 10), o 44 (.call (cf 71) [(T 41), (T 42), (T 43)]), o 45 (fa 1 7), o 46 (ld 45), o 47 (.call (cf 70) [(T 40), (T 44), (T 46)]), o 39 (mv 47), o 48 (.extract 0 (T 39)), o 49 (.extract 1 (T 39)), o 15 (.alloc zV), on (st 7 15 48)]
def r35_19t : LO := [o 11 (mv 49)]
def r35_19o : LN := [[], [], [], [], [1, 2, 3], [], [5], [0, 4, 6], [7], [8], [8], [], [0, 1, 2, 3, 4, 5, 6, 7, 8, 9, 11]]
def r35_20 : LO := [o 50 (mv 11), o 51 (.bin .neq (T 50) (ci 0))]
def r35_21 : LO := [o 52 (ln 7 6), o 53 (mv 11), on (st 7 8 52), o 9 (mv 53)]
def k35_3 : ACode := .seq (.region r35_20) (.cond (T 51) (.seq (.region r35_21) .ret) .skip)
def r35_27 : LO := [o 54 (ln 7 6), o 55 (mv 12), o 56 (ln 7 15), o 57 (.call (cf 66) [(T 54), (T 55), (T 56)]), on (st 7 8 57), o 9 (mi 0)]
def k35_4 : ACode := .seq (.drawn r35_19o r35_19 r35_19t) (.seq k35_3 (.seq (.region r35_27) .ret))
def k35_5 : ACode := .seq (.region r35_9) (.seq (.seq (.region r35_10) k35_2) k35_4)
def k35_6 : ACode := .seq (.region r35_0) (.seq (.region r35_1) (.seq k35_1 k35_5))
theorem fn35 : getFn Tryz.prog 35 = some (58, k35_6, [.cell 8 (some 7), .tmp 9]) := by kernel_rfl
def r34_0 : LO := [o 4 (bx 0), o 6 (bx 2), o 7 (bx 3), o 8 (.alloc zV), o 9 (mi 0)]
def r34_1 : LO := [o 15 (.build zV [((0, 1), (ci 10))]), o 10 (.alloc zV), on (st 7 10 15)]
def r34_2 : LO := [o 17 (fa 4 6), o 18 (ld 17), o 19 (.bin .eql (T 18) (.c aE)), o 20 (mv 19), og 21 (fa 3 7) 20 true, og 22 (ld 21) 20 true, og 23 (.bin .neq (T 22) (.c aE)) 20 true, o 24 (.pick (T 20) (T 23) (cb false)), o 25 (mv 24), og 26 (fa 4 6) 25 false, og 27 (ld 26) 25 false, og 28 (.bin .eql (T 27) (.c (aS ⟨#[42]⟩))) 25 false, og 29 (mv 28) 25 false, og 30 (fa 2 7) 29 true, og 31 (ld 30) 29 true, og 32 (.len false (T 31)) 29 true, og 33 (.bin .gtr (T 32) (ci 0)) 29 true, og 34 (.pick (T 29) (T 33) (cb false)) 25 false, o 35 (.pick (T 25) (cb true) (T 34)), o 16 (mv 35)]
def r34_3 : LO := [o 36 (ln 7 10), on (st 7 8 36), o 9 (mi 18)]
def r34_6 : LO := [o 38 (fa 4 6), o 39 (ld 38), o 40 (.bin .eql (T 39) (.c aE)), o 37 (mv 40)]
def r34_7 : LO := [o 41 (ln 7 10), on (st 7 8 41), o 9 (mi 0)]
def r34_10 : LO := [o 43 (fa 4 6), o 44 (ld 43), o 45 (.bin .eql (T 44) (.c (aS ⟨#[42]⟩))), o 42 (mv 45)]
def r34_11 : LO := [o 46 (fa 3 4), o 47 (ln 2 46), o 48 (mv 1), o 49 (fa 3 7), o 50 (ld 49), o 51 (.call (cf 65) []), o 52 (.call (cf 64) [(T 47), (T 48), (T 50), (T 51)]), o 53 (.extract 0 (T 52)), o 54 (.extract 1 (T 52))]
def r34_11t : LO := [on (st 7 8 53), o 9 (mv 54)]
def r34_11o : LN := [[], [0], [], [], [3], [], [1, 2, 4, 5], [6], [6]]
def k34_1 : ACode := .cond (T 42) (.seq (.drawn r34_11o r34_11 r34_11t) .ret) .skip
def k34_2 : ACode := .cond (T 37) (.seq (.region r34_7) .ret) (.seq (.region r34_10) k34_1)
def k34_3 : ACode := .cond (T 16) (.seq (.region r34_3) .ret) (.seq (.region r34_6) k34_2)
def r34_22 : LO := [o 56 (fa 0 4), o 57 (ln 3 56), o 58 (mv 1), o 59 (ln 5 6), o 60 (.call (cf 61) [(T 57), (T 58), (T 59)]), o 55 (mv 60), o 61 (.extract 0 (T 55)), o 62 (.extract 1 (T 55)), o 11 (.alloc [(aI 0), aE, (aI 0), (aI 0), (aI 0), aE, aE, (aB false), (aI 0), (aU 0), aE, .nil, .nil, .nil, .nil, .nil]), on (st 16 11 61), o 12 (mv 62)]
def r34_23 : LO := [o 64 (fa 3 4), o 65 (ln 2 64), o 66 (fa 4 11), o 67 (fa 1 66), o 68 (ld 67), o 69 (fa 3 7), o 70 (ld 69), o 71 (.call (cf 65) []), o 72 (.call (cf 64) [(T 65), (T 68), (T 70), (T 71)]), o 63 (mv 72), o 73 (.extract 0 (T 63)), o 74 (.extract 1 (T 63)), o 13 (.alloc zV), on (st 7 13 73)]
def r34_23t : LO := [o 14 (mv 74)]
def r34_23o : LN := [[], [0], [], [2], [3], [], [5], [], [1, 4, 6, 7], [8], [9], [9], [], [0, 1, 2, 3, 4, 5, 6, 7, 8, 9, 10, 12]]
def r34_24 : LO := [o 75 (mv 14), o 76 (.bin .neq (T 75) (ci 0))]
def r34_25 : LO := [o 77 (ln 7 10), o 78 (mv 14), on (st 7 8 77), o 9 (mv 78)]
def k34_4 : ACode := .seq (.region r34_24) (.cond (T 76) (.seq (.region r34_25) .ret) .skip)
def r34_31 : LO := [o 79 (ln 7 10), o 80 (fa 0 11), o 81 (ld 80), o 82 (.sliceLit 1 1 [(aI 0)] [((0, 1), (T 81))]), o 83 (ln 7 13), o 84 (.call (cf 66) [(T 79), (T 82), (T 83)]), on (st 7 8 84), o 9 (mi 0)]
def k34_5 : ACode := .seq (.drawn r34_23o r34_23 r34_23t) (.seq k34_4 (.seq (.region r34_31) .ret))
def k34_6 : ACode := .seq (.block 0 (.seq (.region r34_2) k34_3)) (.seq (.region r34_22) k34_5)
def k34_7 : ACode := .seq (.region r34_0) (.seq (.region r34_1) k34_6)
theorem fn34 : getFn Tryz.prog 34 = some (85, k34_7, [.cell 8 (some 7), .tmp 9]) := by kernel_rfl
def r12_0 : LO := [o 6 (mi 0), o 7 (.mv (.c .nil)), o 8 (mi 0)]
def r12_1 : LO := [o 13 (mv 0), o 14 (.len false (T 13)), o 15 (mi 0)]
def r12_2 : LO := [o 16 (.bin .lss (T 15) (T 14))]
def r12_6 : LO := [o 17 (mv 15), o 18 (.idxSl 5 (T 13) (T 15)), o 19 (ln 5 18), o 10 (.alloc [aE, aE, aE, aE, aE]), o 9 (mv 17), on (st 5 10 19)]
def r12_7 : LO := [o 21 (ln 5 10), o 22 (mv 1), o 23 (mv 2), o 24 (.call (cf 28) [(T 21), (T 22), (T 23)]), o 20 (mv 24), o 25 (.extract 0 (T 20)), o 26 (.extract 1 (T 20)), o 11 (mv 25), o 12 (mv 26)]
def r12_8 : LO := [o 27 (mv 12)]
def r12_9 : LO := [o 28 (mv 9), o 29 (mv 11), o 6 (mv 28), o 7 (mv 29), o 8 (mi 0)]
def k12_1 : ACode := .seq (.region r12_8) (.cond (T 27) (.seq (.region r12_9) .ret) .skip)
def r12_18 : LO := [o 30 (.bin .add (T 15) (ci 1)), o 15 (mv 30)]
def k12_2 : ACode := .seq (.block 1 (.seq (.region r12_6) (.seq (.region r12_7) k12_1))) (.region r12_18)
def k12_3 : ACode := .seq (.region r12_2) (.seq (.cond (T 16) .skip (.exit 0)) k12_2)
def r12_25 : LO := [o 6 (mi 0), o 7 (.mv (.c .nil)), o 8 (mi 10)]
def k12_4 : ACode := .seq (.seq (.region r12_1) (.block 0 (.loop k12_3))) (.seq (.region r12_25) .ret)
def k12_5 : ACode := .seq (.region r12_0) k12_4
theorem fn12 : getFn Tryz.prog 12 = some (31, k12_5, [.tmp 6, .tmp 7, .tmp 8]) := by kernel_rfl
def r28_0 : LO := [o 3 (bx 0), o 6 (.mv (.c .nil)), o 7 (mb false)]
def r28_1 : LO := [o 20 (fa 1 3), o 21 (ld 20), o 22 (.call (cf 49) [(T 21)]), o 19 (mv 22), o 23 (.extract 0 (T 19)), o 24 (.extract 1 (T 19)), o 8 (mv 23), o 9 (mv 24)]
def r28_2 : LO := [o 26 (mv 2), o 27 (.call (cf 50) [(T 26)]), o 25 (mv 27), o 28 (.extract 0 (T 25)), o 29 (.extract 1 (T 25)), o 10 (mv 28), o 11 (mv 29)]
def r28_3 : LO := [o 30 (mv 9), o 31 (.un .not (T 30)), o 32 (mv 31), og 33 (mv 11) 32 false, og 34 (.un .not (T 33)) 32 false, o 35 (.pick (T 32) (cb true) (T 34)), o 36 (mv 35), og 37 (fa 0 3) 36 false, og 38 (ld 37) 36 false, og 39 (mv 1) 36 false, og 40 (.bin .neq (T 38) (T 39)) 36 false, o 41 (.pick (T 36) (cb true) (T 40)), o 42 (mv 41), og 43 (mv 8) 42 false, og 44 (.len false (T 43)) 42 false, og 45 (mv 10) 42 false, og 46 (.len false (T 45)) 42 false, og 47 (.bin .neq (T 44) (T 46)) 42 false, o 48 (.pick (T 42) (cb true) (T 47))]
def r28_4 : LO := [o 6 (.mv (.c .nil)), o 7 (mb false)]
def k28_1 : ACode := .seq (.region r28_3) (.cond (T 48) (.seq (.region r28_4) .ret) .skip)
def r28_10 : LO := [o 12 (.mv (.c .nil))]
def r28_11 : LO := [o 49 (mv 8), o 50 (.len false (T 49)), o 51 (mi 0)]
def r28_12 : LO := [o 52 (.bin .lss (T 51) (T 50))]
def r28_16 : LO := [o 53 (mv 51), o 54 (.idxSl 1 (T 49) (T 51)), o 55 (ld 54), o 13 (mv 53), o 14 (mv 55)]
def r28_17 : LO := [o 57 (mv 14), o 58 (.call (cf 51) [(T 57)]), o 56 (mv 58), o 59 (.extract 0 (T 56)), o 60 (.extract 1 (T 56)), o 15 (mv 59), o 16 (mv 60)]
def r28_18 : LO := [o 61 (mv 16), o 62 (.un .not (T 61)), o 63 (mv 62), og 64 (mv 14) 63 true, og 65 (mv 10) 63 true, og 66 (mv 13) 63 true, og 67 (.idxSl 1 (T 65) (T 66)) 63 true, og 68 (ld 67) 63 true, og 69 (.bin .neq (T 64) (T 68)) 63 true, o 70 (.pick (T 63) (T 69) (cb false))]
def r28_19 : LO := [o 6 (.mv (.c .nil)), o 7 (mb false)]
def k28_2 : ACode := .seq (.region r28_18) (.cond (T 70) (.seq (.region r28_19) .ret) .skip)
def r28_25 : LO := [o 71 (mv 16)]
def r28_26 : LO := [o 73 (mv 10), o 74 (mv 13), o 75 (.idxSl 1 (T 73) (T 74)), o 76 (ld 75), o 77 (.call (cf 7) [(T 76)]), o 72 (mv 77), o 78 (.extract 0 (T 72)), o 79 (.extract 1 (T 72)), o 17 (mv 78), o 18 (mv 79)]
def r28_27 : LO := [o 80 (mv 18), o 81 (.bin .neq (T 80) (ci 0)), o 82 (mv 81), og 83 (mv 10) 82 false, og 84 (mv 13) 82 false, og 85 (.idxSl 1 (T 83) (T 84)) 82 false, og 86 (ld 85) 82 false, og 87 (.bin .eql (T 86) (.c aE)) 82 false, o 88 (.pick (T 82) (cb true) (T 87))]
def r28_28 : LO := [o 6 (.mv (.c .nil)), o 7 (mb false)]
def k28_3 : ACode := .seq (.region r28_27) (.cond (T 88) (.seq (.region r28_28) .ret) .skip)
def r28_34 : LO := [o 89 (mv 12), o 90 (mv 15), o 91 (mv 17), o 92 (.build [aE, aE] [((0, 1), (T 90)), ((1, 1), (T 91))]), o 93 (.sliceLit 2 1 [aE, aE] [((0, 2), (T 92))]), o 94 (.append 48 2 32 (T 89) (T 93)), o 12 (mv 94)]
def k28_4 : ACode := .cond (T 71) (.seq (.region r28_26) (.seq k28_3 (.region r28_34))) .skip
def k28_5 : ACode := .seq (.region r28_17) (.seq k28_2 (.seq (.region r28_25) k28_4))
def r28_44 : LO := [o 95 (.bin .add (T 51) (ci 1)), o 51 (mv 95)]
def k28_6 : ACode := .seq (.block 1 (.seq (.region r28_16) k28_5)) (.region r28_44)
def k28_7 : ACode := .seq (.region r28_12) (.seq (.cond (T 52) .skip (.exit 0)) k28_6)
def r28_51 : LO := [o 96 (mv 12), o 6 (mv 96), o 7 (mb true)]
def k28_8 : ACode := .seq (.seq (.region r28_11) (.block 0 (.loop k28_7))) (.seq (.region r28_51) .ret)
def k28_9 : ACode := .seq (.region r28_2) (.seq k28_1 (.seq (.region r28_10) k28_8))
def k28_10 : ACode := .seq (.region r28_0) (.seq (.region r28_1) k28_9)
theorem fn28 : getFn Tryz.prog 28 = some (97, k28_10, [.tmp 6, .tmp 7]) := by kernel_rfl
def r7_0 : LO := [o 2 (.mv (.c aE)), o 3 (mi 0)]
def r7_1 : LO := [o 4 (.allocB 72 5)]
def r7_2 : LO := [o 5 (mi 0)]
def r7_3 : LO := [o 8 (mv 5), o 9 (mv 0), o 10 (.len true (T 9)), o 11 (.bin .lss (T 8) (T 10))]
def r7_8 : LO := [o 14 (mv 0), o 15 (mv 5), o 16 (.idxS (T 14) (T 15)), o 17 (.bin .neq (T 16) (.c (aC 37)))]
def r7_9 : LO := [o 18 (mv 0), o 19 (mv 5), o 20 (.idxS (T 18) (T 19)), o 21 (.call (cf 21) [(T 4), (T 20)])]
def k7_1 : ACode := .seq (.region r7_8) (.cond (T 17) (.seq (.region r7_9) (.exit 1)) .skip)
def r7_15 : LO := [o 22 (mv 5), o 23 (.bin .add (T 22) (ci 2)), o 24 (mv 0), o 25 (.len true (T 24)), o 26 (.bin .geq (T 23) (T 25))]
def r7_16 : LO := [o 2 (.mv (.c aE)), o 3 (mi 2)]
def k7_2 : ACode := .seq (.region r7_15) (.cond (T 26) (.seq (.region r7_16) .ret) .skip)
def r7_22 : LO := [o 27 (mv 0), o 28 (mv 5), o 29 (.bin .add (T 28) (ci 1)), o 30 (.idxS (T 27) (T 29)), o 31 (.call (cf 22) [(.c (aS ⟨#[48, 49, 50, 51, 52, 53, 54, 55, 56, 57, 65, 66, 67, 68, 69, 70]⟩)), (T 30)]), o 32 (mv 0), o 33 (mv 5), o 34 (.bin .add (T 33) (ci 2)), o 35 (.idxS (T 32) (T 34)), o 36 (.call (cf 22) [(.c (aS ⟨#[48, 49, 50, 51, 52, 53, 54, 55, 56, 57, 65, 66, 67, 68, 69, 70]⟩)), (T 35)]), o 6 (mv 31)]
def r7_22t : LO := [o 7 (mv 36)]
def r7_22o : LN := [[], [], [1], [0, 2], [3], [], [], [6], [5, 7], [4, 8], [0, 1, 2, 3, 4, 9]]
def r7_23 : LO := [o 37 (mv 6), o 38 (.bin .lss (T 37) (ci 0)), o 39 (mv 38), og 40 (mv 7) 39 false, og 41 (.bin .lss (T 40) (ci 0)) 39 false, o 42 (.pick (T 39) (cb true) (T 41))]
def r7_24 : LO := [o 2 (.mv (.c aE)), o 3 (mi 2)]
def k7_3 : ACode := .seq (.region r7_23) (.cond (T 42) (.seq (.region r7_24) .ret) .skip)
def r7_30 : LO := [o 43 (mv 6), o 44 (.bin .shl (T 43) (.c (aU 4))), o 45 (mv 7), o 46 (.bin .or (T 44) (T 45)), o 47 (.conv (.num .u8) (T 46)), o 48 (.call (cf 21) [(T 4), (T 47)])]
def r7_31 : LO := [o 49 (mv 5), o 50 (.bin .add (T 49) (ci 2)), o 5 (mv 50)]
def k7_4 : ACode := .seq (.drawn r7_22o r7_22 r7_22t) (.seq k7_3 (.seq (.region r7_30) (.region r7_31)))
def r7_38 : LO := [o 12 (mv 5), o 13 (.bin .add (T 12) (ci 1)), o 5 (mv 13)]
def k7_5 : ACode := .seq (.seq (.region r7_3) (.cond (T 11) .skip (.exit 0))) (.seq (.block 1 (.seq k7_1 (.seq k7_2 k7_4))) (.region r7_38))
def r7_44 : LO := [o 51 (.call (cf 23) [(T 4)]), o 52 (.call (cf 9) [(T 51)]), o 53 (mv 0), o 54 (.bin .neq (T 52) (T 53))]
def r7_45 : LO := [o 2 (.mv (.c aE)), o 3 (mi 2)]
def k7_6 : ACode := .seq (.region r7_44) (.cond (T 54) (.seq (.region r7_45) .ret) .skip)
def r7_51 : LO := [o 55 (.call (cf 23) [(T 4)]), o 2 (mv 55), o 3 (mi 0)]
def k7_7 : ACode := .seq (.seq (.region r7_2) (.block 0 (.loop k7_5))) (.seq k7_6 (.seq (.region r7_51) .ret))
def k7_8 : ACode := .seq (.region r7_0) (.seq (.region r7_1) k7_7)
theorem fn7 : getFn Tryz.prog 7 = some (56, k7_8, [.tmp 2, .tmp 3]) := by kernel_rfl
def r15_0 : LO := [o 0 (.alloc [.nil, .nil, .nil]), o 1 (.alloc [aE, aE, aE, aE, aE])]
def r15_1 : LO := [o 4 (.build [(aI 0), aE] [((0, 1), (ci 4))]), o 5 (.build [(aI 0), aE, (aI 0), (aI 0), (aI 0), aE, aE, (aB false), (aI 0), (aU 0), aE, .nil, .nil, .nil, .nil, .nil] [((0, 1), (ci 1)), ((1, 1), (.c (aS ⟨#[105, 100]⟩))), ((2, 1), (ci 3)), ((4, 2), (T 4))]), o 6 (.build [(aI 0), aE] [((0, 1), (ci 7))]), o 7 (.build [(aI 0), aE, (aI 0), (aI 0), (aI 0), aE, aE, (aB false), (aI 0), (aU 0), aE, .nil, .nil, .nil, .nil, .nil] [((0, 1), (ci 2)), ((1, 1), (.c (aS ⟨#[116, 97, 103]⟩))), ((2, 1), (ci 4)), ((4, 2), (T 6))]), o 8 (.sliceLit 16 2 [(aI 0), aE, (aI 0), (aI 0), (aI 0), aE, aE, (aB false), (aI 0), (aU 0), aE, .nil, .nil, .nil, .nil, .nil, (aI 0), aE, (aI 0), (aI 0), (aI 0), aE, aE, (aB false), (aI 0), (aU 0), aE, .nil, .nil, .nil, .nil, .nil] [((0, 16), (T 5)), ((16, 16), (T 7))]), o 9 (.build [aE, .nil, .nil, .nil, .nil] [((0, 1), (.c (aS ⟨#[77]⟩))), ((1, 1), (T 8))]), o 2 (.alloc [aE, .nil, .nil, .nil, .nil]), on (st 5 2 9)]
def r15_2 : LO := [o 10 (.build [aE, aE, aE, (aI 0), .nil] [((0, 1), (.c (aS ⟨#[71, 101, 116]⟩))), ((1, 1), (.c (aS ⟨#[77]⟩))), ((2, 1), (.c (aS ⟨#[77]⟩))), ((3, 1), (ci 1))]), o 11 (.sliceLit 5 1 [aE, aE, aE, (aI 0), .nil] [((0, 5), (T 10))]), o 12 (.build [aE, .nil, .nil] [((0, 1), (.c (aS ⟨#[83]⟩))), ((1, 1), (T 11))]), o 3 (.alloc [aE, .nil, .nil]), on (st 3 3 12)]
def r15_3 : LO := [o 13 (ln 5 2), o 14 (.sliceLit 5 1 [aE, .nil, .nil, .nil, .nil] [((0, 5), (T 13))]), o 15 (ln 3 3), o 16 (.sliceLit 3 1 [aE, .nil, .nil] [((0, 3), (T 15))]), o 17 (.build [.nil, .nil, .nil] [((0, 1), (T 14)), ((2, 1), (T 16))]), o 18 (.build [aE, aE, aE, aE, aE] [((0, 1), (.c (aS ⟨#[71, 69, 84]⟩))), ((1, 1), (.c (aS ⟨#[47, 117, 115, 101, 114, 115, 47, 123, 105, 100, 125]⟩))), ((2, 1), (.c (aS ⟨#[83]⟩))), ((3, 1), (.c (aS ⟨#[71, 101, 116]⟩)))]), on (st 3 0 17), on (st 5 1 18)]
def k15_1 : ACode := .seq (.region r15_1) (.seq (.region r15_2) (.seq (.region r15_3) .ret))
def k15_2 : ACode := .seq (.region r15_0) k15_1
theorem fn15 : getFn Tryz.prog 15 = some (19, k15_2, [.cell 0 (some 3), .cell 1 (some 5)]) := by kernel_rfl
def r14_0 : LO := [o 2 (bx 0), o 3 (bx 1), o 4 (mb false)]
def r14_1 : LO := [o 6 (fa 0 2), o 7 (ld 6), o 8 (fa 0 3), o 9 (ld 8), o 10 (.bin .neq (T 7) (T 9)), o 11 (mv 10), og 12 (fa 1 2) 11 false, og 13 (ld 12) 11 false, og 14 (fa 1 3) 11 false, og 15 (ld 14) 11 false, og 16 (.bin .neq (T 13) (T 15)) 11 false, o 17 (.pick (T 11) (cb true) (T 16)), o 18 (mv 17), og 19 (fa 3 2) 18 false, og 20 (ld 19) 18 false, og 21 (fa 3 3) 18 false, og 22 (ld 21) 18 false, og 23 (.bin .neq (T 20) (T 22)) 18 false, o 24 (.pick (T 18) (cb true) (T 23)), o 25 (mv 24), og 26 (fa 2 2) 25 false, og 27 (ld 26) 25 false, og 28 (.len false (T 27)) 25 false, og 29 (fa 2 3) 25 false, og 30 (ld 29) 25 false, og 31 (.len false (T 30)) 25 false, og 32 (.bin .neq (T 28) (T 31)) 25 false, o 33 (.pick (T 25) (cb true) (T 32))]
def r14_2 : LO := [o 4 (mb false)]
def k14_1 : ACode := .seq (.region r14_1) (.cond (T 33) (.seq (.region r14_2) .ret) .skip)
def r14_8 : LO := [o 5 (mi 0)]
def r14_9 : LO := [o 34 (mv 5), o 35 (fa 2 2), o 36 (ld 35), o 37 (.len false (T 36)), o 38 (.bin .lss (T 34) (T 37))]
def r14_14 : LO := [o 41 (fa 2 2), o 42 (ld 41), o 43 (mv 5), o 44 (.idxSl 2 (T 42) (T 43)), o 45 (fa 0 44), o 46 (ld 45), o 47 (fa 2 3), o 48 (ld 47), o 49 (mv 5), o 50 (.idxSl 2 (T 48) (T 49)), o 51 (fa 0 50), o 52 (ld 51), o 53 (.bin .neq (T 46) (T 52)), o 54 (mv 53), og 55 (fa 2 2) 54 false, og 56 (ld 55) 54 false, og 57 (mv 5) 54 false, og 58 (.idxSl 2 (T 56) (T 57)) 54 false, og 59 (fa 1 58) 54 false, og 60 (ld 59) 54 false, og 61 (fa 2 3) 54 false, og 62 (ld 61) 54 false, og 63 (mv 5) 54 false, og 64 (.idxSl 2 (T 62) (T 63)) 54 false, og 65 (fa 1 64) 54 false, og 66 (ld 65) 54 false, og 67 (.bin .neq (T 60) (T 66)) 54 false, o 68 (.pick (T 54) (cb true) (T 67))]
def r14_14t : LO := []
def r14_14o : LN := [[], [0], [], [1, 2], [3], [4], [], [6], [], [7, 8], [9], [10], [5, 11], [12], [13], [13, 14], [13], [13, 15, 16], [13, 17], [13, 18], [13], [13, 20], [13], [13, 21, 22], [13, 23], [13, 24], [13, 19, 25], [13, 26]]
def r14_15 : LO := [o 4 (mb false)]
def k14_2 : ACode := .seq (.drawn r14_14o r14_14 r14_14t) (.cond (T 68) (.seq (.region r14_15) .ret) .skip)
def r14_22 : LO := [o 39 (mv 5), o 40 (.bin .add (T 39) (ci 1)), o 5 (mv 40)]
def k14_3 : ACode := .seq (.seq (.region r14_9) (.cond (T 38) .skip (.exit 0))) (.seq (.block 1 k14_2) (.region r14_22))
def r14_28 : LO := [o 4 (mb true)]
def k14_4 : ACode := .seq (.seq (.region r14_8) (.block 0 (.loop k14_3))) (.seq (.region r14_28) .ret)
def k14_5 : ACode := .seq (.region r14_0) (.seq k14_1 k14_4)
theorem fn14 : getFn Tryz.prog 14 = some (69, k14_5, [.tmp 4]) := by kernel_rfl
theorem tok_cons {P : Program} {T : Tbl} {g : Nat} {x : Nat × ACode × List ARes} (h : getFn P g = some x) (t : TblOK P T) (hc : isCC x.2.1 = false := by rfl) (hk : isKn x.2.1 = none := by rfl) : TblOK P ((g, x) :: T) := by
 intro f y hf
 rcases List.mem_cons.1 hf with e | hf
 ·cases e; unfold EntOK; rw [hk, hc]; exact h
 ·exact t f y hf
theorem tok_nil {P : Program} : TblOK P [] := fun _ _ h => by cases h
def tblG : Tbl := [
 (6, (186, k6_5, [.tmp 0])),
 (20, (14, k20_3, [.tmp 2])),
 (19, (39, k19_11, [.tmp 4])),
 (45, (7, k45_1, [.tmp 3])),
 (46, (63, k46_7, [.tmp 4])),
 (97, (29, k97_5, [.tmp 2])),
 (25, (37, k25_1, [.tmp 2])),
 (49, (42, k49_7, [.tmp 2, .tmp 3])),
 (51, (33, k51_3, [.tmp 2, .tmp 3])),
 (56, (19, k56_5, [.tmp 2])),
 (103, (8, k103_1, [.tmp 4])),
 (158, (66, k158_10, [.tmp 8])),
 (157, (143, k157_19, [.tmp 4])),
 (48, (8, k48_1, [.tmp 4])),
 (226, (34, k226_7, [.tmp 4])),
 (57, (36, k57_5, [.tmp 2])),
 (104, (27, k104_5, [.tmp 2])),
 (50, (46, k50_6, [.tmp 2, .tmp 3])),
 (44, (9, k44_1, [.tmp 4])),
 (96, (19, k96_5, [.tmp 4])),
 (33, (80, k33_10, [.tmp 4])),
 (62, (9, k62_1, [.tmp 4])),
 (114, (19, k114_5, [.tmp 4])),
 (61, (52, k61_3, [.cell 6 (some 16), .tmp 7])),
 (113, (23, k113_3, [.cell 4 (some 16), .tmp 5])),
 (150, (18, k150_3, [.cell 4 (some 7), .tmp 5])),
 (212, (8, k212_1, [.tmp 4])),
 (282, (19, k282_5, [.tmp 4])),
 (161, (8, k161_1, [.tmp 3])),
 (135, (21, k135_5, [.cell 4 (some 16), .tmp 5])),
 (74, (12, k74_1, [.cell 4 (some 5), .tmp 5])),
 (126, (8, k126_1, [.tmp 3])),
 (125, (21, k125_5, [.cell 4 (some 5), .tmp 5])),
 (60, (68, k60_9, [.tmp 6, .tmp 7])),
 (110, (11, k110_1, [.tmp 2])),
 (109, (33, k109_6, [.tmp 2])),
 (72, (13, k72_1, [.tmp 2])),
 (124, (9, k124_1, [.tmp 2])),
 (68, (19, k68_4, [.tmp 2])),
 (67, (81, k67_11, [.tmp 6, .tmp 7])),
 (59, (9, k59_1, [.tmp 4])),
 (108, (19, k108_5, [.tmp 4])),
 (32, (39, k32_4, [.cell 4 (some 5), .tmp 5])),
 (58, (36, k58_3, [.cell 4 (some 5), .tmp 5])),
 (107, (8, k107_1, [.tmp 3])),
 (106, (21, k106_5, [.cell 4 (some 5), .tmp 5])),
 (105, (12, k105_1, [.cell 4 (some 3), .tmp 5])),
 (160, (8, k160_1, [.tmp 3])),
 (159, (21, k159_5, [.cell 4 (some 3), .tmp 5])),
 (55, (13, k55_1, [.tmp 4, .tmp 5, .tmp 6])),
 (102, (23, k102_3, [.tmp 4, .tmp 5, .tmp 6])),
 (31, (9, k31_1, [.tmp 4])),
 (18, (53, k18_6, [.cell 8 (some 2)])),
 (43, (32, k43_3, [.tmp 6, .tmp 7])),
 (95, (75, k95_14, [.tmp 4])),
 (155, (25, k155_3, [])),
 (219, (30, k219_1, [])),
 (26, (19, k26_2, [.tmp 4, .tmp 5])),
 (23, (14, k23_1, [.tmp 2])),
 (94, (8, k94_2, [.tmp 2, .tmp 3])),
 (93, (59, k93_11, [.tmp 2, .tmp 3])),
 (92, (40, k92_6, [.tmp 6, .tmp 7])),
 (154, (86, k154_7, [.cell 6 (some 7)])),
 (83, (20, k83_8, [.tmp 4])),
 (142, (6, k142_1, [.tmp 2])),
 (217, (27, k217_1, [.tmp 2])),
 (140, (20, k140_1, [.tmp 2])),
 (196, (28, k196_3, [.tmp 2])),
 (237, (9, k237_1, [.tmp 2])),
 (216, (67, k216_12, [.cell 6 (some 7)])),
 (294, (17, k294_2, [.cell 6 (some 7)])),
 (139, (14, k139_2, [.cell 2 (some 7)])),
 (123, (12, k123_1, [.cell 4 (some 8), .tmp 5])),
 (181, (20, k181_3, [.cell 4 (some 8), .tmp 5])),
 (243, (19, k243_5, [.tmp 4])),
 (180, (8, k180_1, [.tmp 3])),
 (81, (9, .region r81_0, [])),
 (141, (63, k141_9, [])),
 (197, (53, k197_6, [])),
 (78, (40, k78_6, [.tmp 2])),
 (134, (10, k134_1, [.tmp 4])),
 (133, (9, .region r133_0, [])),
 (189, (63, k189_9, [])),
 (252, (53, k252_6, [])),
 (119, (8, k119_2, [.tmp 2])),
 (77, (8, k77_2, [.tmp 2])),
 (153, (86, k153_12, [])),
 (215, (43, k215_9, [.tmp 2])),
 (293, (8, k293_1, [.tmp 4])),
 (349, (32, k349_5, [.tmp 4])),
 (379, (15, k379_2, [.tmp 2])),
 (291, (20, k291_4, [.tmp 2])),
 (348, (41, k348_7, [.tmp 6])),
 (372, (16, k372_1, [.tmp 6])),
 (305, (18, k305_1, [.tmp 4])),
 (266, (39, k266_2, [.tmp 4])),
 (313, (28, k313_8, [.tmp 4])),
 (275, (6, k275_1, [.tmp 2])),
 (338, (16, k338_5, [.tmp 2])),
 (214, (58, k214_3, [])),
 (199, (40, k199_5, [.tmp 6])),
 (152, (45, k152_14, [.tmp 2])),
 (151, (32, k151_5, [.tmp 6])),
 (213, (77, k213_17, [.tmp 8])),
 (285, (69, k285_9, [.tmp 10])),
 (345, (59, k345_11, [.tmp 8])),
 (396, (49, k396_6, [.tmp 8])),
 (284, (74, k284_1, [.tmp 2])),
 (375, (31, k375_3, [.tmp 8])),
 (344, (9, k344_1, [.tmp 3])),
 (186, (9, k186_1, [.tmp 4])),
 (249, (19, k249_5, [.tmp 4])),
 (76, (23, k76_4, [.tmp 2])),
 (132, (40, k132_7, [.tmp 2])),
 (73, (8, k73_2, [.tmp 2])),
 (122, (15, k122_1, [.tmp 4, .tmp 5])),
 (179, (8, k179_1, [.tmp 3])),
 (178, (19, k178_5, [.tmp 4])),
 (42, (45, k42_10, [.cell 2 (some 2), .tmp 3])),
 (90, (68, k90_7, [.cell 4 (some 3)])),
 (148, (19, k148_4, [.tmp 4])),
 (208, (19, k208_5, [.tmp 4])),
 (147, (12, k147_1, [.tmp 2])),
 (89, (7, k89_1, [.tmp 2])),
 (146, (99, k146_17, [.tmp 2])),
 (207, (106, k207_9, [.tmp 4])),
 (278, (10, k278_1, [.tmp 2])),
 (331, (27, k331_16, [.tmp 2])),
 (276, (15, k276_1, [])),
 (339, (31, k339_7, [.tmp 4])),
 (201, (27, k201_1, [])),
 (272, (11, k272_1, [.tmp 2])),
 (267, (9, k267_1, [.tmp 4])),
 (329, (19, k329_5, [.tmp 4])),
 (269, (19, k269_3, [.cell 4 (some 5), .tmp 5])),
 (330, (8, k330_1, [.tmp 3])),
 (281, (8, k281_1, [.tmp 4])),
 (342, (9, k342_1, [.tmp 4])),
 (374, (19, k374_5, [.tmp 4])),
 (274, (52, k274_4, [])),
 (205, (79, k205_9, [.tmp 6])),
 (277, (11, k277_1, [.tmp 6])),
 (270, (30, k270_5, [.tmp 2])),
 (273, (112, k273_5, [])),
 (337, (59, k337_5, [.tmp 4])),
 (370, (34, k370_1, [.tmp 2])),
 (336, (50, k336_4, [.tmp 4])),
 (365, (9, k365_1, [.tmp 4])),
 (315, (19, k315_5, [.tmp 4])),
 (335, (57, k335_5, [.tmp 4])),
 (334, (19, k334_2, [.tmp 4])),
 (333, (5, k333_1, [.tmp 2])),
 (332, (12, k332_1, [.tmp 6])),
 (366, (16, k366_1, [.tmp 5])),
 (204, (42, k204_8, [.tmp 2])),
 (203, (19, k203_8, [.tmp 2])),
 (268, (10, k268_1, [.tmp 4])),
 (202, (20, k202_4, [.tmp 2])),
 (200, (56, k200_10, [.cell 2 (some 3)])),
 (40, (20, k40_2, [.cell 2 (some 2)])),
 (87, (12, k87_2, [.tmp 2])),
 (17, (69, k17_6, [.cell 6 (some 4), .tmp 7])),
 (39, (100, k39_9, [.cell 8 (some 4), .tmp 9])),
 (86, (119, k86_10, [.tmp 10, .tmp 11])),
 (145, (51, k145_6, [.tmp 8, .tmp 9])),
 (143, (17, k143_2, [.tmp 6])),
 (69, (33, k69_6, [.cell 4 (some 7), .tmp 5])),
 (118, (12, k118_1, [.tmp 4, .tmp 5])),
 (171, (9, k171_1, [.tmp 4])),
 (170, (49, k170_4, [.tmp 6, .tmp 7])),
 (85, (47, k85_5, [.cell 4 (some 7)])),
 (144, (33, k144_4, [.tmp 6])),
 (84, (90, k84_11, [.tmp 8, .cell 9 (some 7), .tmp 10])),
 (71, (48, k71_3, [.cell 6 (some 8)])),
 (9, (35, k9_5, [.tmp 2])),
 (21, (17, k21_2, [.tmp 4])),
 (38, (64, k38_5, [.cell 6 (some 7)])),
 (80, (87, k80_12, [.cell 6 (some 7), .tmp 7])),
 (137, (17, k137_2, [.cell 6 (some 7)])),
 (79, (12, k79_1, [.cell 4 (some 16), .tmp 5])),
 (136, (8, k136_1, [.tmp 3])),
 (37, (28, k37_5, [.tmp 6])),
 (75, (77, k75_16, [.tmp 8])),
 (250, (12, k250_1, [.cell 4 (some 5), .tmp 5])),
 (319, (21, k319_5, [.cell 4 (some 5), .tmp 5])),
 (129, (8, k129_1, [.tmp 4])),
 (187, (8, k187_1, [.tmp 3])),
 (128, (63, k128_8, [.tmp 10])),
 (185, (61, k185_11, [.tmp 8])),
 (316, (57, k316_7, [.tmp 6])),
 (127, (74, k127_1, [.tmp 2])),
 (247, (31, k247_3, [.tmp 8])),
 (183, (12, k183_2, [.tmp 4])),
 (182, (8, k182_1, [.tmp 3])),
 (30, (16, k30_1, [.cell 2 (some 5), .tmp 3])),
 (16, (139, k16_14, [.tmp 6, .cell 7 (some 7), .tmp 8])),
 (36, (111, k36_10, [.cell 10 (some 7), .tmp 11])),
 (70, (20, k70_2, [.cell 6 (some 7), .tmp 7])),
 (121, (103, k121_14, [.cell 6 (some 7), .tmp 7])),
 (174, (53, k174_7, [.cell 4 (some 7), .tmp 5])),
 (239, (46, k239_6, [.cell 4 (some 7), .tmp 5])),
 (354, (172, k354_28, [.tmp 6, .tmp 7])),
 (311, (34, k311_6, [.tmp 2])),
 (308, (8, k308_1, [.tmp 4])),
 (356, (13, k356_2, [.tmp 4])),
 (307, (26, k307_3, [.tmp 6, .tmp 7])),
 (22, (8, k22_1, [.tmp 4])),
 (66, (54, k66_5, [.cell 6 (some 7)])),
 (120, (95, k120_10, [.tmp 6])),
 (35, (58, k35_6, [.cell 8 (some 7), .tmp 9])),
 (34, (85, k34_7, [.cell 8 (some 7), .tmp 9])),
 (12, (31, k12_5, [.tmp 6, .tmp 7, .tmp 8])),
 (28, (97, k28_10, [.tmp 6, .tmp 7])),
 (7, (56, k7_8, [.tmp 2, .tmp 3])),
 (15, (19, k15_2, [.cell 0 (some 3), .cell 1 (some 5)])),
 (14, (69, k14_5, [.tmp 4]))]
theorem tblG_ok : TblOK Tryz.prog tblG :=
 tok_cons fn6 (tok_cons fn20 (tok_cons fn19 (tok_cons fn45 (tok_cons fn46 (tok_cons fn97 (tok_cons fn25 (tok_cons fn49 (tok_cons fn51 (tok_cons fn56 (tok_cons fn103 (tok_cons fn158 (tok_cons fn157 (tok_cons fn48 (tok_cons fn226 (tok_cons fn57 (tok_cons fn104 (tok_cons fn50 (tok_cons fn44 (tok_cons fn96 (tok_cons fn33 (tok_cons fn62 (tok_cons fn114 (tok_cons fn61 (tok_cons fn113 (tok_cons fn150 (tok_cons fn212 (tok_cons fn282 (tok_cons fn161 (tok_cons fn135 (tok_cons fn74 (tok_cons fn126 (tok_cons fn125 (tok_cons fn60 (tok_cons fn110 (tok_cons fn109 (tok_cons fn72 (tok_cons fn124 (tok_cons fn68 (tok_cons fn67 (tok_cons fn59 (tok_cons fn108 (tok_cons fn32 (tok_cons fn58 (tok_cons fn107 (tok_cons fn106 (tok_cons fn105 (tok_cons fn160 (tok_cons fn159 (tok_cons fn55 (tok_cons fn102 (tok_cons fn31 (tok_cons fn18 (tok_cons fn43 (tok_cons fn95 (tok_cons fn155 (tok_cons fn219 (tok_cons fn26 (tok_cons fn23 (tok_cons fn94 (tok_cons fn93 (tok_cons fn92 (tok_cons fn154 (tok_cons fn83 (tok_cons fn142 (tok_cons fn217 (tok_cons fn140 (tok_cons fn196 (tok_cons fn237 (tok_cons fn216 (tok_cons fn294 (tok_cons fn139 (tok_cons fn123 (tok_cons fn181 (tok_cons fn243 (tok_cons fn180 (tok_cons fn81 (tok_cons fn141 (tok_cons fn197 (tok_cons fn78 (tok_cons fn134 (tok_cons fn133 (tok_cons fn189 (tok_cons fn252 (tok_cons fn119 (tok_cons fn77 (tok_cons fn153 (tok_cons fn215 (tok_cons fn293 (tok_cons fn349 (tok_cons fn379 (tok_cons fn291 (tok_cons fn348 (tok_cons fn372 (tok_cons fn305 (tok_cons fn266 (tok_cons fn313 (tok_cons fn275 (tok_cons fn338 (tok_cons fn214 (tok_cons fn199 (tok_cons fn152 (tok_cons fn151 (tok_cons fn213 (tok_cons fn285 (tok_cons fn345 (tok_cons fn396 (tok_cons fn284 (tok_cons fn375 (tok_cons fn344 (tok_cons fn186 (tok_cons fn249 (tok_cons fn76 (tok_cons fn132 (tok_cons fn73 (tok_cons fn122 (tok_cons fn179 (tok_cons fn178 (tok_cons fn42 (tok_cons fn90 (tok_cons fn148 (tok_cons fn208 (tok_cons fn147 (tok_cons fn89 (tok_cons fn146 (tok_cons fn207 (tok_cons fn278 (tok_cons fn331 (tok_cons fn276 (tok_cons fn339 (tok_cons fn201 (tok_cons fn272 (tok_cons fn267 (tok_cons fn329 (tok_cons fn269 (tok_cons fn330 (tok_cons fn281 (tok_cons fn342 (tok_cons fn374 (tok_cons fn274 (tok_cons fn205 (tok_cons fn277 (tok_cons fn270 (tok_cons fn273 (tok_cons fn337 (tok_cons fn370 (tok_cons fn336 (tok_cons fn365 (tok_cons fn315 (tok_cons fn335 (tok_cons fn334 (tok_cons fn333 (tok_cons fn332 (tok_cons fn366 (tok_cons fn204 (tok_cons fn203 (tok_cons fn268 (tok_cons fn202 (tok_cons fn200 (tok_cons fn40 (tok_cons fn87 (tok_cons fn17 (tok_cons fn39 (tok_cons fn86 (tok_cons fn145 (tok_cons fn143 (tok_cons fn69 (tok_cons fn118 (tok_cons fn171 (tok_cons fn170 (tok_cons fn85 (tok_cons fn144 (tok_cons fn84 (tok_cons fn71 (tok_cons fn9 (tok_cons fn21 (tok_cons fn38 (tok_cons fn80 (tok_cons fn137 (tok_cons fn79 (tok_cons fn136 (tok_cons fn37 (tok_cons fn75 (tok_cons fn250 (tok_cons fn319 (tok_cons fn129 (tok_cons fn187 (tok_cons fn128 (tok_cons fn185 (tok_cons fn316 (tok_cons fn127 (tok_cons fn247 (tok_cons fn183 (tok_cons fn182 (tok_cons fn30 (tok_cons fn16 (tok_cons fn36 (tok_cons fn70 (tok_cons fn121 (tok_cons fn174 (tok_cons fn239 (tok_cons fn354 (tok_cons fn311 (tok_cons fn308 (tok_cons fn356 (tok_cons fn307 (tok_cons fn22 (tok_cons fn66 (tok_cons fn120 (tok_cons fn35 (tok_cons fn34 (tok_cons fn12 (tok_cons fn28 (tok_cons fn7 (tok_cons fn15 (tok_cons fn14 tok_nil)))))))))))))))))))))))))))))))))))))))))))))))))))))))))))))))))))))))))))))))))))))))))))))))))))))))))))))))))))))))))))))))))))))))))))))))))))))))))))))))))))))))))))))))))))))))))))))))))))))))))))))))))))))))
def tbl : Tbl := (47, 72, .from_ .skip 0, []) :: tblG
theorem tbl_ok : TblOK Tryz.prog tbl := by
 intro g x hm
 rcases List.mem_cons.1 hm with h | h
 ·cases h; exact cc_ok
 ·exact tblG_ok g x h
def gl0 : List (Nat × List AV) := [(1, [.v (.string ⟨#[111, 107]⟩), .v (.string ⟨#[99, 97, 110, 99, 101, 108, 108, 101, 100]⟩), .v (.string ⟨#[105, 110, 118, 97, 108, 105, 100]⟩), .v (.string ⟨#[100, 101, 97, 100, 108, 105, 110, 101]⟩), .v (.string ⟨#[110, 111, 116, 95, 102, 111, 117, 110, 100]⟩), .v (.string ⟨#[101, 120, 105, 115, 116, 115]⟩), .v (.string ⟨#[100, 101, 110, 105, 101, 100]⟩), .v (.string ⟨#[101, 120, 104, 97, 117, 115, 116, 101, 100]⟩), .v (.string ⟨#[102, 97, 105, 108, 101, 100]⟩), .v (.string ⟨#[97, 98, 111, 114, 116, 101, 100]⟩), .v (.string ⟨#[117, 110, 105, 109, 112, 108, 101, 109, 101, 110, 116, 101, 100]⟩), .v (.string ⟨#[105, 110, 116, 101, 114, 110, 97, 108]⟩), .v (.string ⟨#[117, 110, 97, 118, 97, 105, 108, 97, 98, 108, 101]⟩), .v (.string ⟨#[100, 97, 116, 97, 95, 108, 111, 115, 115]⟩)])]
def mode0 (f : Nat) (md : Bool) : Bool := if [66, 85].contains f then true else if [119, 120, 144].contains f then md else false
def kn0 : List AV := [(.tuple [(.v (.int .i64 0)), (.sl [[(.v (.string ⟨#[105, 100]⟩)), (.v (.string ⟨#[55]⟩))]] .no), (.v (.int .i64 0))]), (.sl [[(.v (.string ⟨#[71, 69, 84]⟩)), (.v (.string ⟨#[47, 117, 115, 101, 114, 115, 47, 123, 105, 100, 125]⟩)), (.v (.string ⟨#[83]⟩)), (.v (.string ⟨#[71, 101, 116]⟩)), (.v (.string ⟨#[]⟩))]] .full), (.v (.string ⟨#[71, 69, 84]⟩)), (.v (.string ⟨#[47, 117, 115, 101, 114, 115, 47, 55]⟩))]
def kn1 : List AV := [(.tuple [(.agg [(.sl [[(.v (.string ⟨#[77]⟩)), (.sl [[(.v (.int .i64 1)), (.v (.string ⟨#[105, 100]⟩)), (.v (.string ⟨#[]⟩)), (.v (.int .i64 3)), (.v (.int .i64 0)), (.v (.int .i64 4)), (.v (.int .i64 (-1))), (.v (.int .i64 (-1)))], [(.v (.int .i64 2)), (.v (.string ⟨#[116, 97, 103]⟩)), (.v (.string ⟨#[]⟩)), (.v (.int .i64 4)), (.v (.int .i64 0)), (.v (.int .i64 7)), (.v (.int .i64 (-1))), (.v (.int .i64 (-1)))]] .no), (.v (.int .i64 0))]] .no), .nil]), (.v (.int .i64 0))]), (.agg [(.sl [[(.v (.string ⟨#[77]⟩)), (.sl [[(.v (.int .i64 1)), (.v (.string ⟨#[105, 100]⟩)), (.v (.int .i64 3)), (.v (.int .i64 0)), (.v (.int .i64 4)), (.v (.string ⟨#[]⟩)), (.v (.string ⟨#[]⟩)), (.v (.bool false)), (.v (.int .i64 0)), (.v (.int .u64 0)), (.v (.string ⟨#[]⟩)), .nil, .nil, .nil, .nil, .nil], [(.v (.int .i64 2)), (.v (.string ⟨#[116, 97, 103]⟩)), (.v (.int .i64 4)), (.v (.int .i64 0)), (.v (.int .i64 7)), (.v (.string ⟨#[]⟩)), (.v (.string ⟨#[]⟩)), (.v (.bool false)), (.v (.int .i64 0)), (.v (.int .u64 0)), (.v (.string ⟨#[]⟩)), .nil, .nil, .nil, .nil, .nil]] .full), .nil, .nil, .nil]] .full), .nil, (.sl [[(.v (.string ⟨#[83]⟩)), (.sl [[(.v (.string ⟨#[71, 101, 116]⟩)), (.v (.string ⟨#[77]⟩)), (.v (.string ⟨#[77]⟩)), (.v (.int .i64 1)), .nil]] .full), .nil]] .full)])]
def kn2 : List AV := [(.v (.int .i64 0)), (.agg [(.sl [[(.v (.string ⟨#[77]⟩)), (.sl [[(.v (.int .i64 1)), (.v (.string ⟨#[105, 100]⟩)), (.v (.int .i64 3)), (.v (.int .i64 0)), (.v (.int .i64 4)), (.v (.string ⟨#[]⟩)), (.v (.string ⟨#[]⟩)), (.v (.bool false)), (.v (.int .i64 0)), (.v (.int .u64 0)), (.v (.string ⟨#[]⟩)), .nil, .nil, .nil, .nil, .nil], [(.v (.int .i64 2)), (.v (.string ⟨#[116, 97, 103]⟩)), (.v (.int .i64 4)), (.v (.int .i64 0)), (.v (.int .i64 7)), (.v (.string ⟨#[]⟩)), (.v (.string ⟨#[]⟩)), (.v (.bool false)), (.v (.int .i64 0)), (.v (.int .u64 0)), (.v (.string ⟨#[]⟩)), .nil, .nil, .nil, .nil, .nil]] .full), .nil, .nil, .nil]] .full), .nil, (.sl [[(.v (.string ⟨#[83]⟩)), (.sl [[(.v (.string ⟨#[71, 101, 116]⟩)), (.v (.string ⟨#[77]⟩)), (.v (.string ⟨#[77]⟩)), (.v (.int .i64 1)), .nil]] .full), .nil]] .full)]), (.agg [(.v (.string ⟨#[71, 69, 84]⟩)), (.v (.string ⟨#[47, 117, 115, 101, 114, 115, 47, 123, 105, 100, 125]⟩)), (.v (.string ⟨#[83]⟩)), (.v (.string ⟨#[71, 101, 116]⟩)), (.v (.string ⟨#[]⟩))])]
def kn3 : List AV := [(.v (.int .i64 0)), (.agg [(.sl [[(.v (.string ⟨#[77]⟩)), (.sl [[(.v (.int .i64 1)), (.v (.string ⟨#[105, 100]⟩)), (.v (.int .i64 3)), (.v (.int .i64 0)), (.v (.int .i64 4)), (.v (.string ⟨#[]⟩)), (.v (.string ⟨#[]⟩)), (.v (.bool false)), (.v (.int .i64 0)), (.v (.int .u64 0)), (.v (.string ⟨#[]⟩)), .nil, .nil, .nil, .nil, .nil], [(.v (.int .i64 2)), (.v (.string ⟨#[116, 97, 103]⟩)), (.v (.int .i64 4)), (.v (.int .i64 0)), (.v (.int .i64 7)), (.v (.string ⟨#[]⟩)), (.v (.string ⟨#[]⟩)), (.v (.bool false)), (.v (.int .i64 0)), (.v (.int .u64 0)), (.v (.string ⟨#[]⟩)), .nil, .nil, .nil, .nil, .nil]] .full), .nil, .nil, .nil]] .full), .nil, (.sl [[(.v (.string ⟨#[83]⟩)), (.sl [[(.v (.string ⟨#[71, 101, 116]⟩)), (.v (.string ⟨#[77]⟩)), (.v (.string ⟨#[77]⟩)), (.v (.int .i64 1)), .nil]] .full), .nil]] .full)]), (.v (.string ⟨#[77]⟩)), (.agg [(.v (.int .i64 10)), (.v (.int .u64 0)), (.v (.string ⟨#[]⟩)), .nil, .nil, (.sl [[(.v (.int .i64 1)), (.v (.int .i64 4)), (.v (.int .u64 7)), (.v (.string ⟨#[]⟩)), .nil, .nil, .nil, .nil], [(.v (.int .i64 2)), (.v (.int .i64 11)), (.v (.int .u64 0)), (.v (.string ⟨#[]⟩)), (.sl [[(.v (.int .i64 7)), (.v (.int .u64 0)), (.v (.string ⟨#[97, 32, 98]⟩)), .nil, .nil, .nil, .nil]] .no), .nil, .nil, .nil]] .no), .nil])]
def kn4 : List AV := [(.agg [(.v (.int .i64 10)), (.v (.int .u64 0)), (.v (.string ⟨#[]⟩)), .nil, .nil, (.sl [[(.v (.int .i64 1)), (.v (.int .i64 4)), (.v (.int .u64 7)), (.v (.string ⟨#[]⟩)), .nil, .nil, .nil, .nil], [(.v (.int .i64 2)), (.v (.int .i64 11)), (.v (.int .u64 0)), (.v (.string ⟨#[]⟩)), (.sl [[(.v (.int .i64 7)), (.v (.int .u64 0)), (.v (.string ⟨#[97, 32, 98]⟩)), .nil, .nil, .nil, .nil]] .no), .nil, .nil, .nil]] .no), .nil]), (.agg [(.sl [[(.v (.string ⟨#[77]⟩)), (.sl [[(.v (.int .i64 1)), (.v (.string ⟨#[105, 100]⟩)), (.v (.int .i64 3)), (.v (.int .i64 0)), (.v (.int .i64 4)), (.v (.string ⟨#[]⟩)), (.v (.string ⟨#[]⟩)), (.v (.bool false)), (.v (.int .i64 0)), (.v (.int .u64 0)), (.v (.string ⟨#[]⟩)), .nil, .nil, .nil, .nil, .nil], [(.v (.int .i64 2)), (.v (.string ⟨#[116, 97, 103]⟩)), (.v (.int .i64 4)), (.v (.int .i64 0)), (.v (.int .i64 7)), (.v (.string ⟨#[]⟩)), (.v (.string ⟨#[]⟩)), (.v (.bool false)), (.v (.int .i64 0)), (.v (.int .u64 0)), (.v (.string ⟨#[]⟩)), .nil, .nil, .nil, .nil, .nil]] .full), .nil, .nil, .nil]] .full), .nil, (.sl [[(.v (.string ⟨#[83]⟩)), (.sl [[(.v (.string ⟨#[71, 101, 116]⟩)), (.v (.string ⟨#[77]⟩)), (.v (.string ⟨#[77]⟩)), (.v (.int .i64 1)), .nil]] .full), .nil]] .full)]), (.v (.string ⟨#[77]⟩)), (.agg [(.v (.int .i64 10)), (.v (.int .u64 0)), (.v (.string ⟨#[]⟩)), .nil, .nil, (.sl [[(.v (.int .i64 1)), (.v (.int .i64 4)), (.v (.int .u64 7)), (.v (.string ⟨#[]⟩)), .nil, .nil, .nil, .nil], [(.v (.int .i64 2)), (.v (.int .i64 11)), (.v (.int .u64 0)), (.v (.string ⟨#[]⟩)), (.sl [[(.v (.int .i64 7)), (.v (.int .u64 0)), (.v (.string ⟨#[97, 32, 98]⟩)), .nil, .nil, .nil, .nil]] .no), .nil, .nil, .nil]] .no), .nil])]
def kn5 : List AV := [(.tuple [(.v (.string ⟨#[83, 47, 71, 101, 116]⟩)), (.agg [(.v (.int .i64 10)), (.v (.int .u64 0)), (.v (.string ⟨#[]⟩)), .nil, .nil, (.sl [[(.v (.int .i64 1)), (.v (.int .i64 4)), (.v (.int .u64 7)), (.v (.string ⟨#[]⟩)), .nil, .nil, .nil, .nil], [(.v (.int .i64 2)), (.v (.int .i64 11)), (.v (.int .u64 0)), (.v (.string ⟨#[]⟩)), (.sl [[(.v (.int .i64 7)), (.v (.int .u64 0)), (.v (.string ⟨#[97, 32, 98]⟩)), .nil, .nil, .nil, .nil]] .no), .nil, .nil, .nil]] .no), .nil]), (.v (.int .i64 0))]), (.agg [(.sl [[(.v (.string ⟨#[77]⟩)), (.sl [[(.v (.int .i64 1)), (.v (.string ⟨#[105, 100]⟩)), (.v (.int .i64 3)), (.v (.int .i64 0)), (.v (.int .i64 4)), (.v (.string ⟨#[]⟩)), (.v (.string ⟨#[]⟩)), (.v (.bool false)), (.v (.int .i64 0)), (.v (.int .u64 0)), (.v (.string ⟨#[]⟩)), .nil, .nil, .nil, .nil, .nil], [(.v (.int .i64 2)), (.v (.string ⟨#[116, 97, 103]⟩)), (.v (.int .i64 4)), (.v (.int .i64 0)), (.v (.int .i64 7)), (.v (.string ⟨#[]⟩)), (.v (.string ⟨#[]⟩)), (.v (.bool false)), (.v (.int .i64 0)), (.v (.int .u64 0)), (.v (.string ⟨#[]⟩)), .nil, .nil, .nil, .nil, .nil]] .full), .nil, .nil, .nil]] .full), .nil, (.sl [[(.v (.string ⟨#[83]⟩)), (.sl [[(.v (.string ⟨#[71, 101, 116]⟩)), (.v (.string ⟨#[77]⟩)), (.v (.string ⟨#[77]⟩)), (.v (.int .i64 1)), .nil]] .full), .nil]] .full)]), (.sl [[(.v (.string ⟨#[71, 69, 84]⟩)), (.v (.string ⟨#[47, 117, 115, 101, 114, 115, 47, 123, 105, 100, 125]⟩)), (.v (.string ⟨#[83]⟩)), (.v (.string ⟨#[71, 101, 116]⟩)), (.v (.string ⟨#[]⟩))]] .full), (.agg [(.v (.string ⟨#[71, 69, 84]⟩)), (.v (.string ⟨#[47, 117, 115, 101, 114, 115, 47, 55]⟩)), (.sl [[(.v (.string ⟨#[116, 97, 103]⟩)), (.v (.string ⟨#[97, 32, 98]⟩))]] .full), (.v (.string ⟨#[]⟩))])]
def kn6 : List AV := [(.tuple [(.agg [(.v (.string ⟨#[71, 69, 84]⟩)), (.v (.string ⟨#[47, 117, 115, 101, 114, 115, 47, 55]⟩)), (.sl [[(.v (.string ⟨#[116, 97, 103]⟩)), (.v (.string ⟨#[97, 32, 98]⟩))]] .no), (.v (.string ⟨#[]⟩))]), (.v (.int .i64 0))]), (.agg [(.sl [[(.v (.string ⟨#[77]⟩)), (.sl [[(.v (.int .i64 1)), (.v (.string ⟨#[105, 100]⟩)), (.v (.int .i64 3)), (.v (.int .i64 0)), (.v (.int .i64 4)), (.v (.string ⟨#[]⟩)), (.v (.string ⟨#[]⟩)), (.v (.bool false)), (.v (.int .i64 0)), (.v (.int .u64 0)), (.v (.string ⟨#[]⟩)), .nil, .nil, .nil, .nil, .nil], [(.v (.int .i64 2)), (.v (.string ⟨#[116, 97, 103]⟩)), (.v (.int .i64 4)), (.v (.int .i64 0)), (.v (.int .i64 7)), (.v (.string ⟨#[]⟩)), (.v (.string ⟨#[]⟩)), (.v (.bool false)), (.v (.int .i64 0)), (.v (.int .u64 0)), (.v (.string ⟨#[]⟩)), .nil, .nil, .nil, .nil, .nil]] .full), .nil, .nil, .nil]] .full), .nil, (.sl [[(.v (.string ⟨#[83]⟩)), (.sl [[(.v (.string ⟨#[71, 101, 116]⟩)), (.v (.string ⟨#[77]⟩)), (.v (.string ⟨#[77]⟩)), (.v (.int .i64 1)), .nil]] .full), .nil]] .full)]), (.agg [(.v (.string ⟨#[71, 69, 84]⟩)), (.v (.string ⟨#[47, 117, 115, 101, 114, 115, 47, 123, 105, 100, 125]⟩)), (.v (.string ⟨#[83]⟩)), (.v (.string ⟨#[71, 101, 116]⟩)), (.v (.string ⟨#[]⟩))]), (.agg [(.v (.int .i64 10)), (.v (.int .u64 0)), (.v (.string ⟨#[]⟩)), .nil, .nil, (.sl [[(.v (.int .i64 1)), (.v (.int .i64 4)), (.v (.int .u64 7)), (.v (.string ⟨#[]⟩)), .nil, .nil, .nil, .nil], [(.v (.int .i64 2)), (.v (.int .i64 11)), (.v (.int .u64 0)), (.v (.string ⟨#[]⟩)), (.sl [[(.v (.int .i64 7)), (.v (.int .u64 0)), (.v (.string ⟨#[97, 32, 98]⟩)), .nil, .nil, .nil, .nil]] .no), .nil, .nil, .nil]] .no), .nil])]
def kn7 : List AV := [(.v (.int .i64 0)), (.agg [(.sl [[(.v (.string ⟨#[77]⟩)), (.sl [[(.v (.int .i64 1)), (.v (.string ⟨#[105, 100]⟩)), (.v (.int .i64 3)), (.v (.int .i64 0)), (.v (.int .i64 4)), (.v (.string ⟨#[]⟩)), (.v (.string ⟨#[]⟩)), (.v (.bool false)), (.v (.int .i64 0)), (.v (.int .u64 0)), (.v (.string ⟨#[]⟩)), .nil, .nil, .nil, .nil, .nil], [(.v (.int .i64 2)), (.v (.string ⟨#[116, 97, 103]⟩)), (.v (.int .i64 4)), (.v (.int .i64 0)), (.v (.int .i64 7)), (.v (.string ⟨#[]⟩)), (.v (.string ⟨#[]⟩)), (.v (.bool false)), (.v (.int .i64 0)), (.v (.int .u64 0)), (.v (.string ⟨#[]⟩)), .nil, .nil, .nil, .nil, .nil]] .full), .nil, .nil, .nil]] .full), .nil, (.sl [[(.v (.string ⟨#[83]⟩)), (.sl [[(.v (.string ⟨#[71, 101, 116]⟩)), (.v (.string ⟨#[77]⟩)), (.v (.string ⟨#[77]⟩)), (.v (.int .i64 1)), .nil]] .full), .nil]] .full)]), (.v (.string ⟨#[77]⟩)), (.agg [(.v (.int .i64 10)), (.v (.int .u64 0)), (.v (.string ⟨#[]⟩)), .nil, .nil, .nil, .nil])]
def kn8 : List AV := [(.agg [(.v (.int .i64 10)), (.v (.int .u64 0)), (.v (.string ⟨#[]⟩)), .nil, .nil, .nil, .nil]), (.agg [(.sl [[(.v (.string ⟨#[77]⟩)), (.sl [[(.v (.int .i64 1)), (.v (.string ⟨#[105, 100]⟩)), (.v (.int .i64 3)), (.v (.int .i64 0)), (.v (.int .i64 4)), (.v (.string ⟨#[]⟩)), (.v (.string ⟨#[]⟩)), (.v (.bool false)), (.v (.int .i64 0)), (.v (.int .u64 0)), (.v (.string ⟨#[]⟩)), .nil, .nil, .nil, .nil, .nil], [(.v (.int .i64 2)), (.v (.string ⟨#[116, 97, 103]⟩)), (.v (.int .i64 4)), (.v (.int .i64 0)), (.v (.int .i64 7)), (.v (.string ⟨#[]⟩)), (.v (.string ⟨#[]⟩)), (.v (.bool false)), (.v (.int .i64 0)), (.v (.int .u64 0)), (.v (.string ⟨#[]⟩)), .nil, .nil, .nil, .nil, .nil]] .full), .nil, .nil, .nil]] .full), .nil, (.sl [[(.v (.string ⟨#[83]⟩)), (.sl [[(.v (.string ⟨#[71, 101, 116]⟩)), (.v (.string ⟨#[77]⟩)), (.v (.string ⟨#[77]⟩)), (.v (.int .i64 1)), .nil]] .full), .nil]] .full)]), (.v (.string ⟨#[77]⟩)), (.agg [(.v (.int .i64 10)), (.v (.int .u64 0)), (.v (.string ⟨#[]⟩)), .nil, .nil, .nil, .nil])]
def kn9 : List AV := [(.tuple [(.agg [(.v (.string ⟨#[]⟩)), (.v (.string ⟨#[]⟩)), .nil, (.v (.string ⟨#[]⟩))]), (.v (.int .i64 14))]), (.agg [(.sl [[(.v (.string ⟨#[77]⟩)), (.sl [[(.v (.int .i64 1)), (.v (.string ⟨#[105, 100]⟩)), (.v (.int .i64 3)), (.v (.int .i64 0)), (.v (.int .i64 4)), (.v (.string ⟨#[]⟩)), (.v (.string ⟨#[]⟩)), (.v (.bool false)), (.v (.int .i64 0)), (.v (.int .u64 0)), (.v (.string ⟨#[]⟩)), .nil, .nil, .nil, .nil, .nil], [(.v (.int .i64 2)), (.v (.string ⟨#[116, 97, 103]⟩)), (.v (.int .i64 4)), (.v (.int .i64 0)), (.v (.int .i64 7)), (.v (.string ⟨#[]⟩)), (.v (.string ⟨#[]⟩)), (.v (.bool false)), (.v (.int .i64 0)), (.v (.int .u64 0)), (.v (.string ⟨#[]⟩)), .nil, .nil, .nil, .nil, .nil]] .full), .nil, .nil, .nil]] .full), .nil, (.sl [[(.v (.string ⟨#[83]⟩)), (.sl [[(.v (.string ⟨#[71, 101, 116]⟩)), (.v (.string ⟨#[77]⟩)), (.v (.string ⟨#[77]⟩)), (.v (.int .i64 1)), .nil]] .full), .nil]] .full)]), (.agg [(.v (.string ⟨#[71, 69, 84]⟩)), (.v (.string ⟨#[47, 117, 115, 101, 114, 115, 47, 123, 105, 100, 125]⟩)), (.v (.string ⟨#[83]⟩)), (.v (.string ⟨#[71, 101, 116]⟩)), (.v (.string ⟨#[]⟩))]), (.agg [(.v (.int .i64 10)), (.v (.int .u64 0)), (.v (.string ⟨#[]⟩)), .nil, .nil, .nil, .nil])]
def kn10 : List AV := [(.tuple [(.v (.int .i64 0)), (.sl [[(.v (.string ⟨#[105, 100]⟩)), (.v (.string ⟨#[32]⟩))]] .no), (.v (.int .i64 0))]), (.sl [[(.v (.string ⟨#[71, 69, 84]⟩)), (.v (.string ⟨#[47, 117, 115, 101, 114, 115, 47, 123, 105, 100, 125]⟩)), (.v (.string ⟨#[83]⟩)), (.v (.string ⟨#[71, 101, 116]⟩)), (.v (.string ⟨#[]⟩))]] .full), (.v (.string ⟨#[71, 69, 84]⟩)), (.v (.string ⟨#[47, 117, 115, 101, 114, 115, 47, 37, 50, 48]⟩))]
def kn11 : List AV := [(.tuple [(.v (.string ⟨#[105, 100, 58, 32, 55, 32, 116, 97, 103, 58, 32, 34, 97, 32, 98, 34]⟩)), (.v (.int .i64 0))]), (.agg [(.sl [[(.v (.string ⟨#[77]⟩)), (.sl [[(.v (.int .i64 1)), (.v (.string ⟨#[105, 100]⟩)), (.v (.string ⟨#[]⟩)), (.v (.int .i64 3)), (.v (.int .i64 0)), (.v (.int .i64 4)), (.v (.int .i64 (-1))), (.v (.int .i64 (-1)))], [(.v (.int .i64 2)), (.v (.string ⟨#[116, 97, 103]⟩)), (.v (.string ⟨#[]⟩)), (.v (.int .i64 4)), (.v (.int .i64 0)), (.v (.int .i64 7)), (.v (.int .i64 (-1))), (.v (.int .i64 (-1)))]] .no), (.v (.int .i64 0))]] .no), .nil]), (.v (.string ⟨#[77]⟩)), (.agg [(.v (.int .i64 10)), (.v (.int .u64 0)), (.v (.string ⟨#[]⟩)), .nil, .nil, (.sl [[(.v (.int .i64 1)), (.v (.int .i64 4)), (.v (.int .u64 7)), (.v (.string ⟨#[]⟩)), .nil, .nil, .nil, .nil], [(.v (.int .i64 2)), (.v (.int .i64 11)), (.v (.int .u64 0)), (.v (.string ⟨#[]⟩)), (.sl [[(.v (.int .i64 7)), (.v (.int .u64 0)), (.v (.string ⟨#[97, 32, 98]⟩)), .nil, .nil, .nil, .nil]] .no), .nil, .nil, .nil]] .no), .nil])]
def kn12 : List AV := [(.agg [(.v (.int .i64 200)), (.v (.string ⟨#[105, 100, 58, 32, 55, 32, 116, 97, 103, 58, 32, 34, 97, 32, 98, 34]⟩))]), (.agg [(.sl [[(.v (.string ⟨#[77]⟩)), (.sl [[(.v (.int .i64 1)), (.v (.string ⟨#[105, 100]⟩)), (.v (.int .i64 3)), (.v (.int .i64 0)), (.v (.int .i64 4)), (.v (.string ⟨#[]⟩)), (.v (.string ⟨#[]⟩)), (.v (.bool false)), (.v (.int .i64 0)), (.v (.int .u64 0)), (.v (.string ⟨#[]⟩)), .nil, .nil, .nil, .nil, .nil], [(.v (.int .i64 2)), (.v (.string ⟨#[116, 97, 103]⟩)), (.v (.int .i64 4)), (.v (.int .i64 0)), (.v (.int .i64 7)), (.v (.string ⟨#[]⟩)), (.v (.string ⟨#[]⟩)), (.v (.bool false)), (.v (.int .i64 0)), (.v (.int .u64 0)), (.v (.string ⟨#[]⟩)), .nil, .nil, .nil, .nil, .nil]] .full), .nil, .nil, .nil]] .full), .nil, (.sl [[(.v (.string ⟨#[83]⟩)), (.sl [[(.v (.string ⟨#[71, 101, 116]⟩)), (.v (.string ⟨#[77]⟩)), (.v (.string ⟨#[77]⟩)), (.v (.int .i64 1)), .nil]] .full), .nil]] .full)]), (.v (.string ⟨#[83, 47, 71, 101, 116]⟩)), (.agg [(.v (.int .i64 0)), (.v (.string ⟨#[]⟩))]), (.agg [(.v (.int .i64 10)), (.v (.int .u64 0)), (.v (.string ⟨#[]⟩)), .nil, .nil, (.sl [[(.v (.int .i64 1)), (.v (.int .i64 4)), (.v (.int .u64 7)), (.v (.string ⟨#[]⟩)), .nil, .nil, .nil, .nil], [(.v (.int .i64 2)), (.v (.int .i64 11)), (.v (.int .u64 0)), (.v (.string ⟨#[]⟩)), (.sl [[(.v (.int .i64 7)), (.v (.int .u64 0)), (.v (.string ⟨#[97, 32, 98]⟩)), .nil, .nil, .nil, .nil]] .no), .nil, .nil, .nil]] .no), .nil])]
def kn13 : List AV := [(.v (.int .i64 0)), (.agg [(.sl [[(.v (.string ⟨#[77]⟩)), (.sl [[(.v (.int .i64 1)), (.v (.string ⟨#[105, 100]⟩)), (.v (.int .i64 3)), (.v (.int .i64 0)), (.v (.int .i64 4)), (.v (.string ⟨#[]⟩)), (.v (.string ⟨#[]⟩)), (.v (.bool false)), (.v (.int .i64 0)), (.v (.int .u64 0)), (.v (.string ⟨#[]⟩)), .nil, .nil, .nil, .nil, .nil], [(.v (.int .i64 2)), (.v (.string ⟨#[116, 97, 103]⟩)), (.v (.int .i64 4)), (.v (.int .i64 0)), (.v (.int .i64 7)), (.v (.string ⟨#[]⟩)), (.v (.string ⟨#[]⟩)), (.v (.bool false)), (.v (.int .i64 0)), (.v (.int .u64 0)), (.v (.string ⟨#[]⟩)), .nil, .nil, .nil, .nil, .nil]] .full), .nil, .nil, .nil]] .full), .nil, (.sl [[(.v (.string ⟨#[83]⟩)), (.sl [[(.v (.string ⟨#[71, 101, 116]⟩)), (.v (.string ⟨#[77]⟩)), (.v (.string ⟨#[77]⟩)), (.v (.int .i64 1)), .nil]] .full), .nil]] .full)]), (.sl [[(.v (.string ⟨#[71, 69, 84]⟩)), (.v (.string ⟨#[47, 117, 115, 101, 114, 115, 47, 123, 105, 100, 125]⟩)), (.v (.string ⟨#[83]⟩)), (.v (.string ⟨#[71, 101, 116]⟩)), (.v (.string ⟨#[]⟩))]] .full)]
def kn14 : List AV := [(.v (.int .i64 9)), (.agg [(.sl [[(.v (.string ⟨#[77]⟩)), (.sl [[(.v (.int .i64 1)), (.v (.string ⟨#[105, 100]⟩)), (.v (.int .i64 3)), (.v (.int .i64 0)), (.v (.int .i64 4)), (.v (.string ⟨#[]⟩)), (.v (.string ⟨#[]⟩)), (.v (.bool false)), (.v (.int .i64 0)), (.v (.int .u64 0)), (.v (.string ⟨#[]⟩)), .nil, .nil, .nil, .nil, .nil], [(.v (.int .i64 2)), (.v (.string ⟨#[116, 97, 103]⟩)), (.v (.int .i64 4)), (.v (.int .i64 0)), (.v (.int .i64 7)), (.v (.string ⟨#[]⟩)), (.v (.string ⟨#[]⟩)), (.v (.bool false)), (.v (.int .i64 0)), (.v (.int .u64 0)), (.v (.string ⟨#[]⟩)), .nil, .nil, .nil, .nil, .nil]] .full), .nil, .nil, .nil]] .full), .nil, (.sl [[(.v (.string ⟨#[83]⟩)), (.sl [[(.v (.string ⟨#[71, 101, 116]⟩)), (.v (.string ⟨#[77]⟩)), (.v (.string ⟨#[77]⟩)), (.v (.int .i64 1)), .nil]] .full), .nil]] .full)]), (.sl [[(.v (.string ⟨#[71, 69, 84]⟩)), (.v (.string ⟨#[47, 117, 115, 101, 114, 115, 47, 123, 105, 100, 125]⟩)), (.v (.string ⟨#[83]⟩)), (.v (.string ⟨#[71, 101, 116]⟩)), (.v (.string ⟨#[]⟩))], [(.v (.string ⟨#[71, 69, 84]⟩)), (.v (.string ⟨#[47, 117, 115, 101, 114, 115, 47, 123, 105, 100, 125]⟩)), (.v (.string ⟨#[83]⟩)), (.v (.string ⟨#[71, 101, 116]⟩)), (.v (.string ⟨#[]⟩))]] .full)]
def tbk0 : Tbl := tbl
def tbk1 : Tbl := (12, 0, knC kn0, []) :: tbl
def tbk2 : Tbl := (12, 0, knC kn0, []) :: (42, 0, knC kn1, []) :: tbl
def tbk3 : Tbl := (12, 0, knC kn0, []) :: (42, 0, knC kn1, []) :: (33, 0, knC kn2, []) :: tbl
def tbk4 : Tbl := (12, 0, knC kn0, []) :: (42, 0, knC kn1, []) :: (33, 0, knC kn2, []) :: (37, 0, knC kn3, []) :: tbl
def tbk5 : Tbl := (12, 0, knC kn0, []) :: (42, 0, knC kn1, []) :: (33, 0, knC kn2, []) :: (37, 0, knC kn3, []) :: (38, 0, knC kn4, []) :: tbl
def tbk6 : Tbl := (12, 0, knC kn0, []) :: (42, 0, knC kn1, []) :: (33, 0, knC kn2, []) :: (37, 0, knC kn3, []) :: (38, 0, knC kn4, []) :: (16, 0, knC kn5, []) :: tbl
def tbk7 : Tbl := (12, 0, knC kn0, []) :: (42, 0, knC kn1, []) :: (33, 0, knC kn2, []) :: (37, 0, knC kn3, []) :: (38, 0, knC kn4, []) :: (16, 0, knC kn5, []) :: (17, 0, knC kn6, []) :: tbl
def tbk8 : Tbl := (12, 0, knC kn0, []) :: (42, 0, knC kn1, []) :: (33, 0, knC kn2, []) :: (37, 0, knC kn3, []) :: (38, 0, knC kn4, []) :: (16, 0, knC kn5, []) :: (17, 0, knC kn6, []) :: (37, 0, knC kn7, []) :: tbl
def tbk9 : Tbl := (12, 0, knC kn0, []) :: (42, 0, knC kn1, []) :: (33, 0, knC kn2, []) :: (37, 0, knC kn3, []) :: (38, 0, knC kn4, []) :: (16, 0, knC kn5, []) :: (17, 0, knC kn6, []) :: (37, 0, knC kn7, []) :: (38, 0, knC kn8, []) :: tbl
def tbk10 : Tbl := (12, 0, knC kn0, []) :: (42, 0, knC kn1, []) :: (33, 0, knC kn2, []) :: (37, 0, knC kn3, []) :: (38, 0, knC kn4, []) :: (16, 0, knC kn5, []) :: (17, 0, knC kn6, []) :: (37, 0, knC kn7, []) :: (38, 0, knC kn8, []) :: (17, 0, knC kn9, []) :: tbl
def tbk11 : Tbl := (12, 0, knC kn0, []) :: (42, 0, knC kn1, []) :: (33, 0, knC kn2, []) :: (37, 0, knC kn3, []) :: (38, 0, knC kn4, []) :: (16, 0, knC kn5, []) :: (17, 0, knC kn6, []) :: (37, 0, knC kn7, []) :: (38, 0, knC kn8, []) :: (17, 0, knC kn9, []) :: (12, 0, knC kn10, []) :: tbl
def tbk12 : Tbl := (12, 0, knC kn0, []) :: (42, 0, knC kn1, []) :: (33, 0, knC kn2, []) :: (37, 0, knC kn3, []) :: (38, 0, knC kn4, []) :: (16, 0, knC kn5, []) :: (17, 0, knC kn6, []) :: (37, 0, knC kn7, []) :: (38, 0, knC kn8, []) :: (17, 0, knC kn9, []) :: (12, 0, knC kn10, []) :: (43, 0, knC kn11, []) :: tbl
def tbk13 : Tbl := (12, 0, knC kn0, []) :: (42, 0, knC kn1, []) :: (33, 0, knC kn2, []) :: (37, 0, knC kn3, []) :: (38, 0, knC kn4, []) :: (16, 0, knC kn5, []) :: (17, 0, knC kn6, []) :: (37, 0, knC kn7, []) :: (38, 0, knC kn8, []) :: (17, 0, knC kn9, []) :: (12, 0, knC kn10, []) :: (43, 0, knC kn11, []) :: (18, 0, knC kn12, []) :: tbl
def tbk14 : Tbl := (12, 0, knC kn0, []) :: (42, 0, knC kn1, []) :: (33, 0, knC kn2, []) :: (37, 0, knC kn3, []) :: (38, 0, knC kn4, []) :: (16, 0, knC kn5, []) :: (17, 0, knC kn6, []) :: (37, 0, knC kn7, []) :: (38, 0, knC kn8, []) :: (17, 0, knC kn9, []) :: (12, 0, knC kn10, []) :: (43, 0, knC kn11, []) :: (18, 0, knC kn12, []) :: (19, 0, knC kn13, []) :: tbl
def tbk15 : Tbl := (12, 0, knC kn0, []) :: (42, 0, knC kn1, []) :: (33, 0, knC kn2, []) :: (37, 0, knC kn3, []) :: (38, 0, knC kn4, []) :: (16, 0, knC kn5, []) :: (17, 0, knC kn6, []) :: (37, 0, knC kn7, []) :: (38, 0, knC kn8, []) :: (17, 0, knC kn9, []) :: (12, 0, knC kn10, []) :: (43, 0, knC kn11, []) :: (18, 0, knC kn12, []) :: (19, 0, knC kn13, []) :: (19, 0, knC kn14, []) :: tbl
theorem kn0_run : (fnAt tbk0 mode0 false (evC tbk0 mode0 100000) 12 kn0.tail ⟨[], [], []⟩).map (fun r => outV r.2 r.1) = some (kn0.headD .nil) := by kernel_rfl
theorem kn4_run : (fnAt tbk4 mode0 false (evC tbk4 mode0 100000) 38 kn4.tail ⟨[], [], []⟩).map (fun r => outV r.2 r.1) = some (kn4.headD .nil) := by kernel_rfl
theorem kn8_run : (fnAt tbk8 mode0 false (evC tbk8 mode0 100000) 38 kn8.tail ⟨[], [], []⟩).map (fun r => outV r.2 r.1) = some (kn8.headD .nil) := by kernel_rfl
theorem kn12_run : (fnAt tbk12 mode0 false (evC tbk12 mode0 100000) 18 kn12.tail ⟨[], [], []⟩).map (fun r => outV r.2 r.1) = some (kn12.headD .nil) := by kernel_rfl
theorem kn1_run : (fnAt tbk1 mode0 false (evC tbk1 mode0 100000) 42 kn1.tail ⟨[], [], []⟩).map (fun r => outV r.2 r.1) = some (kn1.headD .nil) := by kernel_rfl
theorem kn5_run : (fnAt tbk5 mode0 false (evC tbk5 mode0 100000) 16 kn5.tail ⟨[], [], []⟩).map (fun r => outV r.2 r.1) = some (kn5.headD .nil) := by kernel_rfl
theorem kn9_run : (fnAt tbk9 mode0 false (evC tbk9 mode0 100000) 17 kn9.tail ⟨[], [], []⟩).map (fun r => outV r.2 r.1) = some (kn9.headD .nil) := by kernel_rfl
theorem kn13_run : (fnAt tbk13 mode0 false (evC tbk13 mode0 100000) 19 kn13.tail ⟨[], [], []⟩).map (fun r => outV r.2 r.1) = some (kn13.headD .nil) := by kernel_rfl
theorem kn2_run : (fnAt tbk2 mode0 false (evC tbk2 mode0 100000) 33 kn2.tail ⟨[], [], []⟩).map (fun r => outV r.2 r.1) = some (kn2.headD .nil) := by kernel_rfl
theorem kn6_run : (fnAt tbk6 mode0 false (evC tbk6 mode0 100000) 17 kn6.tail ⟨[], [], []⟩).map (fun r => outV r.2 r.1) = some (kn6.headD .nil) := by kernel_rfl
theorem kn10_run : (fnAt tbk10 mode0 false (evC tbk10 mode0 100000) 12 kn10.tail ⟨[], [], []⟩).map (fun r => outV r.2 r.1) = some (kn10.headD .nil) := by kernel_rfl
theorem kn14_run : (fnAt tbk14 mode0 false (evC tbk14 mode0 100000) 19 kn14.tail ⟨[], [], []⟩).map (fun r => outV r.2 r.1) = some (kn14.headD .nil) := by kernel_rfl
theorem kn3_run : (fnAt tbk3 mode0 false (evC tbk3 mode0 100000) 37 kn3.tail ⟨[], [], []⟩).map (fun r => outV r.2 r.1) = some (kn3.headD .nil) := by kernel_rfl
theorem kn7_run : (fnAt tbk7 mode0 false (evC tbk7 mode0 100000) 37 kn7.tail ⟨[], [], []⟩).map (fun r => outV r.2 r.1) = some (kn7.headD .nil) := by kernel_rfl
theorem kn11_run : (fnAt tbk11 mode0 false (evC tbk11 mode0 100000) 43 kn11.tail ⟨[], [], []⟩).map (fun r => outV r.2 r.1) = some (kn11.headD .nil) := by kernel_rfl
theorem tok_kn {P : Program} {T : Tbl} {g : Nat} {l : List AV} (h : KnOK P g l) (t : TblOK P T) : TblOK P ((g, 0, knC l, []) :: T) := by
 intro f y hf
 rcases List.mem_cons.1 hf with e | hf
 ·cases e; exact h
 ·exact t f y hf
theorem tok0 : TblOK Tryz.prog tbk0 := tbl_ok
theorem kn0_ok : KnOK Tryz.prog 12 kn0 := ⟨by kernel_rfl, run_closed tok0 100000 kn0_run (by kernel_rfl)⟩
theorem tok1 : TblOK Tryz.prog tbk1 := tok_kn kn0_ok <| tbl_ok
theorem kn1_ok : KnOK Tryz.prog 42 kn1 := ⟨by kernel_rfl, run_closed tok1 100000 kn1_run (by kernel_rfl)⟩
theorem tok2 : TblOK Tryz.prog tbk2 := tok_kn kn0_ok <| tok_kn kn1_ok <| tbl_ok
theorem kn2_ok : KnOK Tryz.prog 33 kn2 := ⟨by kernel_rfl, run_closed tok2 100000 kn2_run (by kernel_rfl)⟩
theorem tok3 : TblOK Tryz.prog tbk3 := tok_kn kn0_ok <| tok_kn kn1_ok <| tok_kn kn2_ok <| tbl_ok
theorem kn3_ok : KnOK Tryz.prog 37 kn3 := ⟨by kernel_rfl, run_closed tok3 100000 kn3_run (by kernel_rfl)⟩
theorem tok4 : TblOK Tryz.prog tbk4 := tok_kn kn0_ok <| tok_kn kn1_ok <| tok_kn kn2_ok <| tok_kn kn3_ok <| tbl_ok
theorem kn4_ok : KnOK Tryz.prog 38 kn4 := ⟨by kernel_rfl, run_closed tok4 100000 kn4_run (by kernel_rfl)⟩
theorem tok5 : TblOK Tryz.prog tbk5 := tok_kn kn0_ok <| tok_kn kn1_ok <| tok_kn kn2_ok <| tok_kn kn3_ok <| tok_kn kn4_ok <| tbl_ok
theorem kn5_ok : KnOK Tryz.prog 16 kn5 := ⟨by kernel_rfl, run_closed tok5 100000 kn5_run (by kernel_rfl)⟩
theorem tok6 : TblOK Tryz.prog tbk6 := tok_kn kn0_ok <| tok_kn kn1_ok <| tok_kn kn2_ok <| tok_kn kn3_ok <| tok_kn kn4_ok <| tok_kn kn5_ok <| tbl_ok
theorem kn6_ok : KnOK Tryz.prog 17 kn6 := ⟨by kernel_rfl, run_closed tok6 100000 kn6_run (by kernel_rfl)⟩
theorem tok7 : TblOK Tryz.prog tbk7 := tok_kn kn0_ok <| tok_kn kn1_ok <| tok_kn kn2_ok <| tok_kn kn3_ok <| tok_kn kn4_ok <| tok_kn kn5_ok <| tok_kn kn6_ok <| tbl_ok
theorem kn7_ok : KnOK Tryz.prog 37 kn7 := ⟨by kernel_rfl, run_closed tok7 100000 kn7_run (by kernel_rfl)⟩
theorem tok8 : TblOK Tryz.prog tbk8 := tok_kn kn0_ok <| tok_kn kn1_ok <| tok_kn kn2_ok <| tok_kn kn3_ok <| tok_kn kn4_ok <| tok_kn kn5_ok <| tok_kn kn6_ok <| tok_kn kn7_ok <| tbl_ok
theorem kn8_ok : KnOK Tryz.prog 38 kn8 := ⟨by kernel_rfl, run_closed tok8 100000 kn8_run (by kernel_rfl)⟩
theorem tok9 : TblOK Tryz.prog tbk9 := tok_kn kn0_ok <| tok_kn kn1_ok <| tok_kn kn2_ok <| tok_kn kn3_ok <| tok_kn kn4_ok <| tok_kn kn5_ok <| tok_kn kn6_ok <| tok_kn kn7_ok <| tok_kn kn8_ok <| tbl_ok
theorem kn9_ok : KnOK Tryz.prog 17 kn9 := ⟨by kernel_rfl, run_closed tok9 100000 kn9_run (by kernel_rfl)⟩
theorem tok10 : TblOK Tryz.prog tbk10 := tok_kn kn0_ok <| tok_kn kn1_ok <| tok_kn kn2_ok <| tok_kn kn3_ok <| tok_kn kn4_ok <| tok_kn kn5_ok <| tok_kn kn6_ok <| tok_kn kn7_ok <| tok_kn kn8_ok <| tok_kn kn9_ok <| tbl_ok
theorem kn10_ok : KnOK Tryz.prog 12 kn10 := ⟨by kernel_rfl, run_closed tok10 100000 kn10_run (by kernel_rfl)⟩
theorem tok11 : TblOK Tryz.prog tbk11 := tok_kn kn0_ok <| tok_kn kn1_ok <| tok_kn kn2_ok <| tok_kn kn3_ok <| tok_kn kn4_ok <| tok_kn kn5_ok <| tok_kn kn6_ok <| tok_kn kn7_ok <| tok_kn kn8_ok <| tok_kn kn9_ok <| tok_kn kn10_ok <| tbl_ok
theorem kn11_ok : KnOK Tryz.prog 43 kn11 := ⟨by kernel_rfl, run_closed tok11 100000 kn11_run (by kernel_rfl)⟩
theorem tok12 : TblOK Tryz.prog tbk12 := tok_kn kn0_ok <| tok_kn kn1_ok <| tok_kn kn2_ok <| tok_kn kn3_ok <| tok_kn kn4_ok <| tok_kn kn5_ok <| tok_kn kn6_ok <| tok_kn kn7_ok <| tok_kn kn8_ok <| tok_kn kn9_ok <| tok_kn kn10_ok <| tok_kn kn11_ok <| tbl_ok
theorem kn12_ok : KnOK Tryz.prog 18 kn12 := ⟨by kernel_rfl, run_closed tok12 100000 kn12_run (by kernel_rfl)⟩
theorem tok13 : TblOK Tryz.prog tbk13 := tok_kn kn0_ok <| tok_kn kn1_ok <| tok_kn kn2_ok <| tok_kn kn3_ok <| tok_kn kn4_ok <| tok_kn kn5_ok <| tok_kn kn6_ok <| tok_kn kn7_ok <| tok_kn kn8_ok <| tok_kn kn9_ok <| tok_kn kn10_ok <| tok_kn kn11_ok <| tok_kn kn12_ok <| tbl_ok
theorem kn13_ok : KnOK Tryz.prog 19 kn13 := ⟨by kernel_rfl, run_closed tok13 100000 kn13_run (by kernel_rfl)⟩
theorem tok14 : TblOK Tryz.prog tbk14 := tok_kn kn0_ok <| tok_kn kn1_ok <| tok_kn kn2_ok <| tok_kn kn3_ok <| tok_kn kn4_ok <| tok_kn kn5_ok <| tok_kn kn6_ok <| tok_kn kn7_ok <| tok_kn kn8_ok <| tok_kn kn9_ok <| tok_kn kn10_ok <| tok_kn kn11_ok <| tok_kn kn12_ok <| tok_kn kn13_ok <| tbl_ok
theorem kn14_ok : KnOK Tryz.prog 19 kn14 := ⟨by kernel_rfl, run_closed tok14 100000 kn14_run (by kernel_rfl)⟩
theorem tok15 : TblOK Tryz.prog tbk15 := tok_kn kn0_ok <| tok_kn kn1_ok <| tok_kn kn2_ok <| tok_kn kn3_ok <| tok_kn kn4_ok <| tok_kn kn5_ok <| tok_kn kn6_ok <| tok_kn kn7_ok <| tok_kn kn8_ok <| tok_kn kn9_ok <| tok_kn kn10_ok <| tok_kn kn11_ok <| tok_kn kn12_ok <| tok_kn kn13_ok <| tok_kn kn14_ok <| tbl_ok
def tblK : Tbl := tbk15
theorem tblK_ok : TblOK Tryz.prog tblK := tok15
theorem awake_run : (fnAt tblK mode0 false (evC tblK mode0 100000) 6 [] ⟨[], [], gl0⟩).map (fun r => outV r.2 r.1) = some (.v (.bool true)) := by kernel_rfl
theorem awake_pure : PureC Tryz.prog gl0 6 [] fun b => b = .v (.bool true) := run_closed tblK_ok 100000 awake_run rfl
theorem rel_v {σ : Sg} {x v : Value} (h : Rel σ (.v x) v) : v = x := by
 cases h; rfl
theorem one_arg {σ : Sg} {x : Value} {cargs : Array Value} (hr : Rels σ [.v x] cargs.toList) : cargs = #[x] := by
 obtain ⟨hl, hx⟩ := hr
 obtain ⟨x0, h0, r0⟩ := hx 0 _ rfl
 have e0 := rel_v r0
 subst e0
 apply Array.ext'
 match hc : cargs.toList, hl, h0 with
 | [a], _, h0 => simp at h0; simp [h0]
def bytesL (l : List UInt8) : ByteArray := ⟨l.toArray⟩
theorem bytesL_toList (l : List UInt8) : (bytesL l).data.toList = l := rfl
theorem bytesL_data (s : ByteArray) : bytesL s.data.toList = s := rfl
theorem bytesL_size (l : List UInt8) : (bytesL l).size = l.length := by simp [bytesL, ByteArray.size]
def escB (s : ByteArray) : ByteArray := bytesL (escL s.data.toList)
def unescB (s : ByteArray) : ByteArray × Int := (bytesL (unescL s.data.toList).1, (unescL s.data.toList).2)
theorem gesc (s : ByteArray) (hs : s.size <= 1048576) : gateway_Escape s (escB s) := by
 refine ⟨⟨_, Tryz.func9, by kernel_rfl, by kernel_rfl⟩, fun w outer cargs ho hg hr => ?_⟩
 rw [one_arg hr]
 exact (esc_c s hs w).mono fun e w' ⟨he, hb⟩ => ⟨.v (.string (escB s)), _, he, Past.of_below hb, .v _ rfl, rfl⟩
theorem gunesc (s : ByteArray) (hs : s.size <= 1048576) : gateway_Unescape s (unescB s) := by
 refine ⟨⟨_, Tryz.func7, by kernel_rfl, by kernel_rfl⟩, fun w outer cargs ho hg hr => ?_⟩
 rw [one_arg hr]
 refine (unesc_c s hs w).mono fun e w' ⟨he, hb⟩ => ⟨.tuple [.v (.string (unescB s).1), .v (.int .i64 (unescB s).2)], _, he, Past.of_below hb, ?_, rfl⟩
 refine Rel.tuple_mk rfl fun i av hi => ?_
 match i, hi with
 | 0, hi => simp at hi; subst hi; exact ⟨_, rfl, .v _ rfl⟩
 | 1, hi => simp at hi; subst hi; exact ⟨_, rfl, .v _ rfl⟩
theorem globs_tail {w : World} {outer : Nat -> Nat -> Prop} {x : Nat × List AV} {gl : List (Nat × List AV)} (h : Globs w outer (x :: gl)) : Globs w outer gl := fun g cells hg => h g cells (by simp [hg])
theorem awake_is (mg : Int) : law55_awake mg true :=
 ⟨awake_pure.1, fun w outer cargs ho hg hr => (awake_pure.2 w outer cargs ho (globs_tail hg) hr).mono fun e w' ⟨av, x, h1, h2, h3, h4⟩ => ⟨av, x, h1, h2, h3, by rw [h4]; rfl⟩⟩
def Sz (n : Nat) : Prop := n <= 140737488351232
section
variable {P : Program} {n : Nat} {t : TypeId} {avs : List AV}
theorem ty_str (hu : P.underlying t = some .string) (h : Ty P n t avs) : ∃ s : ByteArray, avs = [.v (.string s)] /\ Sz s.size := by
 cases n with
 | zero => exact absurd h (by unfold Ty; exact id)
 | succ m => unfold Ty at h; rw [hu] at h; exact h
end
section
variable {n : Nat} {av : AV}
theorem ar_s (h : TyV Tryz.prog n 9 av) : ∃ x : ByteArray, av = .v (.string x) /\ Sz x.size := by
 have hu : Tryz.prog.underlying 9 = some .string := by kernel_rfl
 unfold TyV at h; rw [hu] at h
 obtain ⟨x, hx, k⟩ := ty_str hu h
 exact ⟨x, by simpa using hx, k⟩
end
theorem strs_of_array {P : Program} {w : World} {fuel : Nat} {t e : TypeId} {n : Nat} {cs : List Value} {ss : List (List UInt8)} {p : List MemPlace} (ht : P.underlying t = some (.array n e)) (he : P.underlying e = some .string) (hc : P.cellsOf e = 1)
  (h : DataW.trod (fun _ => ()) P w 0 (fun _ => true) false fuel t cs = some (.agg (ss.map fun s => .lit (.string s)), p)) (i : Nat) (hi : i < n) (s : List UInt8) (hs : ss[i]? = some s) : cs[i]? = some (.string ⟨s.toArray⟩) := by
 obtain ⟨fuel', d, q, hd, h1⟩ := Lib.array_elem ht h i hi
 simp only [List.getElem?_map, hs, Option.map_some, Option.some.injEq] at hd
 subst hd
 rw [hc] at h1
 obtain ⟨x, h2, h3, _⟩ := DataW.trod_string he h1
 have h4 : x.data.toList = s := by
  have := congrArg Prod.fst h3
  simpa using this.symm
 have h5 := congrArg (·[0]?) h2
 simp only [List.getElem?_take, List.getElem?_drop] at h5
 subst h4
 simpa using h5
def namesL : List (List UInt8) := [[111, 107], [99, 97, 110, 99, 101, 108, 108, 101, 100], [105, 110, 118, 97, 108, 105, 100], [100, 101, 97, 100, 108, 105, 110, 101], [110, 111, 116, 95, 102, 111, 117, 110, 100], [101, 120, 105, 115, 116, 115], [100, 101, 110, 105, 101, 100], [101, 120, 104, 97, 117, 115, 116, 101, 100], [102, 97, 105, 108, 101, 100], [97, 98, 111, 114, 116, 101, 100], [117, 110, 105, 109, 112, 108, 101, 109, 101, 110, 116, 101, 100], [105, 110, 116, 101, 114, 110, 97, 108], [117, 110, 97, 118, 97, 105, 108, 97, 98, 108, 101], [100, 97, 116, 97, 95, 108, 111, 115, 115]]
theorem elt_mk {w : World} {g : Nat} {cells : List AV} (xs : Nat -> Value) (h : ∀ (i : Nat) (av : AV), cells[i]? = some av -> w.cell? ⟨g, i, none⟩ = some (xs i) /\ av = .v (xs i) /\ atom (xs i) = true) : Rel (bare w nowhere) (.elt cells 0) (.pointer (some ⟨g, 0, none⟩)) := by
 refine .elt cells 0 g 0 xs (fun i av hi => ?_) (fun i av hi => ?_)
 ·obtain ⟨h1, rfl, h3⟩ := h i av hi
  exact ⟨by rw [Nat.zero_add]; exact h1, fun q => q.elim (fun x => x.elim) (fun x => bare_own _ _ _ _ x), rfl⟩
 ·obtain ⟨h1, rfl, h3⟩ := h i av hi
  exact .v _ h3
theorem globs_of {w : World} {m : Int} (hm : w.cell? ⟨2, 0, none⟩ = some (.int .i64 m)) (hn : Lib.VarReads Tryz.prog w "wireschema/status.names" (.agg (namesL.map fun s => .lit (.string s)))) : Globs w nowhere (GLm m) := by
 intro g cells hg
 rcases List.mem_cons.1 hg with e | hg
 ·cases e
  refine elt_mk (fun _ => .int .i64 m) fun i av hi => ?_
  cases i with
  | zero => simp at hi; subst hi; exact ⟨hm, rfl, rfl⟩
  | succ i => simp at hi
 ·rcases List.mem_cons.1 hg with e | hg
  ·have e2 : cells = namesL.map fun s => .v (.string ⟨s.toArray⟩) := by cases e; rfl
   obtain rfl : g = 1 := by cases e; rfl
   subst e2
   obtain ⟨g, t, cs, fuel, p, h1, h2, h3, h4⟩ := hn
   have g1 : Tryz.prog.globalNamed "wireschema/status.names" = some 1 := by kernel_rfl
   obtain rfl := Option.some.inj (g1.symm.trans h1)
   have g2 : (Tryz.prog.globals[1]?).map (·.type) = some 243 := by kernel_rfl
   obtain rfl := Option.some.inj (g2.symm.trans h2)
   refine elt_mk (fun i => .string ⟨(namesL.getD i []).toArray⟩) fun i av hi => ?_
   rw [List.getElem?_map] at hi
   obtain ⟨s, hs, rfl⟩ := Option.map_eq_some_iff.1 hi
   have hd : namesL.getD i [] = s := by rw [List.getD_eq_getElem?_getD, hs]; rfl
   have hlt : i < 14 := by
    have := (List.getElem?_eq_some_iff.1 hs).1
    exact this
   have := strs_of_array (t := 243) (e := 9) (n := 14) (by kernel_rfl) (by kernel_rfl) (by kernel_rfl) h4 i hlt s hs
   refine ⟨?_, by rw [hd], rfl⟩
   rw [World.var?_cell g1 h3 i, ← Array.getElem?_toList, hd]
   exact this
  ·cases hg
theorem calls_true_gl {P : Program} {f : FuncId} {args : List AV} {cargs : Array Value} {W : World} {gl : List (Nat × List AV)} (hg : Globs W nowhere gl) (hf : PureN P gl f args (.v (.bool true))) (hr : Rels (bare W nowhere) args cargs.toList) :
  Calls P f cargs W fun e W' => e = .returned (.bool true) /\ Below W.heap.size W W' := by
 refine (hf.2 W nowhere cargs (fun b o h => h.elim) hg hr).mono fun e W' ⟨av, x, he, hp, hrel, hav⟩ => ?_
 rw [nz_true hav] at hrel
 cases hrel with
 | v _ _ => exact ⟨he, hp.below⟩
theorem rplain_is (c : Int) : ref55_plain c (plainI c) := ref55_plain_step _ _ rfl
theorem ba_ext {a b : ByteArray} (h : a.data.toList = b.data.toList) : a = b := by
 cases a; cases b
 congr 1
 exact Array.toList_inj.1 h
theorem bytesL_app (a b : List UInt8) : bytesL a ++ bytesL b = bytesL (a ++ b) := ba_ext (by
 rw [ByteArray.data_append, Array.toList_append]; rfl)
theorem byteAt_at (s : ByteArray) (p : Nat) (h : p < s.size) : byteAt s p = (s[p].toNat : Int) := by
 unfold byteAt
 have h' : p < s.data.toList.length := by simpa using h
 rw [List.getD_eq_getElem?_getD, List.getElem?_eq_getElem h']
 rfl
theorem cut_one (s : ByteArray) (p : Nat) (h : p < s.size) : s.extract p (p + 1) = bytesL [s[p]] := ba_ext (by
 rw [Lib.extract_data, drop_at' s p h, Nat.add_sub_cancel_left]; rfl)
theorem dig_cut (a : Nat) (h : a < 16) : (⟨#[48, 49, 50, 51, 52, 53, 54, 55, 56, 57, 65, 66, 67, 68, 69, 70]⟩ : ByteArray).extract a (a + 1) = bytesL [hexU a] := by
 have : ∀ a : Fin 16, (⟨#[48, 49, 50, 51, 52, 53, 54, 55, 56, 57, 65, 66, 67, 68, 69, 70]⟩ : ByteArray).extract a.val (a.val + 1) = bytesL [hexU a.val] := by decide +kernel
 exact this ⟨a, h⟩
theorem wrap8 {n : Int} (h : 0 <= n /\ n <= 255) : IntKind.u8.wrap n = n := by simp [IntKind.wrap, IntKind.signed, IntKind.bits]; omega
theorem wI_id {n : Int} (h : -9223372036854775808 <= n /\ n <= 9223372036854775807) : wI n = n := wrapI h
theorem resc_j (s : ByteArray) (hs : s.size <= 1048576) : ∀ (k p : Nat) (acc : List UInt8), p + k = s.size -> acc.length <= 3 * p -> ref55_Escape_j2 p (bytesL acc) s (bytesL (acc ++ escL (s.data.toList.drop p)))
 | 0, p, acc, hk, ha => by
  refine ref55_Escape_j2_step _ _ _ _ ⟨fun h => ?_, fun h => ?_⟩
  ·simp only [decide_eq_true_eq] at h; omega
  ·rw [List.drop_eq_nil_of_le (by simp; show s.size <= p; omega)]; simp [escL]
 | k + 1, p, acc, hk, ha => by
  have hp : p < s.size := by omega
  have hc := s[p].toNat_lt
  refine ref55_Escape_j2_step _ _ _ _ ⟨fun h => ⟨⟨by omega, by omega⟩, _, rplain_is _, ?_⟩, fun h => by simp only [decide_eq_false_iff_not] at h; omega⟩
  simp only [Int.toNat_natCast]
  rw [wI_id (by omega), show ((p : Int) + 1).toNat = p + 1 by omega, byteAt_at s p hp, cut_one s p hp, drop_at' s p hp, escL_cons]
  have hb : ((p : Int) + 1) = ((p + 1 : Nat) : Int) := by omega
  refine ⟨fun h => ⟨by omega, ?_⟩, fun h => ?_⟩
  ·rw [bytesL_size, bytesL_size, bytesL_app, hb]
   refine ⟨by simp; omega, ?_⟩
   have h1 : escU s[p] = [s[p]] := by unfold escU; rw [if_pos (show plainU s[p] = true from h)]
   rw [h1, ← List.append_assoc]
   exact resc_j s hs k (p + 1) (acc ++ [s[p]]) (by omega) (by simp; omega)
  ·have h1 : escU s[p] = [37, hexU (s[p].toNat / 16), hexU (s[p].toNat % 16)] := by
    unfold escU
    rw [if_neg (by rw [show plainU s[p] = false from h]; simp)]
   have e1 : (s[p].toNat : Int).tdiv 16 = ((s[p].toNat / 16 : Nat) : Int) := by
    rw [Int.tdiv_eq_ediv_of_nonneg (by omega)]; omega
   have e2 : (s[p].toNat : Int).tmod 16 = ((s[p].toNat % 16 : Nat) : Int) := by
    rw [Int.tmod_eq_emod_of_nonneg (by omega)]; omega
   rw [e1, e2, wrap8 (by omega), wrap8 (by omega), wrap8 (by omega)]
   have c1 : (((s[p].toNat / 16 : Nat) : Int) + 1).toNat = s[p].toNat / 16 + 1 := by omega
   have c2 : (((s[p].toNat % 16 : Nat) : Int) + 1).toNat = s[p].toNat % 16 + 1 := by omega
   rw [c1, c2, Int.toNat_natCast, Int.toNat_natCast, dig_cut _ (by omega), dig_cut _ (by omega), show (⟨#[37]⟩ : ByteArray) = bytesL [37] from rfl, bytesL_app, bytesL_app, bytesL_app, hb]
   simp only [bytesL_size, List.length_append, List.length_cons, List.length_nil]
   have hd : ((⟨#[48, 49, 50, 51, 52, 53, 54, 55, 56, 57, 65, 66, 67, 68, 69, 70]⟩ : ByteArray).size : Int) = 16 := rfl
   rw [hd]
   refine ⟨by omega, by omega, by omega, by omega, by omega, ?_⟩
   rw [h1]
   have := resc_j s hs k (p + 1) (acc ++ [37, hexU (s[p].toNat / 16), hexU (s[p].toNat % 16)]) (by omega) (by simp; omega)
   simpa using this
theorem resc (s : ByteArray) (hs : s.size <= 1048576) : ref55_Escape s (escB s) := ref55_Escape_step _ _ (by
 have := resc_j s hs s.size 0 [] (by omega) (by simp)
 rw [List.drop_zero, List.nil_append] at this
 exact this)
def digF : Nat -> Nat -> Int -> Int
 | 0, _, _ => -1
 | k + 1, i, b => if byteAt (⟨#[48, 49, 50, 51, 52, 53, 54, 55, 56, 57, 65, 66, 67, 68, 69, 70]⟩ : ByteArray) i = b then i else digF k (i + 1) b
theorem digF_is (c : UInt8) : digF 16 0 (c.toNat : Int) = digI c := by
 have : ∀ c : Fin 256, digF 16 0 ((c.val : Nat) : Int) = digI (UInt8.ofNat c.val) := by decide +kernel
 have h := this ⟨c.toNat, c.toNat_lt⟩
 simpa using h
theorem rdig_j (b : Int) : ∀ (k i : Nat), i + k = 16 -> ref55_digit_j2 i b (digF k i b)
 | 0, i, h => ref55_digit_j2_step _ _ _ ⟨fun h1 => by simp only [decide_eq_true_eq] at h1; omega, fun _ => rfl⟩
 | k + 1, i, h => by
  have hd : ((⟨#[48, 49, 50, 51, 52, 53, 54, 55, 56, 57, 65, 66, 67, 68, 69, 70]⟩ : ByteArray).size : Int) = 16 := rfl
  refine ref55_digit_j2_step _ _ _ ⟨fun h1 => ⟨⟨by omega, by rw [hd]; omega⟩, fun h2 => ?_, fun h2 => ?_⟩, fun h1 => by simp only [decide_eq_false_iff_not] at h1; omega⟩
  ·simp only [Int.toNat_natCast, beq_iff_eq] at h2
   rw [digF, if_pos h2]
  ·simp only [Int.toNat_natCast, beq_eq_false_iff_ne, ne_eq] at h2
   rw [digF, if_neg h2, wI_id (by omega), show ((i : Int) + 1) = ((i + 1 : Nat) : Int) by omega]
   exact rdig_j b k (i + 1) (by omega)
theorem rdig (c : UInt8) : ref55_digit (c.toNat : Int) (digI c) := ref55_digit_step _ _ (by rw [← digF_is]; exact rdig_j _ 16 0 rfl)
def unescR (s : ByteArray) (o : Option (List UInt8)) : ByteArray × Int := match o with
 | some t => if escL t = s.data.toList then (bytesL t, 0) else (⟨#[]⟩, 2)
 | none => (⟨#[]⟩, 2)
theorem unescR_is (s : ByteArray) : unescB s = unescR s (unraw s.data.toList []) := by
 unfold unescB unescR unescL
 cases unraw s.data.toList [] with
 | none => rfl
 | some t => by_cases h : escL t = s.data.toList <;> simp [h] <;> rfl
theorem bI_one (n : Nat) (h : n < 256) : ([(n : Int)] : List Int) = bI (bytesL [UInt8.ofNat n]) := by
 unfold bI
 rw [bytesL_toList]
 simp
 omega
theorem runesc_j (s : ByteArray) (hs : s.size <= 1048576) : ∀ (k p : Nat) (acc : List UInt8), p + k = s.size -> acc.length <= p -> ref55_Unescape_j2 p (bytesL acc) s (unescR s (unraw (s.data.toList.drop p) acc)) := by
 intro k
 induction k using Nat.strongRecOn with
 | _ k ih =>
 intro p acc hk ha
 refine ref55_Unescape_j2_step _ _ _ _ ⟨fun h => ?_, fun h => ?_⟩
 ·simp only [decide_eq_true_eq] at h
  have hp : p < s.size := by omega
  refine ⟨by omega, ?_⟩
  simp only [Int.toNat_natCast]
  rw [byteAt_at s p hp]
  have w1 : wI ((p : Int) + 1) = ((p + 1 : Nat) : Int) := by rw [wI_id (by omega)]; omega
  have w2 : wI ((p : Int) + 2) = ((p + 2 : Nat) : Int) := by rw [wI_id (by omega)]; omega
  have w3 : wI ((p : Int) + 3) = ((p + 3 : Nat) : Int) := by rw [wI_id (by omega)]; omega
  rw [w1, w2, w3]
  simp only [Int.toNat_natCast]
  refine ⟨fun hb => ⟨by omega, ?_⟩, fun hb => ?_⟩
  ·rw [cut_one s p hp, bytesL_size, bytesL_size, bytesL_app]
   refine ⟨by simp; omega, ?_⟩
   have hb' : s[p] ≠ 37 := fun h => by rw [h] at hb; simp at hb
   have e : unraw (s.data.toList.drop p) acc = unraw (s.data.toList.drop (p + 1)) (acc ++ [s[p]]) := by
    rw [drop_at' s p hp, unraw.eq_def]; simp only [ne_eq, hb', not_false_eq_true, if_true]
   rw [e]
   exact ih (k - 1) (by omega) (p + 1) _ (by omega) (by simp; omega)
  ·have hb' : s[p] = 37 := by
    simp only [bne_eq_false_iff_eq] at hb
    exact UInt8.toNat_inj.1 (by have : ((37 : UInt8).toNat) = 37 := rfl; omega)
   by_cases h2 : p + 2 < s.size
   ·have hp1 : p + 1 < s.size := by omega
    rw [byteAt_at s (p + 1) hp1, byteAt_at s (p + 2) h2]
    have e : unraw (s.data.toList.drop p) acc = if 0 <= digI s[p + 1] /\ 0 <= digI s[p + 2] then unraw (s.data.toList.drop (p + 3)) (acc ++ [UInt8.ofNat (16 * (digI s[p + 1]).toNat + (digI s[p + 2]).toNat)]) else none := by
     rw [drop_at' s p hp, drop_at' s (p + 1) hp1, drop_at' s (p + 2) h2, unraw.eq_def]
     simp only [hb', ne_eq, not_true_eq_false, if_false]
    rw [e]
    have hx16 := dig_lt s[p + 1]
    have hy16 := dig_lt s[p + 2]
    refine ⟨fun b => b = decide (digI s[p + 1] < 0), fun b3 hb3 => ⟨fun b => b = (b3 || decide (digI s[p + 2] < 0)), fun b4 hb4 => ⟨fun ht => ?_, fun hf => ?_⟩, fun ht => by simp [ht], fun hf => ⟨by omega, _, rdig _, by simp [hf]⟩⟩, fun ht => ?_, fun hf => ⟨by omega, _, rdig _, rfl⟩⟩
    ·subst hb3
     rw [hb4] at ht
     simp only [Bool.or_eq_true, decide_eq_true_eq] at ht
     rw [if_neg (by omega)]; rfl
    ·subst hb3
     rw [hb4] at hf
     simp only [Bool.or_eq_false_iff, decide_eq_false_iff_not] at hf
     obtain ⟨x, hx⟩ : ∃ x : Nat, digI s[p + 1] = (x : Int) := ⟨(digI s[p + 1]).toNat, by omega⟩
     obtain ⟨y, hy⟩ : ∃ y : Nat, digI s[p + 2] = (y : Int) := ⟨(digI s[p + 2]).toNat, by omega⟩
     have r1 := rdig s[p + 1]
     have r2 := rdig s[p + 2]
     rw [hx] at r1 hx16
     rw [hy] at r2 hy16
     simp only [Int.toNat_natCast] at hx16 hy16
     have hx1 := hx16 (by omega)
     have hy1 := hy16 (by omega)
     rw [hx, hy, if_pos (by omega)]
     simp only [Int.toNat_natCast]
     refine ⟨by omega, _, r1, by omega, _, r2, bytesL [UInt8.ofNat (16 * x + y)], ?_, ?_, ?_⟩
     ·rw [wI_id (n := 16 * (x : Int)) (by omega), wI_id (by omega), wrap8 (by omega), ← bI_one _ (by omega)]
      congr 1
     ·rw [bytesL_size, bytesL_size]; simp; omega
     ·rw [bytesL_app]
      exact ih (k - 3) (by omega) (p + 3) _ (by omega) (by simp; omega)
    ·simp only [decide_eq_true_eq] at ht; omega
   ·have e : unraw (s.data.toList.drop p) acc = none := by
     rw [drop_at' s p hp, unraw.eq_def]
     simp only [hb', ne_eq, not_true_eq_false, if_false]
     split
     ·rename_i a b r' he
      exfalso
      have := congrArg List.length he
      simp at this
      have h3 : s.data.size = s.size := rfl
      omega
     ·rfl
    rw [e]
    refine ⟨fun b => b = true, fun b3 hb3 => ⟨fun b => b = true, fun b4 hb4 => ⟨fun _ => rfl, fun hf => by rw [hb4] at hf; cases hf⟩, fun _ => rfl, fun hf => by rw [hb3] at hf; cases hf⟩, fun _ => rfl, fun hf => ?_⟩
    simp only [decide_eq_false_iff_not] at hf; omega
 ·simp only [decide_eq_false_iff_not] at h
  have e : unraw (s.data.toList.drop p) acc = some acc := by rw [List.drop_eq_nil_of_le (by simp; show s.size <= p; omega), unraw.eq_def]
  rw [e]
  refine ⟨_, resc (bytesL acc) (by rw [bytesL_size]; omega), fun ht => ?_, fun hf => ?_⟩
  ·have hn : ¬ escL acc = s.data.toList := fun hq => by
    have : escB (bytesL acc) = s := by unfold escB; rw [bytesL_toList, hq, bytesL_data]
    simp [this] at ht
   simp only [unescR, if_neg hn]
  ·have hq : escL acc = s.data.toList := by
    have h1 : escB (bytesL acc) = s := by simpa using hf
    rw [← h1]; rfl
   simp only [unescR, if_pos hq]
theorem runesc (s : ByteArray) (hs : s.size <= 1048576) : ref55_Unescape s (unescB s) := ref55_Unescape_step _ _ (by
 rw [unescR_is]
 have := runesc_j s hs s.size 0 [] (by omega) (by simp)
 rw [List.drop_zero] at this
 exact this)
theorem escapes_true (mg : Int) (s : ByteArray) : law55_GatewayEscapes mg s true := by
 refine law55_GatewayEscapes_step _ _ _ ⟨fun _ => ⟨_, awake_is mg, rfl⟩, fun h => ?_⟩
 simp only [decide_eq_false_iff_not] at h
 refine ⟨_, gunesc s (by omega), _, runesc s (by omega), _, gesc s (by omega), _, resc s (by omega), fun _ => ⟨_, awake_is mg, rfl⟩, fun hf => ?_⟩
 simp at hf
theorem k10 : Rows.gatewayEscapesRow.inPlace = Tryz.prog.inPlace 3 := by kernel_rfl
theorem k11 : Tryz.prog.unfollowed 3 = true := by kernel_rfl
theorem k12 : Tryz.prog.recurses 3 = true := by unfold Program.recurses; rw [k11]; rfl
theorem k13 : Rows.gatewayEscapesRow.named = Tryz.prog.varsNamed 3 := by kernel_rfl
theorem noGo : Tryz.prog.funcs.any Func.goes = false := by kernel_rfl
theorem goes_no {P : Program} (h : P.funcs.any Func.goes = false) (f : FuncId) : P.goes f = false := by
 unfold Program.goes
 rw [h, Bool.and_false, Bool.or_false]
 refine List.any_eq_false.2 fun g _ => ?_
 cases hg : P.funcs[g]? with
 | none => simp
 | some fn =>
  rw [Array.any_eq_false] at h
  obtain ⟨hl, he⟩ := Array.getElem?_eq_some_iff.1 hg
  have := h g hl
  rw [he] at this
  simpa using this
theorem kg : false = Rows.gatewayEscapesRow.goesBy Tryz.prog := by
 have : Rows.gatewayEscapesRow.goesBy Tryz.prog = Tryz.prog.goesFrom Rows.gatewayEscapesRow.func := by unfold OpenClaim.goesBy Program.goesAt; exact Bool.or_false _
 rw [this]
 unfold Program.goesFrom
 cases Tryz.prog.funcNamed Rows.gatewayEscapesRow.func with
 | none => rfl
 | some f => rw [Option.any_some, goes_no noGo]
theorem and_t {a b : Bool} (h : a = true) (k : b = true) : (a && b) = true := by rw [h, k]; rfl
set_option maxHeartbeats 100000000 in
theorem closed : joinedFacts Tryz.prog 3 Tryz.f3 (OpenSpec.ofChange Rows.gatewayEscapesSpec).bare Rows.gatewayEscapesRow = true := by
 unfold joinedFacts
 refine (and_t (and_t (and_t (and_t (and_t (and_t (and_t (and_t (and_t (and_t (and_t (and_t (and_t (and_t (and_t (and_t (and_t (and_t (and_t (and_t (and_t (and_t (and_t (and_t (and_t (and_t (and_t (and_t (and_t (and_t (and_t ?_ ?_) ?_) ?_) ?_) ?_) ?_) ?_) ?_) ?_) ?_) ?_) ?_) ?_) ?_) ?_) ?_) ?_) ?_) ?_) ?_) ?_) ?_) ?_) ?_) ?_) ?_) ?_) ?_) ?_) ?_) ?_)
 ·as_aux_lemma => kernel_rfl
 ·as_aux_lemma => kernel_rfl
 ·as_aux_lemma => kernel_rfl
 ·as_aux_lemma => kernel_rfl
 ·as_aux_lemma => kernel_rfl
 ·as_aux_lemma => kernel_rfl
 ·as_aux_lemma => kernel_rfl
 ·as_aux_lemma => kernel_rfl
 ·as_aux_lemma => kernel_rfl
 ·exact beq_iff_eq.2 k10
 ·exact beq_iff_eq.2 k11.symm
 ·exact beq_iff_eq.2 k12.symm
 ·exact beq_iff_eq.2 k13
 ·as_aux_lemma => kernel_rfl
 ·as_aux_lemma => kernel_rfl
 ·as_aux_lemma => kernel_rfl
 ·as_aux_lemma => kernel_rfl
 ·as_aux_lemma => kernel_rfl
 ·as_aux_lemma => kernel_rfl
 ·as_aux_lemma => kernel_rfl
 ·as_aux_lemma => kernel_rfl
 ·as_aux_lemma => kernel_rfl
 ·as_aux_lemma => kernel_rfl
 ·as_aux_lemma => kernel_rfl
 ·as_aux_lemma => kernel_rfl
 ·as_aux_lemma => kernel_rfl
 ·as_aux_lemma => kernel_rfl
 ·as_aux_lemma => kernel_rfl
 ·as_aux_lemma => kernel_rfl
 ·as_aux_lemma => kernel_rfl
 ·as_aux_lemma => kernel_rfl
 ·as_aux_lemma => kernel_rfl
end Go.Proofs.YtlokalcjcoploaaGreatDoor.Lift
