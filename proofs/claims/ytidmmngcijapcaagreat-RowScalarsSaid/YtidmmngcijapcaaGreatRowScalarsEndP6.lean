/- Part 7 of the texts that prove RowScalarsEnd. -/
import Derived.Test.YtidmmngcijapcaaGreatRowScalarsEndP2
import Derived.Test.YtidmmngcijapcaaGreatRowScalarsEndP1
import Derived.Test.YtidmmngcijapcaaGreatProg
import Derived.Test.YtidmmngcijapcaaGreatRowScalarsEndP3
import Derived.Test.YtidmmngcijapcaaGreatRowScalarsEndP4
import Derived.Test.YtidmmngcijapcaaGreatRowScalarsEndP5
namespace Go.Proofs.YtidmmngcijapcaaGreat.Lift
open Go.RowKit
set_option linter.unusedVariables false
set_option linter.unusedSimpArgs false
set_option linter.unnecessarySimpa false
set_option linter.unusedSectionVars false
set_option maxRecDepth 100000
def r15_0 : LO := [o 0 (mb false)]
def r15_1 : LO := [o 7 (.build [(aI 0), aE, aE, (aI 0), (aI 0), (aI 0), (aI 0), (aI 0)] [((0, 1), (ci 1)), ((1, 1), (.c (aS ⟨#[97]⟩))), ((3, 1), (ci 2)), ((5, 1), (ci 4)), ((6, 1), (ci (-1))), ((7, 1), (ci (-1)))]), o 8 (.build [(aI 0), aE, aE, (aI 0), (aI 0), (aI 0), (aI 0), (aI 0)] [((0, 1), (ci 2)), ((1, 1), (.c (aS ⟨#[98]⟩))), ((3, 1), (ci 2)), ((5, 1), (ci 7)), ((6, 1), (ci (-1))), ((7, 1), (ci (-1)))]), o 9 (.sliceLit 8 2 [(aI 0), aE, aE, (aI 0), (aI 0), (aI 0), (aI 0), (aI 0), (aI 0), aE, aE, (aI 0), (aI 0), (aI 0), (aI 0), (aI 0)] [((0, 8), (T 7)), ((8, 8), (T 8))]), o 10 (.build [aE, .nil, (aI 0)] [((0, 1), (.c (aS ⟨#[77]⟩))), ((1, 1), (T 9))]), o 1 (.alloc [aE, .nil, (aI 0)]), on (st 3 1 10)]
def r15_2 : LO := [o 11 (ln 3 1), o 12 (.sliceLit 3 1 [aE, .nil, (aI 0)] [((0, 3), (T 11))]), o 13 (.build [.nil, .nil] [((0, 1), (T 12))]), o 2 (.alloc [.nil, .nil]), on (st 2 2 13)]
def r15_3 : LO := [o 15 (ln 2 2), o 16 (.build zV [((0, 1), (ci 7)), ((2, 1), (.c (aS ⟨#[97]⟩)))]), o 17 (.build [(aI 0), (aI 0), (aU 0), aE, .nil, .nil, .nil, .nil] [((0, 1), (ci 2)), ((1, 7), (T 16))]), o 18 (.sliceLit 8 1 [(aI 0), (aI 0), (aU 0), aE, .nil, .nil, .nil, .nil] [((0, 8), (T 17))]), o 19 (.build zV [((0, 1), (ci 10)), ((5, 1), (T 18))]), o 20 (.call (cf 18) [(T 15), (.c (aS ⟨#[77]⟩)), (T 19)]), o 14 (mv 20), o 21 (.extract 0 (T 14)), o 22 (.extract 1 (T 14)), o 3 (mv 21), o 4 (mv 22)]
def r15_4 : LO := [o 24 (ln 2 2), o 25 (.call (cf 21) []), o 26 (.call (cf 20) [(T 24), (.c (aS ⟨#[77]⟩)), (.c (aS ⟨#[1, 5, 0]⟩)), (T 25)]), o 23 (mv 26), o 27 (.extract 0 (T 23)), o 28 (.extract 1 (T 23)), o 5 (.alloc zV), on (st 7 5 27)]
def r15_4t : LO := [o 6 (mv 28)]
def r15_4o : LN := [[], [], [0, 1], [2], [3], [3], [], [0, 1, 2, 3, 4, 6]]
def r15_5 : LO := [o 29 (mv 4), o 30 (.bin .eql (T 29) (ci 0)), o 31 (mv 30), og 32 (mv 3) 31 true, og 33 (.bin .eql (T 32) (.c (aS ⟨#[0, 1, 1, 97]⟩))) 31 true, o 34 (.pick (T 31) (T 33) (cb false)), o 35 (mv 34), og 36 (mv 6) 35 true, og 37 (.bin .eql (T 36) (ci 0)) 35 true, o 38 (.pick (T 35) (T 37) (cb false)), o 39 (mv 38), og 40 (fa 5 5) 39 true, og 41 (ld 40) 39 true, og 42 (.len false (T 41)) 39 true, og 43 (.bin .eql (T 42) (ci 1)) 39 true, o 44 (.pick (T 39) (T 43) (cb false)), o 45 (mv 44), og 46 (fa 5 5) 45 true, og 47 (ld 46) 45 true, og 48 (.idxSl 8 (T 47) (ci 0)) 45 true, og 49 (fa 1 48) 45 true, og 50 (fa 1 49) 45 true, og 51 (ld 50) 45 true, og 52 (.bin .eql (T 51) (.c (aU 5))) 45 true, o 53 (.pick (T 45) (T 52) (cb false)), o 0 (mv 53)]
def k15_1 : ACode := .seq (.drawn r15_4o r15_4 r15_4t) (.seq (.region r15_5) .ret)
def k15_2 : ACode := .seq (.region r15_1) (.seq (.region r15_2) (.seq (.region r15_3) k15_1))
def k15_3 : ACode := .seq (.region r15_0) k15_2
theorem fn15 : getFn Tryz.prog 15 = some (54, k15_3, [.tmp 0]) := by kernel_rfl
def r195_0 : LO := [o 10 (mv 1), o 11 (.bin .add (T 10) (ci 1)), o 8 (mv 11)]
def r195_1 : LO := [o 12 (mv 8), o 13 (mv 2), o 14 (.bin .lss (T 12) (T 13))]
def r195_6 : LO := [o 17 (mv 8), o 9 (mv 17)]
def r195_7 : LO := [o 18 (mv 9), o 19 (mv 1), o 20 (.bin .gtr (T 18) (T 19)), o 21 (mv 20), og 22 (mv 3) 21 true, og 23 (mv 0) 21 true, og 24 (mv 9) 21 true, og 25 (.idxSl 4 (T 23) (T 24)) 21 true, og 26 (ln 4 25) 21 true, og 27 (mv 0) 21 true, og 28 (mv 9) 21 true, og 29 (.bin .sub (T 28) (ci 1)) 21 true, og 30 (.idxSl 4 (T 27) (T 29)) 21 true, og 31 (ln 4 30) 21 true, og 32 (.call (T 22) [(T 26), (T 31)]) 21 true, og 33 (.bin .lss (T 32) (ci 0)) 21 true, o 34 (.pick (T 21) (T 33) (cb false))]
def r195_7t : LO := []
def r195_7o : LN := [[], [], [0, 1], [2], [3], [3], [3], [3, 5, 6], [3, 7], [3], [3], [3, 10], [3, 9, 11], [3, 12], [3, 4, 8, 13], [3, 14], [3, 15]]
def k195_1 : ACode := .seq (.drawn r195_7o r195_7 r195_7t) (.cond (T 34) .skip (.exit 2))
def r195_12 : LO := [o 37 (mv 0), o 38 (mv 9), o 39 (mv 0), o 40 (mv 9), o 41 (.bin .sub (T 40) (ci 1)), o 42 (mv 0), o 43 (mv 9), o 44 (.bin .sub (T 43) (ci 1)), o 45 (.idxSl 4 (T 42) (T 44)), o 46 (ln 4 45), o 47 (mv 0), o 48 (mv 9), o 49 (.idxSl 4 (T 47) (T 48)), o 50 (ln 4 49), o 51 (.idxSl 4 (T 37) (T 38)), on (st 4 51 46)]
def r195_12t : LO := [o 52 (.idxSl 4 (T 39) (T 41)), on (st 4 52 50)]
def r195_12o : LN := [[], [], [], [], [3], [], [], [6], [5, 7], [8], [], [], [10, 11], [12], [0, 1, 5, 6, 7, 8, 9, 13], [0, 1, 5, 6, 7, 8, 9, 13, 14]]
def r195_14 : LO := [o 35 (mv 9), o 36 (.bin .sub (T 35) (ci 1)), o 9 (mv 36)]
def k195_2 : ACode := .seq (.block 3 (.drawn r195_12o r195_12 r195_12t)) (.region r195_14)
def k195_3 : ACode := .seq k195_1 k195_2
def r195_21 : LO := [o 15 (mv 8), o 16 (.bin .add (T 15) (ci 1)), o 8 (mv 16)]
def k195_4 : ACode := .seq (.block 1 (.seq (.region r195_6) (.block 2 (.loop k195_3)))) (.region r195_21)
def k195_5 : ACode := .seq (.seq (.region r195_1) (.cond (T 14) .skip (.exit 0))) k195_4
def k195_6 : ACode := .seq (.region r195_0) (.block 0 (.loop k195_5))
theorem fn195 : getFn Tryz.prog 195 = some (53, k195_6, []) := by kernel_rfl
def r216_0 : LO := [o 10 (mv 1), o 11 (.bin .add (T 10) (ci 1)), o 8 (mv 11)]
def r216_1 : LO := [o 12 (mv 8), o 13 (mv 2), o 14 (.bin .lss (T 12) (T 13))]
def r216_6 : LO := [o 17 (mv 8), o 9 (mv 17)]
def r216_7 : LO := [o 18 (mv 9), o 19 (mv 1), o 20 (.bin .gtr (T 18) (T 19)), o 21 (mv 20), og 22 (mv 3) 21 true, og 23 (mv 0) 21 true, og 24 (mv 9) 21 true, og 25 (.idxSl 8 (T 23) (T 24)) 21 true, og 26 (ln 8 25) 21 true, og 27 (mv 0) 21 true, og 28 (mv 9) 21 true, og 29 (.bin .sub (T 28) (ci 1)) 21 true, og 30 (.idxSl 8 (T 27) (T 29)) 21 true, og 31 (ln 8 30) 21 true, og 32 (.call (T 22) [(T 26), (T 31)]) 21 true, og 33 (.bin .lss (T 32) (ci 0)) 21 true, o 34 (.pick (T 21) (T 33) (cb false))]
def r216_7t : LO := []
def r216_7o : LN := [[], [], [0, 1], [2], [3], [3], [3], [3, 5, 6], [3, 7], [3], [3], [3, 10], [3, 9, 11], [3, 12], [3, 4, 8, 13], [3, 14], [3, 15]]
def k216_1 : ACode := .seq (.drawn r216_7o r216_7 r216_7t) (.cond (T 34) .skip (.exit 2))
def r216_12 : LO := [o 37 (mv 0), o 38 (mv 9), o 39 (mv 0), o 40 (mv 9), o 41 (.bin .sub (T 40) (ci 1)), o 42 (mv 0), o 43 (mv 9), o 44 (.bin .sub (T 43) (ci 1)), o 45 (.idxSl 8 (T 42) (T 44)), o 46 (ln 8 45), o 47 (mv 0), o 48 (mv 9), o 49 (.idxSl 8 (T 47) (T 48)), o 50 (ln 8 49), o 51 (.idxSl 8 (T 37) (T 38)), on (st 8 51 46)]
def r216_12t : LO := [o 52 (.idxSl 8 (T 39) (T 41)), on (st 8 52 50)]
def r216_12o : LN := [[], [], [], [], [3], [], [], [6], [5, 7], [8], [], [], [10, 11], [12], [0, 1, 5, 6, 7, 8, 9, 13], [0, 1, 5, 6, 7, 8, 9, 13, 14]]
def r216_14 : LO := [o 35 (mv 9), o 36 (.bin .sub (T 35) (ci 1)), o 9 (mv 36)]
def k216_2 : ACode := .seq (.block 3 (.drawn r216_12o r216_12 r216_12t)) (.region r216_14)
def k216_3 : ACode := .seq k216_1 k216_2
def r216_21 : LO := [o 15 (mv 8), o 16 (.bin .add (T 15) (ci 1)), o 8 (mv 16)]
def k216_4 : ACode := .seq (.block 1 (.seq (.region r216_6) (.block 2 (.loop k216_3)))) (.region r216_21)
def k216_5 : ACode := .seq (.seq (.region r216_1) (.cond (T 14) .skip (.exit 0))) k216_4
def k216_6 : ACode := .seq (.region r216_0) (.block 0 (.loop k216_5))
theorem fn216 : getFn Tryz.prog 216 = some (53, k216_6, []) := by kernel_rfl
def r157_0 : LO := [o 1 (bx 0), o 2 (.mv (.c .nil))]
def r157_1 : LO := [o 8 (fa 3 1), o 9 (ld 8), o 10 (.call (cf 188) [(T 9)]), o 3 (mv 10)]
def r157_2 : LO := [o 11 (fa 4 1), o 12 (ld 11), o 13 (.len false (T 12)), o 14 (mi 0)]
def r157_3 : LO := [o 15 (.bin .lss (T 14) (T 13))]
def r157_7 : LO := [o 16 (.idxSl 14 (T 12) (T 14)), o 17 (ln 14 16), o 5 (.alloc [(aI 0), (aU 0), aE, .nil, .nil, .nil, .nil, (aI 0), (aU 0), aE, .nil, .nil, .nil, .nil]), on (st 14 5 17)]
def r157_8 : LO := [o 18 (mv 3), o 19 (fa 0 5), o 20 (ln 7 19), o 21 (fa 7 5), o 22 (ln 7 21), o 23 (.sliceLit 7 2 [(aI 0), (aU 0), aE, .nil, .nil, .nil, .nil, (aI 0), (aU 0), aE, .nil, .nil, .nil, .nil] [((0, 7), (T 20)), ((7, 7), (T 22))]), o 24 (.append 7 128 (T 18) (T 23)), o 3 (mv 24)]
def r157_11 : LO := [o 25 (.bin .add (T 14) (ci 1)), o 14 (mv 25)]
def k157_1 : ACode := .seq (.block 1 (.seq (.region r157_7) (.region r157_8))) (.region r157_11)
def k157_2 : ACode := .seq (.region r157_3) (.seq (.cond (T 15) .skip (.exit 0)) k157_1)
def r157_18 : LO := [o 26 (fa 5 1), o 27 (ld 26), o 28 (.len false (T 27)), o 29 (mi 0)]
def r157_19 : LO := [o 30 (.bin .lss (T 29) (T 28))]
def r157_23 : LO := [o 31 (.idxSl 8 (T 27) (T 29)), o 32 (ln 8 31), o 7 (.alloc [(aI 0), (aI 0), (aU 0), aE, .nil, .nil, .nil, .nil]), on (st 8 7 32)]
def r157_24 : LO := [o 33 (mv 3), o 34 (fa 1 7), o 35 (ln 7 34), o 36 (.sliceLit 7 1 zV [((0, 7), (T 35))]), o 37 (.append 7 128 (T 33) (T 36)), o 3 (mv 37)]
def r157_27 : LO := [o 38 (.bin .add (T 29) (ci 1)), o 29 (mv 38)]
def k157_3 : ACode := .seq (.block 3 (.seq (.region r157_23) (.region r157_24))) (.region r157_27)
def k157_4 : ACode := .seq (.region r157_19) (.seq (.cond (T 30) .skip (.exit 2)) k157_3)
def r157_34 : LO := [o 39 (mv 3), o 2 (mv 39)]
def k157_5 : ACode := .seq (.seq (.region r157_18) (.block 2 (.loop k157_4))) (.seq (.region r157_34) .ret)
def k157_6 : ACode := .seq (.seq (.region r157_2) (.block 0 (.loop k157_2))) k157_5
def k157_7 : ACode := .seq (.region r157_0) (.seq (.region r157_1) k157_6)
theorem fn157 : getFn Tryz.prog 157 = some (40, k157_7, [.tmp 2]) := by kernel_rfl
theorem TblOK.cons {P : Program} {T : Tbl} {g : Nat} {x : Nat × ACode × List ARes} (h : getFn P g = some x) (t : TblOK P T) : TblOK P ((g, x) :: T) := by
 intro f y hf
 rcases List.mem_cons.1 hf with e | hf
 ·cases e; exact h
 ·exact t f y hf
theorem TblOK.nil {P : Program} : TblOK P [] := fun _ _ h => by cases h
def tbl : Tbl := [
 (15, (54, k15_3, [.tmp 0])),
 (21, (2, k21_2, [.cell 0 (some 4)])),
 (20, (57, k20_18, [.cell 8 (some 7), .tmp 9])),
 (62, (11, k62_5, [.tmp 2])),
 (118, (21, k118_2, [.tmp 2])),
 (61, (124, k61_32, [.cell 4 (some 7), .tmp 5])),
 (117, (90, k117_26, [.cell 8 (some 7), .tmp 9, .tmp 10])),
 (83, (28, k83_8, [.tmp 2])),
 (141, (9, k141_2, [.tmp 2])),
 (82, (9, k82_2, [.tmp 2])),
 (114, (45, k114_10, [.cell 4 (some 7), .tmp 5])),
 (113, (21, k113_4, [.tmp 4])),
 (168, (22, k168_8, [.cell 4 (some 6), .tmp 5])),
 (10, (115, k10_34, [.cell 6 (some 7), .cell 7 (some 6), .tmp 8])),
 (36, (39, k36_5, [.tmp 4])),
 (84, (28, k84_19, [.tmp 4])),
 (79, (6, k79_2, [.tmp 2])),
 (139, (16, k139_9, [.tmp 2])),
 (181, (16, k181_2, [.tmp 6])),
 (34, (29, k34_8, [.tmp 2, .cell 3 (some 6), .tmp 4])),
 (81, (11, k81_7, [.tmp 2])),
 (80, (23, k80_6, [.tmp 2, .cell 3 (some 6), .tmp 4])),
 (140, (36, k140_17, [.tmp 2, .tmp 3, .tmp 4])),
 (137, (20, k137_5, [.tmp 4])),
 (76, (11, k76_3, [.cell 4 (some 6)])),
 (50, (14, k50_4, [.cell 2 (some 7)])),
 (31, (16, k31_5, [.tmp 2, .cell 3 (some 6), .tmp 4])),
 (107, (12, k107_2, [.cell 4 (some 8), .tmp 5])),
 (162, (20, k162_6, [.cell 4 (some 8), .tmp 5])),
 (190, (19, k190_9, [.tmp 4])),
 (161, (8, k161_2, [.tmp 3])),
 (60, (43, k60_7, [.cell 4 (some 6), .tmp 5])),
 (55, (15, k55_3, [.tmp 4, .tmp 5])),
 (100, (8, k100_2, [.tmp 3])),
 (99, (19, k99_9, [.tmp 4])),
 (18, (50, k18_17, [.tmp 6, .tmp 7])),
 (59, (86, k59_17, [.cell 6 (some 7)])),
 (110, (9, .region r110_0, [])),
 (166, (63, k166_22, [])),
 (195, (53, k195_6, [])),
 (108, (67, k108_22, [.cell 6 (some 7)])),
 (163, (17, k163_5, [.cell 6 (some 7)])),
 (106, (40, k106_12, [.tmp 2])),
 (159, (9, .region r159_0, [])),
 (189, (63, k189_22, [])),
 (216, (53, k216_6, [])),
 (158, (8, k158_5, [.tmp 2])),
 (105, (8, k105_5, [.tmp 2])),
 (58, (121, k58_36, [])),
 (104, (13, .region r104_0, [])),
 (103, (18, k103_4, [])),
 (12, (45, k12_17, [.tmp 2])),
 (47, (20, k47_7, [.tmp 2])),
 (57, (45, k57_26, [.tmp 2])),
 (56, (32, k56_11, [.tmp 6])),
 (102, (23, k102_8, [.tmp 2])),
 (157, (40, k157_7, [.tmp 2])),
 (188, (8, k188_5, [.tmp 2])),
 (101, (77, k101_32, [.tmp 8])),
 (154, (9, k154_2, [.tmp 4])),
 (187, (19, k187_9, [.tmp 4])),
 (153, (69, k153_18, [.tmp 10])),
 (186, (59, k186_22, [.tmp 8])),
 (224, (49, k224_13, [.tmp 8])),
 (152, (74, k152_3, [.tmp 2])),
 (214, (31, k214_4, [.tmp 8]))]
theorem tbl_ok : TblOK Tryz.prog tbl :=
 .cons fn15 (.cons fn21 (.cons fn20 (.cons fn62 (.cons fn118 (.cons fn61 (.cons fn117 (.cons fn83 (.cons fn141 (.cons fn82 (.cons fn114 (.cons fn113 (.cons fn168 (.cons fn10 (.cons fn36 (.cons fn84 (.cons fn79 (.cons fn139 (.cons fn181 (.cons fn34 (.cons fn81 (.cons fn80 (.cons fn140 (.cons fn137 (.cons fn76 (.cons fn50 (.cons fn31 (.cons fn107 (.cons fn162 (.cons fn190 (.cons fn161 (.cons fn60 (.cons fn55 (.cons fn100 (.cons fn99 (.cons fn18 (.cons fn59 (.cons fn110 (.cons fn166 (.cons fn195 (.cons fn108 (.cons fn163 (.cons fn106 (.cons fn159 (.cons fn189 (.cons fn216 (.cons fn158 (.cons fn105 (.cons fn58 (.cons fn104 (.cons fn103 (.cons fn12 (.cons fn47 (.cons fn57 (.cons fn56 (.cons fn102 (.cons fn157 (.cons fn188 (.cons fn101 (.cons fn154 (.cons fn187 (.cons fn153 (.cons fn186 (.cons fn224 (.cons fn152 (.cons fn214 .nil)))))))))))))))))))))))))))))))))))))))))))))))))))))))))))))))))
def mode0 : Nat -> Bool -> Bool := fun _ _ => false
theorem awake_run : (fnAt tbl mode0 false (evC tbl mode0 100000) 15 [] ⟨[], [], []⟩).map (fun r => outV r.2 r.1) = some (.v (.bool true)) := by kernel_rfl
theorem less_self : ∀ l : List UInt8, Op.bytesLess l l = false
 | [] => rfl
 | a :: l => by
  have h : ¬ a < a := UInt8.lt_irrefl a
  simp [Op.bytesLess, less_self l, h]
def rankV (v : GValue) : Int := if v.Kind = 2 ∨ v.Kind = 3 then wU (v.Bits + 9223372036854775808) else if v.Kind ≠ 6 then v.Bits else if clsS v.Bits.toNat = 0 then 18446744073709551615 else if 9223372036854775808 <= v.Bits then wU (18446744073709551615 - v.Bits) else wU (v.Bits + 9223372036854775808)
theorem rank_is (v : GValue) (hb : 0 <= v.Bits /\ v.Bits < 18446744073709551616) : ref04_rank v (rankV v) := by
 have hz : v.Bits = (v.Bits.toNat : Int) := by omega
 have hc := rclass_is v.Bits.toNat (by omega)
 rw [← hz] at hc
 refine ref04_rank_step _ _ ⟨_, ref04_signed_step _ _ rfl, fun h => ?_, fun h => ⟨fun h2 => ?_, fun h2 => ⟨_, hc, fun h3 => ?_, fun h3 => ⟨fun h4 => ?_, fun h4 => ?_⟩⟩⟩⟩
 all_goals simp only [Bool.or_eq_true, Bool.or_eq_false_iff, beq_iff_eq, beq_eq_false_iff_ne, bne_iff_ne, bne_eq_false_iff_eq, decide_eq_true_eq, decide_eq_false_iff_not, ne_eq] at *
 ·rw [rankV, if_pos h]
 ·rw [rankV, if_neg (by omega), if_pos h2]
 ·rw [rankV, if_neg (by omega), if_neg (by omega), if_pos (by omega)]
 ·rw [rankV, if_neg (by omega), if_neg (by omega), if_neg (by omega), if_pos h4]
 ·rw [rankV, if_neg (by omega), if_neg (by omega), if_neg (by omega), if_neg h4]
theorem SameV.rank {a b : GValue} (h : SameV a b) (ht : ¬ (a.Kind = 7 ∨ a.Kind = 8)) : rankV a = rankV b := by
 have hk := h.k
 unfold rankV
 rw [← hk]
 rcases h.r ht with e | ⟨h6, h1, h2⟩
 ·rw [e]
 ·rw [if_neg (by omega), if_neg (by omega), if_pos h1, if_neg (by omega), if_neg (by omega), if_pos h2]
theorem cmp04_same {a b : GValue} (h : SameV a b) (ha : 0 <= a.Bits /\ a.Bits < 18446744073709551616) (hb : 0 <= b.Bits /\ b.Bits < 18446744073709551616) : ref04_Cmp a b 0 := by
 have hk := h.k
 have tx : ∀ k : Int, ref04_texts k ((k == 7) || (k == 8)) := fun k => ref04_texts_step _ _ rfl
 have none : ∀ {B : Bool} {p : Prop}, B = false -> (B = true -> p) := fun h1 h2 => by rw [h1] at h2; cases h2
 have lt : ((a.Kind == 7) || (a.Kind == 8)) = true -> a.Text = b.Text := fun h1 => h.t (by simpa using h1)
 have n1 : (((a.Kind == 7) || (a.Kind == 8)) && (Op.bytesLess a.Text.toList b.Text.toList)) = false := by
  cases h1 : ((a.Kind == 7) || (a.Kind == 8)) with
  | true => rw [lt h1, less_self]; rfl
  | false => rfl
 have n2 : (((a.Kind == 7) || (a.Kind == 8)) && (!(Op.bytesLess a.Text.toList b.Text.toList || a.Text.toList == b.Text.toList))) = false := by
  cases h1 : ((a.Kind == 7) || (a.Kind == 8)) with
  | true => rw [lt h1]; simp
  | false => rfl
 refine ref04_Cmp_step _ _ _ ⟨none (decide_eq_false (by omega)), fun _ => ⟨none (decide_eq_false (by omega)), fun _ => ⟨_, ref04_Is_step _ _ rfl, fun _ => rfl, fun _ => ⟨_, tx _, none n1, fun _ => ⟨_, tx _, none n2, fun _ => ⟨_, tx _, fun _ => rfl, fun h1 => ?_⟩⟩⟩⟩⟩⟩
 have hr := h.rank (by simpa using h1)
 exact ⟨_, rank_is a ha, _, rank_is b hb, none (decide_eq_false (by omega)), fun _ => ⟨_, rank_is a ha, _, rank_is b hb, none (decide_eq_false (by omega)), fun _ => rfl⟩⟩
theorem same_same {a b : GValue} (h : SameV a b) (hn : a.Kind ≠ 10 /\ a.Kind ≠ 11 /\ a.Kind ≠ 12) (ha : 0 <= a.Bits /\ a.Bits < 18446744073709551616) (hb : 0 <= b.Bits /\ b.Bits < 18446744073709551616) : law28_same a b true := by
 have none : ∀ {B : Bool} {p : Prop}, B = false -> (B = true -> p) := fun h1 h2 => by rw [h1] at h2; cases h2
 have hk := h.k
 refine law28_same_step _ _ _ ⟨_, ref16_Equal_step _ _ _ ⟨0, ?_, rfl⟩, rfl⟩
 exact ref16_Cmp_step _ _ _ ⟨none (by simpa using hk), fun _ => ⟨none (by simpa using hn.2.1), fun _ => ⟨none (by simpa using hn.2.2), fun _ => ⟨none (by simpa using hn.1), fun _ => ⟨_, cmp04_same h ha hb, rfl⟩⟩⟩⟩⟩
theorem SameV.refl (a : GValue) : SameV a a := ⟨rfl, fun _ => rfl, fun _ => .inl rfl⟩
theorem scal_kind (p : GPlan) (k t : Int) (c : GCursor) (hc : OkC c) : ((scalV p k t c).1.Kind ≠ 10 /\ (scalV p k t c).1.Kind ≠ 11 /\ (scalV p k t c).1.Kind ≠ 12) /\ 0 <= (scalV p k t c).1.Bits /\ (scalV p k t c).1.Bits < 18446744073709551616 := by
 have h1 := byteR_range c
 have h2 := numV_range k c
 have h3 := fixR_bits c
 have z : ((V0.Kind ≠ 10 /\ V0.Kind ≠ 11 /\ V0.Kind ≠ 12) /\ 0 <= V0.Bits /\ V0.Bits < 18446744073709551616) := by decide
 unfold scalV
 split
 ·split
  ·exact z
  split
  ·exact z
  ·simp only [bitV]; omega
 split
 ·unfold doubV
  split
  ·exact z
  split
  ·exact z
  ·simp only; omega
 split
 ·unfold textV
  split
  ·exact z
  split
  ·exact z
  split
  ·exact z
  split
  ·exact z
  ·simp only; omega
 split
 ·split
  ·exact z
  split
  ·exact z
  split
  ·exact z
  ·simp only [bitV]; omega
 ·exact z
theorem OkPlan.oke {p : GPlan} (h : OkPlan p) : OkE p := ⟨h.ne, fun y hy => ⟨(h.enums y hy).ni, fun it hi => ((h.enums y hy).items it hi).num⟩⟩
theorem OkCur.okc {c : GCursor} (h : OkCur c) : OkC c := ⟨h.data, h.at_.1, h.at_.2⟩
theorem putV_size (v : GValue) (hv : OkV v) (ht : v.Text.size <= 5000) : (putV v).size <= 5010 := by
 have hr := wI_range v.Bits
 have hn := normV_bits v hv
 have h0 := hv.b0; have h1 := hv.b1
 unfold putV
 split
 ·split
  ·simp [ofI_size]
  split
  ·have := putS_size _ (zigN_lt hr); omega
  split
  ·rw [fix_size]; omega
  split
  ·rw [ba_size]
   have := putS_size v.Text.size (by omega)
   omega
  ·have := putS_size v.Bits.toNat (by omega); omega
 ·exact Nat.zero_le _
theorem awake_is : law28_awake true := by
 have h := run_pure (P := Tryz.prog) tbl_ok 100000 awake_run rfl
 exact ⟨h.1, fun w outer cargs ho hg hr => (h.2 w outer cargs ho hg hr).mono fun e w' ⟨av, x, a, b, c, d⟩ => ⟨av, x, a, b, c, by rw [d]; rfl⟩⟩
theorem ba_refl (a : ByteArray) : (a == a) = true := by
 show (a.data == a.data) = true
 exact beq_self_eq_true _
theorem cur_refl (c : GCursor) : (c.Data == c.Data && (c.At == c.At && (c.End == c.End && (c.Depth == c.Depth && (c.Nodes == c.Nodes && (c.Text == c.Text && true)))))) = true := by simp [ba_refl]
theorem scalars_j (p : GPlan) (hp : OkPlan p) (c : GCursor) (hc : OkCur c) (v : GValue) (hv : OkD v) (h1 : c.Data.size <= 3000) (h2 : v.Text.size <= 5000) (o : GOp) : law28_RowScalars_j2 p c v o.Num o.Name o.Alias o.Card o.Key o.Kind o.Target o.Union true := by
 have okv := hv.okv
 have okc := hc.okc
 obtain ⟨k1, k2⟩ := scal_kind p o.Kind o.Target c okc
 have ps := putV_size v okv h2
 refine law28_RowScalars_j2_step _ _ _ _ _ _ _ _ _ _ _ _ ⟨_, scalar_is p hp.oke o c okc, _, rscalar_is p hp.oke o c okc, _, putrow_ok v okv, _, same_same (SameV.refl _) k1 k2 k2, fun b => b = false, fun b hb => ⟨fun h => (by rw [hb] at h; cases h), fun _ => ⟨fun h => ⟨_, awake_is, rfl⟩, fun h => ?_⟩⟩, fun h => ?_, fun h => ⟨_, rputrow_ok v okv, by simp⟩⟩
 ·simp only [Bool.or_eq_false_iff, decide_eq_false_iff_not, beq_eq_false_iff_ne] at h
  refine ⟨by omega, _, ref02_Open_step _ _ _ ⟨fun h => by simp at h, fun _ => ⟨fun h => ?_, fun _ => rfl⟩⟩, ?_⟩
  ·simp only [decide_eq_true_eq, ba_size] at h; omega
  ·obtain ⟨y, e1, e2, e3⟩ := read_put p v okv c.Data h.1 h.2 (by omega)
   have hs := scalar_is p hp.oke ⟨0, ⟨#[]⟩, ⟨#[]⟩, 0, 0, v.Kind, -1, 0⟩ (atS (putV v ++ c.Data)) (ok_at _ (by rw [ba_size]; omega))
   obtain ⟨q1, q2⟩ := scal_kind p v.Kind (-1) (atS (putV v ++ c.Data)) (ok_at _ (by rw [ba_size]; omega))
   have hs' : row_Scalar p ⟨0, ⟨#[]⟩, ⟨#[]⟩, 0, 0, v.Kind, -1, 0⟩ (atS (putV v ++ c.Data)) (scalV p v.Kind (-1) (atS (putV v ++ c.Data))) := hs
   rw [e1] at hs' q1 q2
   exact ⟨_, hs', fun _ => ⟨_, same_same e2 q1 q2 ⟨okv.b0, okv.b1⟩, fun _ => ⟨_, awake_is, rfl⟩, fun h => by cases h⟩, fun h => by simp [behindC, atS] at h⟩
 ·exfalso
  rw [cur_refl] at h
  simp at h
theorem rowScalars_is (p : GPlan) (hp : OkPlan p) (q : GS26) (c : GCursor) (hc : OkCur c) (v : GValue) (hv : OkD v) : law28_RowScalars p q c v true := by
 obtain ⟨b, hb, _⟩ := t_usable p hp
 have b1 := sz_le hp.np
 refine law28_RowScalars_step _ _ _ _ _ ⟨_, hb, fun _ => rfl, fun h => ?_⟩
 simp only [Bool.or_eq_false_iff, decide_eq_false_iff_not] at h
 have go := scalars_j p hp c hc v hv (by omega) (by omega)
 refine ⟨fun b => b = true -> 0 <= q.a0 /\ q.a0 < (p.Progs.length : Int) /\ 0 <= q.a1 /\ ∀ g, p.Progs[q.a0.toNat]? = some g -> q.a1 < (g.Ops.length : Int), fun b hb => ⟨fun h => ?_, fun _ => go ⟨0, ⟨#[]⟩, ⟨#[]⟩, 0, 0, 0, 0, 0⟩⟩, fun h => ?_, fun _ h => by cases h⟩
 ·obtain ⟨q1, q2, q3, q4⟩ := hb h
  have hg : p.Progs[q.a0.toNat]? = some p.Progs[q.a0.toNat] := List.getElem?_eq_getElem (by omega)
  have h5 := q4 _ hg
  exact ⟨_, hg, q1, _, List.getElem?_eq_getElem (show q.a1.toNat < _ by omega), q3, go _⟩
 ·simp only [Bool.and_eq_true, decide_eq_true_eq] at h
  have hg : p.Progs[q.a0.toNat]? = some p.Progs[q.a0.toNat] := List.getElem?_eq_getElem (by omega)
  refine ⟨_, hg, h.1.1, fun h3 => ⟨h.1.1, h.1.2, h.2, fun g hg2 => ?_⟩⟩
  rw [hg] at hg2; cases hg2
  exact of_decide_eq_true h3
end Go.Proofs.YtidmmngcijapcaaGreat.Lift
