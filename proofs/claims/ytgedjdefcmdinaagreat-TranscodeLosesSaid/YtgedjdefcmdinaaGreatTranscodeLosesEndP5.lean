/- Part 6 of the texts that prove TranscodeLosesEnd. -/
import Derived.Test.YtgedjdefcmdinaaGreatTranscodeLosesEndP2
import Derived.Test.YtgedjdefcmdinaaGreatProg
import Derived.Test.YtgedjdefcmdinaaGreatTranscodeLosesEndP3
import Derived.WalkKit
import Derived.ProofKit
import Derived.Lib.Builder
import Derived.Laws.Externs
import Derived.Test.YtgedjdefcmdinaaGreatTranscodeLosesEndP4
namespace Go.Proofs.YtgedjdefcmdinaaGreat.Lift
open Go.RowKit
set_option linter.unusedVariables false
set_option linter.unusedSimpArgs false
set_option linter.unnecessarySimpa false
set_option linter.unusedSectionVars false
set_option maxRecDepth 100000
def r211_0 : LO := [o 4 (mb false)]
def r211_1 : LO := [o 5 (mv 0), o 6 (mv 1), o 7 (.call (cf 242) [(T 5), (T 6)]), o 8 (.bin .geq (T 7) (ci 0)), o 4 (mv 8)]
def k211_1 : ACode := .seq (.region r211_0) (.seq (.region r211_1) .ret)
theorem fn211 : getFn Tryz.prog 211 = some (9, k211_1, [.tmp 4]) := by kernel_rfl
def r212_0 : LO := [o 4 (.mv (.c .nil))]
def r212_1 : LO := [o 5 (mv 0), o 6 (mv 1), o 7 (.call (cf 243) [(T 5), (T 6), (ci 0), (ci (-1))]), o 4 (mv 7)]
def k212_1 : ACode := .seq (.region r212_0) (.seq (.region r212_1) .ret)
theorem fn212 : getFn Tryz.prog 212 = some (8, k212_1, [.tmp 4]) := by kernel_rfl
def r213_0 : LO := [o 2 (mb false)]
def r213_1 : LO := [o 3 (mv 0)]
def r213_2 : LO := [o 5 (.bin .eql (T 3) (.c (aS ⟨#[109, 101, 115, 115, 97, 103, 101]⟩))), o 4 (mv 5)]
def r213_4 : LO := [o 6 (.bin .eql (T 3) (.c (aS ⟨#[101, 110, 117, 109]⟩))), o 4 (mv 6)]
def r213_6 : LO := [o 7 (.bin .eql (T 3) (.c (aS ⟨#[115, 101, 114, 118, 105, 99, 101]⟩))), o 4 (mv 7)]
def r213_8 : LO := [o 8 (.bin .eql (T 3) (.c (aS ⟨#[117, 110, 105, 111, 110]⟩))), o 4 (mv 8)]
def r213_10 : LO := [o 9 (.bin .eql (T 3) (.c (aS ⟨#[109, 97, 112]⟩))), o 4 (mv 9)]
def r213_12 : LO := [o 10 (.bin .eql (T 3) (.c (aS ⟨#[108, 105, 115, 116]⟩))), o 4 (mv 10)]
def r213_14 : LO := [o 11 (.bin .eql (T 3) (.c (aS ⟨#[114, 101, 113, 117, 105, 114, 101, 100]⟩))), o 4 (mv 11)]
def r213_16 : LO := [o 12 (.bin .eql (T 3) (.c (aS ⟨#[111, 112, 116, 105, 111, 110, 97, 108]⟩))), o 4 (mv 12)]
def r213_18 : LO := [o 13 (.bin .eql (T 3) (.c (aS ⟨#[112, 108, 97, 105, 110]⟩))), o 4 (mv 13)]
def r213_20 : LO := [o 14 (.bin .eql (T 3) (.c (aS ⟨#[100, 101, 102, 97, 117, 108, 116]⟩))), o 4 (mv 14)]
def r213_22 : LO := [o 15 (.bin .eql (T 3) (.c (aS ⟨#[114, 101, 115, 101, 114, 118, 101, 100]⟩))), o 4 (mv 15)]
def k213_1 : ACode := .cond (T 4) .skip (.seq (.region r213_20) (.cond (T 4) .skip (.region r213_22)))
def k213_2 : ACode := .seq (.region r213_16) (.cond (T 4) .skip (.seq (.region r213_18) k213_1))
def k213_3 : ACode := .cond (T 4) .skip (.seq (.region r213_14) (.cond (T 4) .skip k213_2))
def k213_4 : ACode := .seq (.region r213_10) (.cond (T 4) .skip (.seq (.region r213_12) k213_3))
def k213_5 : ACode := .cond (T 4) .skip (.seq (.region r213_8) (.cond (T 4) .skip k213_4))
def k213_6 : ACode := .seq (.region r213_4) (.cond (T 4) .skip (.seq (.region r213_6) k213_5))
def r213_43 : LO := [o 2 (mb true)]
def r213_46 : LO := [o 17 (.bin .eql (T 3) (.c (aS ⟨#[105, 109, 112, 111, 114, 116]⟩))), o 16 (mv 17)]
def r213_48 : LO := [o 18 (.bin .eql (T 3) (.c (aS ⟨#[115, 112, 97, 99, 101]⟩))), o 16 (mv 18)]
def r213_50 : LO := [o 19 (.bin .eql (T 3) (.c (aS ⟨#[114, 112, 99]⟩))), o 16 (mv 19)]
def r213_52 : LO := [o 20 (.bin .eql (T 3) (.c (aS ⟨#[115, 116, 114, 101, 97, 109]⟩))), o 16 (mv 20)]
def r213_54 : LO := [o 21 (.bin .eql (T 3) (.c (aS ⟨#[114, 101, 116, 117, 114, 110, 115]⟩))), o 16 (mv 21)]
def r213_56 : LO := [o 22 (.bin .eql (T 3) (.c (aS ⟨#[111, 112, 101, 110]⟩))), o 16 (mv 22)]
def r213_58 : LO := [o 23 (.bin .eql (T 3) (.c (aS ⟨#[116, 114, 117, 101]⟩))), o 16 (mv 23)]
def r213_60 : LO := [o 24 (.bin .eql (T 3) (.c (aS ⟨#[102, 97, 108, 115, 101]⟩))), o 16 (mv 24)]
def r213_62 : LO := [o 25 (.bin .eql (T 3) (.c (aS ⟨#[110, 97, 110]⟩))), o 16 (mv 25)]
def r213_64 : LO := [o 26 (.bin .eql (T 3) (.c (aS ⟨#[105, 110, 102]⟩))), o 16 (mv 26)]
def k213_7 : ACode := .seq (.region r213_62) (.cond (T 16) .skip (.region r213_64))
def k213_8 : ACode := .cond (T 16) .skip (.seq (.region r213_60) (.cond (T 16) .skip k213_7))
def k213_9 : ACode := .seq (.region r213_56) (.cond (T 16) .skip (.seq (.region r213_58) k213_8))
def k213_10 : ACode := .cond (T 16) .skip (.seq (.region r213_54) (.cond (T 16) .skip k213_9))
def k213_11 : ACode := .seq (.region r213_50) (.cond (T 16) .skip (.seq (.region r213_52) k213_10))
def k213_12 : ACode := .cond (T 16) .skip (.seq (.region r213_48) (.cond (T 16) .skip k213_11))
def r213_83 : LO := [o 2 (mb true)]
def k213_13 : ACode := .seq (.seq (.region r213_46) k213_12) (.cond (T 16) (.seq (.region r213_83) .ret) .skip)
def k213_14 : ACode := .seq (.seq (.region r213_2) (.cond (T 4) .skip k213_6)) (.cond (T 4) (.seq (.region r213_43) .ret) k213_13)
def r213_93 : LO := [o 2 (mb false)]
def k213_15 : ACode := .seq (.seq (.region r213_1) (.block 0 k213_14)) (.seq (.region r213_93) .ret)
def k213_16 : ACode := .seq (.region r213_0) k213_15
theorem fn213 : getFn Tryz.prog 213 = some (27, k213_16, [.tmp 2]) := by kernel_rfl
def r214_0 : LO := [o 4 (mb false)]
def r214_1 : LO := [o 5 (mv 0), o 6 (mv 1), o 7 (.call (cf 202) [(T 5), (T 6)]), o 8 (.bin .geq (T 7) (ci 0)), o 4 (mv 8)]
def k214_1 : ACode := .seq (.region r214_0) (.seq (.region r214_1) .ret)
theorem fn214 : getFn Tryz.prog 214 = some (9, k214_1, [.tmp 4]) := by kernel_rfl
def r215_0 : LO := [o 2 (mb false)]
def r215_1 : LO := [o 6 (mv 0), o 7 (.range (T 6))]
def r215_2 : LO := [o 8 (.next (T 7)), o 9 (.extract 0 (T 8))]
def r215_6 : LO := [o 10 (.extract 1 (T 8)), o 11 (.extract 2 (T 8)), o 3 (mv 10), o 4 (mv 11)]
def r215_7 : LO := [o 12 (mv 4), o 13 (.call (cf 244) [(T 12)]), o 5 (mv 13)]
def r215_8 : LO := [o 14 (mv 5), o 15 (.bin .eql (T 14) (ci 0)), o 16 (mv 15), og 17 (mv 3) 16 false, og 18 (.bin .eql (T 17) (ci 0)) 16 false, og 19 (mv 18) 16 false, og 20 (mv 5) 19 true, og 21 (.bin .neq (T 20) (ci 1)) 19 true, og 22 (.pick (T 19) (T 21) (cb false)) 16 false, og 23 (mv 22) 16 false, og 24 (mv 5) 23 true, og 25 (.bin .neq (T 24) (ci 2)) 23 true, og 26 (.pick (T 23) (T 25) (cb false)) 16 false, o 27 (.pick (T 16) (cb true) (T 26))]
def r215_9 : LO := [o 2 (mb false)]
def k215_1 : ACode := .seq (.region r215_8) (.cond (T 27) (.seq (.region r215_9) .ret) .skip)
def k215_2 : ACode := .block 1 (.seq (.region r215_6) (.seq (.region r215_7) k215_1))
def k215_3 : ACode := .seq (.region r215_2) (.seq (.cond (T 9) .skip (.exit 0)) k215_2)
def r215_23 : LO := [o 28 (mv 0), o 29 (.len true (T 28)), o 30 (.bin .geq (T 29) (ci 1)), o 31 (mv 30), og 32 (mv 0) 31 true, og 33 (.len true (T 32)) 31 true, og 34 (.bin .leq (T 33) (ci 40)) 31 true, o 35 (.pick (T 31) (T 34) (cb false)), o 2 (mv 35)]
def k215_4 : ACode := .seq (.seq (.region r215_1) (.block 0 (.loop k215_3))) (.seq (.region r215_23) .ret)
def k215_5 : ACode := .seq (.region r215_0) k215_4
theorem fn215 : getFn Tryz.prog 215 = some (36, k215_5, [.tmp 2]) := by kernel_rfl
def r217_0 : LO := [o 3 (bx 0), o 4 (mb false)]
def r217_1 : LO := [o 5 (ld 1), o 6 (ln 8 3), o 7 (.call (T 5) [(T 6)]), o 8 (ld 1), o 9 (ln 8 2)]
def r217_1t : LO := [o 10 (.call (T 8) [(T 9)]), o 11 (.bin .eql (T 7) (T 10)), o 4 (mv 11)]
def r217_1o : LN := [[], [], [0, 1], [], []]
def k217_1 : ACode := .seq (.region r217_0) (.seq (.drawn r217_1o r217_1 r217_1t) .ret)
theorem fn217 : getFn Tryz.prog 217 = some (12, k217_1, [.tmp 4]) := by kernel_rfl
def r221_0 : LO := [o 2 (mi 0)]
def r221_1 : LO := [o 5 (mv 0), o 6 (.range (T 5))]
def r221_2 : LO := [o 7 (.next (T 6)), o 8 (.extract 0 (T 7))]
def r221_6 : LO := [o 9 (.extract 1 (T 7)), o 10 (.extract 2 (T 7)), o 3 (mv 9), o 4 (mv 10)]
def r221_7 : LO := [o 11 (mv 0), o 12 (mv 3), o 13 (mv 4), o 14 (.call (cf 248) [(T 11), (T 12), (T 13)])]
def r221_8 : LO := [o 15 (mv 3), o 2 (mv 15)]
def k221_1 : ACode := .seq (.region r221_7) (.cond (T 14) (.seq (.region r221_8) .ret) .skip)
def k221_2 : ACode := .seq (.cond (T 8) .skip (.exit 0)) (.block 1 (.seq (.region r221_6) k221_1))
def k221_3 : ACode := .seq (.region r221_2) k221_2
def r221_21 : LO := [o 2 (mi (-1))]
def k221_4 : ACode := .seq (.seq (.region r221_1) (.block 0 (.loop k221_3))) (.seq (.region r221_21) .ret)
def k221_5 : ACode := .seq (.region r221_0) k221_4
theorem fn221 : getFn Tryz.prog 221 = some (16, k221_5, [.tmp 2]) := by kernel_rfl
def r223_0 : LO := [o 4 (mi 0)]
def r223_1 : LO := [o 6 (mv 0), o 7 (.len false (T 6)), o 8 (mi 0)]
def r223_2 : LO := [o 9 (.bin .lss (T 8) (T 7))]
def r223_6 : LO := [o 10 (mv 8), o 5 (mv 10)]
def r223_7 : LO := [o 11 (mv 1), o 12 (mv 0), o 13 (mv 5), o 14 (.idxSl 1 (T 12) (T 13)), o 15 (ld 14), o 16 (.eq .bool true (T 11) (T 15))]
def r223_8 : LO := [o 17 (mv 5), o 4 (mv 17)]
def k223_1 : ACode := .seq (.region r223_7) (.cond (T 16) (.seq (.region r223_8) .ret) .skip)
def r223_16 : LO := [o 18 (.bin .add (T 8) (ci 1)), o 8 (mv 18)]
def k223_2 : ACode := .seq (.block 1 (.seq (.region r223_6) k223_1)) (.region r223_16)
def k223_3 : ACode := .seq (.region r223_2) (.seq (.cond (T 9) .skip (.exit 0)) k223_2)
def r223_23 : LO := [o 4 (mi (-1))]
def k223_4 : ACode := .seq (.seq (.region r223_1) (.block 0 (.loop k223_3))) (.seq (.region r223_23) .ret)
def k223_5 : ACode := .seq (.region r223_0) k223_4
theorem fn223 : getFn Tryz.prog 223 = some (19, k223_5, [.tmp 4]) := by kernel_rfl
def r224_0 : LO := [o 4 (bx 0), o 5 (bx 1), o 6 (bx 2), o 8 (mi 0)]
def r224_1 : LO := [o 9 (fa 5 5), o 10 (ld 9), o 11 (.bin .eql (T 10) (ci 10))]
def r224_2 : LO := [o 12 (ln 2 4), o 13 (fa 0 4), o 14 (fa 0 13), o 15 (ld 14), o 16 (fa 6 5), o 17 (ld 16), o 18 (.idxSl 3 (T 15) (T 17)), o 19 (ln 3 18), o 20 (ln 7 6), o 21 (mv 3), o 22 (.bin .add (T 21) (ci 1))]
def r224_2t : LO := [o 23 (.call (cf 77) [(T 12), (T 19), (T 20), (T 22)]), o 8 (mv 23)]
def r224_2o : LN := [[], [], [1], [2], [], [4], [3, 5], [6], [], [], [9]]
def k224_1 : ACode := .cond (T 11) (.seq (.drawn r224_2o r224_2 r224_2t) .ret) .skip
def r224_8 : LO := [o 24 (ln 2 4), o 25 (fa 5 5), o 26 (ld 25), o 27 (fa 6 5), o 28 (ld 27), o 29 (ln 7 6), o 30 (.call (cf 251) [(T 24), (T 26), (T 28), (T 29)]), o 8 (mv 30)]
def k224_2 : ACode := .seq (.seq (.region r224_1) k224_1) (.seq (.region r224_8) .ret)
def k224_3 : ACode := .seq (.region r224_0) k224_2
theorem fn224 : getFn Tryz.prog 224 = some (31, k224_3, [.tmp 8]) := by kernel_rfl
def r227_0 : LO := [o 3 (bx 1), o 4 (.alloc [(aI 0), (aI 0), (aU 0), aE])]
def r227_1 : LO := [o 5 (mv 0), o 6 (fa 0 3), on (st 1 6 5)]
def r227_2 : LO := [o 7 (ln 4 3), on (st 4 4 7)]
def k227_1 : ACode := .seq (.region r227_0) (.seq (.region r227_1) (.seq (.region r227_2) .ret))
theorem fn227 : getFn Tryz.prog 227 = some (8, k227_1, [.cell 4 (some 4)]) := by kernel_rfl
def r228_0 : LO := [o 1 (bx 0), o 2 (.alloc [(aI 0), (aI 0), (aU 0), aE])]
def r228_1 : LO := [o 3 (fa 0 1), o 4 (ld 3)]
def r228_2 : LO := [o 6 (.bin .eql (T 4) (ci 1)), o 5 (mv 6)]
def r228_4 : LO := [o 7 (.bin .eql (T 4) (ci 4)), o 5 (mv 7)]
def r228_6 : LO := [o 8 (.bin .eql (T 4) (ci 5)), o 5 (mv 8)]
def r228_8 : LO := [o 9 (.bin .eql (T 4) (ci 9)), o 5 (mv 9)]
def k228_1 : ACode := .cond (T 5) .skip (.seq (.region r228_6) (.cond (T 5) .skip (.region r228_8)))
def k228_2 : ACode := .seq (.region r228_2) (.cond (T 5) .skip (.seq (.region r228_4) k228_1))
def r228_15 : LO := [o 10 (fa 1 1), o 11 (ld 10), o 12 (.build [(aI 0), (aI 0), (aU 0), aE] [((1, 1), (ci 0)), ((2, 1), (T 11))]), on (st 4 2 12)]
def r228_18 : LO := [o 14 (.bin .eql (T 4) (ci 2)), o 13 (mv 14)]
def r228_20 : LO := [o 15 (.bin .eql (T 4) (ci 3)), o 13 (mv 15)]
def k228_3 : ACode := .seq (.region r228_18) (.cond (T 13) .skip (.region r228_20))
def r228_23 : LO := [o 16 (fa 1 1), o 17 (ld 16), o 18 (.conv (.num .i64) (T 17)), o 19 (.call (cf 254) [(T 18)]), o 20 (.build [(aI 0), (aI 0), (aU 0), aE] [((1, 1), (ci 1)), ((2, 1), (T 19))]), on (st 4 2 20)]
def r228_26 : LO := [o 22 (.bin .eql (T 4) (ci 6)), o 21 (mv 22)]
def r228_27 : LO := [o 23 (ln 7 1), o 24 (.call (cf 130) [(T 23)]), o 25 (.field none 1 (T 24)), o 26 (.build [(aI 0), (aI 0), (aU 0), aE] [((1, 1), (ci 2)), ((2, 1), (T 25))]), on (st 4 2 26)]
def r228_30 : LO := [o 28 (.bin .eql (T 4) (ci 7)), o 27 (mv 28)]
def r228_32 : LO := [o 29 (.bin .eql (T 4) (ci 8)), o 27 (mv 29)]
def k228_4 : ACode := .seq (.region r228_30) (.cond (T 27) .skip (.region r228_32))
def r228_35 : LO := [o 30 (fa 2 1), o 31 (ld 30), o 32 (.build [(aI 0), (aI 0), (aU 0), aE] [((1, 1), (ci 3)), ((3, 1), (T 31))]), on (st 4 2 32)]
def k228_5 : ACode := .seq k228_4 (.cond (T 27) (.seq (.region r228_35) .ret) .skip)
def k228_6 : ACode := .seq (.region r228_26) (.cond (T 21) (.seq (.region r228_27) .ret) k228_5)
def k228_7 : ACode := .seq k228_3 (.cond (T 13) (.seq (.region r228_23) .ret) k228_6)
def k228_8 : ACode := .seq k228_2 (.cond (T 5) (.seq (.region r228_15) .ret) k228_7)
def r228_49 : LO := [o 33 (.build [(aI 0), (aI 0), (aU 0), aE] []), on (st 4 2 33)]
def k228_9 : ACode := .seq (.seq (.region r228_1) (.block 0 k228_8)) (.seq (.region r228_49) .ret)
def k228_10 : ACode := .seq (.region r228_0) k228_9
theorem fn228 : getFn Tryz.prog 228 = some (34, k228_10, [.cell 2 (some 4)]) := by kernel_rfl
def r229_0 : LO := [o 3 (bx 0), o 4 (bx 1), o 5 (bx 2), o 6 (.alloc [(aI 0), (aI 0), (aU 0), aE])]
def r229_1 : LO := [o 7 (fa 5 4), o 8 (ld 7), o 9 (.bin .eql (T 8) (ci 10))]
def r229_2 : LO := [o 10 (ln 2 3), o 11 (fa 6 4), o 12 (ld 11), o 13 (ln 7 5), o 14 (.call (cf 67) [(T 10), (T 12), (T 13)]), o 15 (.build [(aI 0), (aI 0), (aU 0), aE] [((1, 1), (ci 4)), ((3, 1), (T 14))]), on (st 4 6 15)]
def k229_1 : ACode := .seq (.region r229_1) (.cond (T 9) (.seq (.region r229_2) .ret) .skip)
def r229_8 : LO := [o 16 (ln 7 5), o 17 (.call (cf 228) [(T 16)]), on (st 4 6 17)]
def k229_2 : ACode := .seq (.region r229_0) (.seq k229_1 (.seq (.region r229_8) .ret))
theorem fn229 : getFn Tryz.prog 229 = some (18, k229_2, [.cell 6 (some 4)]) := by kernel_rfl
def r233_0 : LO := [o 2 (bx 0), o 4 (.mv (.c aE)), o 5 (.alloc [aE, (aI 0), (aI 0), (aI 0), (aI 0), (aI 0)]), o 6 (mi 0)]
def r233_1 : LO := [o 8 (mv 1), o 9 (.bin .lss (T 8) (ci 0)), o 7 (mv 9)]
def r233_2 : LO := [o 10 (ln 6 2), o 4 (.mv (.c aE))]
def r233_2t : LO := [on (st 6 5 10), o 6 (mi 1)]
def r233_2o : LN := [[], []]
def r233_5 : LO := [o 12 (mv 1), o 13 (ln 6 2), o 14 (.call (cf 82) [(T 13)]), o 15 (.bin .gtr (T 12) (T 14)), o 11 (mv 15)]
def r233_6 : LO := [o 16 (ln 6 2), o 4 (.mv (.c aE))]
def r233_6t : LO := [on (st 6 5 16), o 6 (mi 4)]
def r233_6o : LN := [[], []]
def r233_9 : LO := [o 18 (mv 1), o 19 (fa 5 2), o 20 (ld 19), o 21 (.bin .gtr (T 18) (T 20)), o 17 (mv 21)]
def r233_10 : LO := [o 22 (ln 6 2), o 4 (.mv (.c aE))]
def r233_10t : LO := [on (st 6 5 22), o 6 (mi 3)]
def r233_10o : LN := [[], []]
def k233_1 : ACode := .cond (T 17) (.seq (.drawn r233_10o r233_10 r233_10t) .ret) .skip
def k233_2 : ACode := .cond (T 11) (.seq (.drawn r233_6o r233_6 r233_6t) .ret) (.seq (.region r233_9) k233_1)
def k233_3 : ACode := .cond (T 7) (.seq (.drawn r233_2o r233_2 r233_2t) .ret) (.seq (.region r233_5) k233_2)
def r233_21 : LO := [o 23 (mv 1), o 24 (.bin .eql (T 23) (ci 0))]
def r233_22 : LO := [o 25 (ln 6 2), o 4 (.mv (.c aE))]
def r233_22t : LO := [on (st 6 5 25), o 6 (mi 0)]
def r233_22o : LN := [[], []]
def k233_4 : ACode := .cond (T 24) (.seq (.drawn r233_22o r233_22 r233_22t) .ret) .skip
def r233_28 : LO := [o 26 (ln 6 2), o 27 (mv 1), o 28 (.call (cf 255) [(T 26), (T 27)]), o 29 (.conv .str (T 28)), o 30 (ln 6 2), o 31 (mv 1), o 32 (.call (cf 187) [(T 30), (T 31)])]
def r233_28t : LO := [o 4 (mv 29), on (st 6 5 32), o 6 (mi 0)]
def r233_28o : LN := [[], [], [0, 1], [2], [], [], [2, 4, 5]]
def k233_5 : ACode := .seq (.seq (.region r233_21) k233_4) (.seq (.drawn r233_28o r233_28 r233_28t) .ret)
def k233_6 : ACode := .seq (.region r233_0) (.seq (.block 0 (.seq (.region r233_1) k233_3)) k233_5)
theorem fn233 : getFn Tryz.prog 233 = some (33, k233_6, [.tmp 4, .cell 5 (some 6), .tmp 6]) := by kernel_rfl
def r235_0 : LO := [o 3 (bx 1), o 4 (mb false)]
def r235_1 : LO := [o 5 (mv 0), o 6 (.call (cf 34) [(T 5)]), o 7 (.un .not (T 6)), o 8 (mv 7), og 9 (fa 0 3) 8 false, og 10 (ld 9) 8 false, og 11 (mv 0) 8 false, og 12 (.bin .neq (T 10) (T 11)) 8 false, o 13 (.pick (T 8) (cb true) (T 12)), o 14 (mv 13), og 15 (ln 7 3) 14 false, og 16 (.call (cf 205) [(T 15)]) 14 false, og 17 (.un .not (T 16)) 14 false, o 18 (.pick (T 14) (cb true) (T 17)), o 19 (mv 18), og 20 (mv 0) 19 false, og 21 (fa 1 3) 19 false, og 22 (ld 21) 19 false, og 23 (.call (cf 256) [(T 20), (T 22)]) 19 false, og 24 (.un .not (T 23)) 19 false, o 25 (.pick (T 19) (cb true) (T 24)), o 26 (mv 25), og 27 (fa 2 3) 26 false, og 28 (ld 27) 26 false, og 29 (.len true (T 28)) 26 false, og 30 (.bin .gtr (T 29) (ci 4096)) 26 false, o 31 (.pick (T 26) (cb true) (T 30))]
def r235_2 : LO := [o 4 (mb false)]
def k235_1 : ACode := .seq (.region r235_1) (.cond (T 31) (.seq (.region r235_2) .ret) .skip)
def r235_8 : LO := [o 32 (mv 0), o 33 (.bin .neq (T 32) (ci 7)), o 34 (mv 33), og 35 (fa 2 3) 34 false, og 36 (ld 35) 34 false, og 37 (.call (cf 168) [(T 36)]) 34 false, o 38 (.pick (T 34) (cb true) (T 37)), o 4 (mv 38)]
def k235_2 : ACode := .seq (.region r235_0) (.seq k235_1 (.seq (.region r235_8) .ret))
theorem fn235 : getFn Tryz.prog 235 = some (39, k235_2, [.tmp 4]) := by kernel_rfl
def r237_0 : LO := [o 10 (mv 1), o 11 (.bin .add (T 10) (ci 1)), o 8 (mv 11)]
def r237_1 : LO := [o 12 (mv 8), o 13 (mv 2), o 14 (.bin .lss (T 12) (T 13))]
def r237_6 : LO := [o 17 (mv 8), o 9 (mv 17)]
def r237_7 : LO := [o 18 (mv 9), o 19 (mv 1), o 20 (.bin .gtr (T 18) (T 19)), o 21 (mv 20), og 22 (mv 3) 21 true, og 23 (mv 0) 21 true, og 24 (mv 9) 21 true, og 25 (.idxSl 8 (T 23) (T 24)) 21 true, og 26 (ln 8 25) 21 true, og 27 (mv 0) 21 true, og 28 (mv 9) 21 true, og 29 (.bin .sub (T 28) (ci 1)) 21 true, og 30 (.idxSl 8 (T 27) (T 29)) 21 true, og 31 (ln 8 30) 21 true]
def r237_7t : LO := [og 32 (.call (T 22) [(T 26), (T 31)]) 21 true, og 33 (.bin .lss (T 32) (ci 0)) 21 true, o 34 (.pick (T 21) (T 33) (cb false))]
def r237_7o : LN := [[], [], [0, 1], [2], [3], [3], [3], [3, 5, 6], [3, 7], [3], [3], [3, 10], [3, 9, 11], [3, 12]]
def k237_1 : ACode := .seq (.drawn r237_7o r237_7 r237_7t) (.cond (T 34) .skip (.exit 2))
def r237_12 : LO := [o 37 (mv 0), o 38 (mv 9), o 39 (mv 0), o 40 (mv 9), o 41 (.bin .sub (T 40) (ci 1)), o 42 (mv 0), o 43 (mv 9), o 44 (.bin .sub (T 43) (ci 1)), o 45 (.idxSl 8 (T 42) (T 44)), o 46 (ln 8 45), o 47 (mv 0), o 48 (mv 9), o 49 (.idxSl 8 (T 47) (T 48)), o 50 (ln 8 49), o 51 (.idxSl 8 (T 37) (T 38)), on (st 8 51 46)]
def r237_12t : LO := [o 52 (.idxSl 8 (T 39) (T 41)), on (st 8 52 50)]
def r237_12o : LN := [[], [], [], [], [3], [], [], [6], [5, 7], [8], [], [], [10, 11], [12], [0, 1, 5, 6, 7, 8, 9, 13], [0, 1, 5, 6, 7, 8, 9, 13, 14]]
def r237_14 : LO := [o 35 (mv 9), o 36 (.bin .sub (T 35) (ci 1)), o 9 (mv 36)]
def k237_2 : ACode := .seq (.block 3 (.drawn r237_12o r237_12 r237_12t)) (.region r237_14)
def k237_3 : ACode := .seq k237_1 k237_2
def r237_21 : LO := [o 15 (mv 8), o 16 (.bin .add (T 15) (ci 1)), o 8 (mv 16)]
def k237_4 : ACode := .seq (.block 1 (.seq (.region r237_6) (.block 2 (.loop k237_3)))) (.region r237_21)
def k237_5 : ACode := .seq (.seq (.region r237_1) (.cond (T 14) .skip (.exit 0))) k237_4
def k237_6 : ACode := .seq (.region r237_0) (.block 0 (.loop k237_5))
theorem fn237 : getFn Tryz.prog 237 = some (53, k237_6, []) := by kernel_rfl
def r241_0 : LO := [o 4 (mi 0)]
def r241_1 : LO := [o 6 (mv 0), o 7 (.len false (T 6)), o 8 (mi 0)]
def r241_2 : LO := [o 9 (.bin .lss (T 8) (T 7))]
def r241_6 : LO := [o 10 (mv 8), o 5 (mv 10)]
def r241_7 : LO := [o 11 (mv 1), o 12 (mv 0), o 13 (mv 5), o 14 (.idxSl 5 (T 12) (T 13)), o 15 (ln 5 14), o 16 (.call (T 11) [(T 15)])]
def r241_8 : LO := [o 17 (mv 5), o 4 (mv 17)]
def k241_1 : ACode := .seq (.region r241_7) (.cond (T 16) (.seq (.region r241_8) .ret) .skip)
def r241_16 : LO := [o 18 (.bin .add (T 8) (ci 1)), o 8 (mv 18)]
def k241_2 : ACode := .seq (.block 1 (.seq (.region r241_6) k241_1)) (.region r241_16)
def k241_3 : ACode := .seq (.region r241_2) (.seq (.cond (T 9) .skip (.exit 0)) k241_2)
def r241_23 : LO := [o 4 (mi (-1))]
def k241_4 : ACode := .seq (.seq (.region r241_1) (.block 0 (.loop k241_3))) (.seq (.region r241_23) .ret)
def k241_5 : ACode := .seq (.region r241_0) k241_4
theorem fn241 : getFn Tryz.prog 241 = some (19, k241_5, [.tmp 4]) := by kernel_rfl
def r242_0 : LO := [o 4 (mi 0)]
def r242_1 : LO := [o 6 (mv 0), o 7 (.len false (T 6)), o 8 (mi 0)]
def r242_2 : LO := [o 9 (.bin .lss (T 8) (T 7))]
def r242_6 : LO := [o 10 (mv 8), o 5 (mv 10)]
def r242_7 : LO := [o 11 (mv 1), o 12 (mv 0), o 13 (mv 5), o 14 (.idxSl 1 (T 12) (T 13)), o 15 (ld 14), o 16 (.call (T 11) [(T 15)])]
def r242_8 : LO := [o 17 (mv 5), o 4 (mv 17)]
def k242_1 : ACode := .seq (.region r242_7) (.cond (T 16) (.seq (.region r242_8) .ret) .skip)
def r242_16 : LO := [o 18 (.bin .add (T 8) (ci 1)), o 8 (mv 18)]
def k242_2 : ACode := .seq (.block 1 (.seq (.region r242_6) k242_1)) (.region r242_16)
def k242_3 : ACode := .seq (.region r242_2) (.seq (.cond (T 9) .skip (.exit 0)) k242_2)
def r242_23 : LO := [o 4 (mi (-1))]
def k242_4 : ACode := .seq (.seq (.region r242_1) (.block 0 (.loop k242_3))) (.seq (.region r242_23) .ret)
def k242_5 : ACode := .seq (.region r242_0) k242_4
theorem fn242 : getFn Tryz.prog 242 = some (19, k242_5, [.tmp 4]) := by kernel_rfl
def r243_0 : LO := [o 8 (.mv (.c .nil))]
def r243_1 : LO := [o 12 (mv 3), o 13 (.bin .eql (T 12) (ci 0))]
def r243_2 : LO := [o 8 (.mv (.c .nil))]
def k243_1 : ACode := .seq (.region r243_1) (.cond (T 13) (.seq (.region r243_2) .ret) .skip)
def r243_8 : LO := [o 14 (mv 1), o 15 (.bin .eql (T 14) (.c aE))]
def r243_9 : LO := [o 16 (mv 0), o 17 (mv 3), o 18 (.call (cf 261) [(T 16), (T 17)]), o 8 (mv 18)]
def k243_2 : ACode := .seq (.region r243_8) (.cond (T 15) (.seq (.region r243_9) .ret) .skip)
def r243_15 : LO := [o 19 (mv 3), o 20 (.bin .lss (T 19) (ci 0))]
def r243_16 : LO := [o 21 (mv 0), o 22 (mv 1), o 23 (.call (cf 262) [(T 21), (T 22)]), o 24 (.bin .add (T 23) (ci 1)), o 3 (mv 24)]
def k243_3 : ACode := .seq (.region r243_15) (.cond (T 20) (.region r243_16) .skip)
def r243_20 : LO := [o 25 (mv 3), o 26 (mv 0), o 27 (.len true (T 26)), o 28 (.bin .add (T 27) (ci 1)), o 29 (.minmax false [(T 25), (T 28)]), o 3 (mv 29)]
def r243_21 : LO := [o 30 (mv 3), o 31 (.make 1 16 [aE] (T 30) (T 30)), o 9 (mv 31)]
def r243_22 : LO := [o 32 (mv 3), o 33 (.bin .sub (T 32) (ci 1)), o 3 (mv 33)]
def r243_23 : LO := [o 10 (mi 0)]
def r243_24 : LO := [o 34 (mv 10), o 35 (mv 3), o 36 (.bin .lss (T 34) (T 35))]
def r243_29 : LO := [o 37 (mv 0), o 38 (mv 1), o 39 (.call (cf 263) [(T 37), (T 38)]), o 11 (mv 39)]
def r243_30 : LO := [o 40 (mv 11), o 41 (.bin .lss (T 40) (ci 0))]
def r243_35 : LO := [o 42 (mv 9), o 43 (mv 10), o 44 (mv 0), o 45 (mv 11), o 46 (mv 2), o 47 (.bin .add (T 45) (T 46)), o 48 (.sliceS (T 44) none (some (T 47))), o 49 (.idxSl 1 (T 42) (T 43)), on (st 1 49 48)]
def r243_36 : LO := [o 50 (mv 0), o 51 (mv 11), o 52 (mv 1), o 53 (.len true (T 52)), o 54 (.bin .add (T 51) (T 53)), o 55 (.sliceS (T 50) (some (T 54)) none), o 0 (mv 55)]
def r243_37 : LO := [o 56 (mv 10), o 57 (.bin .add (T 56) (ci 1)), o 10 (mv 57)]
def k243_4 : ACode := .seq (.region r243_35) (.seq (.region r243_36) (.region r243_37))
def k243_5 : ACode := .seq (.seq (.region r243_30) (.cond (T 41) (.exit 0) .skip)) k243_4
def k243_6 : ACode := .seq (.seq (.region r243_24) (.cond (T 36) .skip (.exit 0))) (.block 1 (.seq (.region r243_29) k243_5))
def r243_46 : LO := [o 58 (mv 9), o 59 (mv 10), o 60 (mv 0), o 61 (.idxSl 1 (T 58) (T 59)), on (st 1 61 60)]
def r243_47 : LO := [o 62 (mv 9), o 63 (mv 10), o 64 (.bin .add (T 63) (ci 1)), o 65 (.sliceV 1 (T 62) none (some (T 64)) none), o 8 (mv 65)]
def k243_7 : ACode := .seq (.block 0 (.loop k243_6)) (.seq (.region r243_46) (.seq (.region r243_47) .ret))
def k243_8 : ACode := .seq (.region r243_21) (.seq (.region r243_22) (.seq (.region r243_23) k243_7))
def k243_9 : ACode := .seq k243_1 (.seq k243_2 (.seq k243_3 (.seq (.region r243_20) k243_8)))
def k243_10 : ACode := .seq (.region r243_0) k243_9
theorem fn243 : getFn Tryz.prog 243 = some (66, k243_10, [.tmp 8]) := by kernel_rfl
def r244_0 : LO := [o 2 (mi 0)]
def r244_1 : LO := [o 4 (mv 0), o 5 (.bin .geq (T 4) (.c (.v (.int .i32 97)))), o 6 (mv 5), og 7 (mv 0) 6 true, og 8 (.bin .leq (T 7) (.c (.v (.int .i32 122)))) 6 true, o 9 (.pick (T 6) (T 8) (cb false)), o 3 (mv 9)]
def r244_2 : LO := [o 2 (mi 1)]
def r244_5 : LO := [o 11 (mv 0), o 12 (.bin .geq (T 11) (.c (.v (.int .i32 65)))), o 13 (mv 12), og 14 (mv 0) 13 true, og 15 (.bin .leq (T 14) (.c (.v (.int .i32 90)))) 13 true, o 16 (.pick (T 13) (T 15) (cb false)), o 10 (mv 16)]
def r244_6 : LO := [o 2 (mi 2)]
def r244_9 : LO := [o 18 (mv 0), o 19 (.bin .geq (T 18) (.c (.v (.int .i32 48)))), o 20 (mv 19), og 21 (mv 0) 20 true, og 22 (.bin .leq (T 21) (.c (.v (.int .i32 57)))) 20 true, o 23 (.pick (T 20) (T 22) (cb false)), o 17 (mv 23)]
def r244_10 : LO := [o 2 (mi 3)]
def r244_13 : LO := [o 25 (mv 0), o 26 (.bin .eql (T 25) (.c (.v (.int .i32 95)))), o 24 (mv 26)]
def r244_14 : LO := [o 2 (mi 4)]
def k244_1 : ACode := .seq (.region r244_13) (.cond (T 24) (.seq (.region r244_14) .ret) .skip)
def k244_2 : ACode := .seq (.region r244_9) (.cond (T 17) (.seq (.region r244_10) .ret) k244_1)
def k244_3 : ACode := .seq (.region r244_5) (.cond (T 10) (.seq (.region r244_6) .ret) k244_2)
def k244_4 : ACode := .seq (.region r244_1) (.cond (T 3) (.seq (.region r244_2) .ret) k244_3)
def r244_27 : LO := [o 2 (mi 0)]
def k244_5 : ACode := .seq (.region r244_0) (.seq (.block 0 k244_4) (.seq (.region r244_27) .ret))
theorem fn244 : getFn Tryz.prog 244 = some (27, k244_5, [.tmp 2]) := by kernel_rfl
def r248_0 : LO := [o 6 (mb false)]
def r248_1 : LO := [o 7 (mv 2), o 8 (.bin .eql (T 7) (.c (.v (.int .i32 65533)))), o 9 (mv 8), og 10 (mv 0) 9 true, og 11 (mv 1) 9 true, og 12 (.sliceS (T 10) (some (T 11)) none) 9 true, og 13 (.call (cf 265) [(T 12), (.c (aS ⟨#[239, 191, 189]⟩))]) 9 true, og 14 (.un .not (T 13)) 9 true, o 15 (.pick (T 9) (T 14) (cb false)), o 6 (mv 15)]
def k248_1 : ACode := .seq (.region r248_0) (.seq (.region r248_1) .ret)
theorem fn248 : getFn Tryz.prog 248 = some (16, k248_1, [.tmp 6]) := by kernel_rfl
def r251_0 : LO := [o 4 (bx 0), o 7 (bx 3), o 8 (mi 0)]
def r251_1 : LO := [o 10 (fa 0 7), o 11 (ld 10), o 12 (mv 1), o 13 (.bin .neq (T 11) (T 12)), o 14 (mv 13), og 15 (ln 7 7) 14 false, og 16 (.call (cf 101) [(T 15)]) 14 false, o 17 (.pick (T 14) (cb true) (T 16)), o 9 (mv 17)]
def r251_2 : LO := [o 8 (mi 12)]
def r251_5 : LO := [o 19 (fa 2 7), o 20 (ld 19), o 21 (.len true (T 20)), o 22 (.bin .gtr (T 21) (ci 4096)), o 18 (mv 22)]
def r251_6 : LO := [o 8 (mi 3)]
def r251_9 : LO := [o 24 (mv 1), o 25 (.bin .eql (T 24) (ci 7)), o 26 (mv 25), og 27 (fa 2 7) 26 true, og 28 (ld 27) 26 true, og 29 (.call (cf 168) [(T 28)]) 26 true, og 30 (.un .not (T 29)) 26 true, o 31 (.pick (T 26) (T 30) (cb false)), o 23 (mv 31)]
def r251_10 : LO := [o 8 (mi 7)]
def r251_13 : LO := [o 33 (mv 1), o 34 (ln 7 7), o 35 (.call (cf 235) [(T 33), (T 34)]), o 36 (.un .not (T 35)), o 32 (mv 36)]
def r251_14 : LO := [o 8 (mi 12)]
def r251_17 : LO := [o 38 (mv 1), o 39 (.bin .eql (T 38) (ci 9)), o 40 (mv 39), og 41 (fa 0 4) 40 true, og 42 (ln 2 41) 40 true, og 43 (mv 2) 40 true, og 44 (fa 1 7) 40 true, og 45 (ld 44) 40 true, og 46 (.call (cf 179) [(T 42), (T 43), (T 45)]) 40 true, og 47 (.un .not (T 46)) 40 true, o 48 (.pick (T 40) (T 47) (cb false)), o 37 (mv 48)]
def r251_18 : LO := [o 8 (mi 16)]
def k251_1 : ACode := .seq (.region r251_17) (.cond (T 37) (.seq (.region r251_18) .ret) .skip)
def k251_2 : ACode := .seq (.region r251_13) (.cond (T 32) (.seq (.region r251_14) .ret) k251_1)
def k251_3 : ACode := .seq (.region r251_9) (.cond (T 23) (.seq (.region r251_10) .ret) k251_2)
def k251_4 : ACode := .seq (.region r251_5) (.cond (T 18) (.seq (.region r251_6) .ret) k251_3)
def k251_5 : ACode := .seq (.region r251_1) (.cond (T 9) (.seq (.region r251_2) .ret) k251_4)
def r251_33 : LO := [o 8 (mi 0)]
def k251_6 : ACode := .seq (.region r251_0) (.seq (.block 0 k251_5) (.seq (.region r251_33) .ret))
theorem fn251 : getFn Tryz.prog 251 = some (49, k251_6, [.tmp 8]) := by kernel_rfl
def r255_0 : LO := [o 2 (bx 0), o 4 (.mv (.c .nil))]
def r255_1 : LO := [o 6 (fa 0 2), o 7 (ld 6), o 8 (fa 1 2), o 9 (ld 8), o 10 (fa 1 2), o 11 (ld 10), o 12 (mv 1), o 13 (.bin .add (T 11) (T 12)), o 14 (.sliceS (T 7) (some (T 9)) (some (T 13))), o 15 (.bytes (T 14)), o 5 (mv 15)]
def r255_2 : LO := [o 16 (mv 5), o 17 (mv 1), o 18 (mv 1), o 19 (.sliceV 1 (T 16) none (some (T 17)) (some (T 18))), o 4 (mv 19)]
def k255_1 : ACode := .seq (.region r255_0) (.seq (.region r255_1) (.seq (.region r255_2) .ret))
theorem fn255 : getFn Tryz.prog 255 = some (20, k255_1, [.tmp 4]) := by kernel_rfl
def r256_0 : LO := [o 4 (mb false)]
def r256_1 : LO := [o 5 (.mv (.c (aU 4294967295)))]
def r256_2 : LO := [o 6 (mv 0)]
def r256_3 : LO := [o 8 (.bin .eql (T 6) (ci 1)), o 7 (mv 8)]
def r256_8 : LO := [o 10 (.bin .eql (T 6) (ci 2)), o 9 (mv 10)]
def r256_13 : LO := [o 12 (.bin .eql (T 6) (ci 9)), o 11 (mv 12)]
def r256_18 : LO := [o 14 (.bin .eql (T 6) (ci 4)), o 13 (mv 14)]
def k256_1 : ACode := .seq (.seq (.region r256_13) (.cond (T 11) (.exit 3) .skip)) (.seq (.region r256_18) (.cond (T 13) (.exit 4) .skip))
def k256_2 : ACode := .seq (.seq (.region r256_8) (.cond (T 9) (.exit 2) .skip)) k256_1
def k256_3 : ACode := .seq (.seq (.region r256_3) (.cond (T 7) (.exit 1) .skip)) k256_2
def r256_29 : LO := [o 15 (mv 1), o 16 (.bin .leq (T 15) (.c (aU 1))), o 4 (mv 16)]
def k256_4 : ACode := .seq (.block 1 (.seq k256_3 (.exit 0))) (.seq (.seq (.region r256_29) .ret) (.exit 0))
def r256_36 : LO := [o 17 (mv 1), o 18 (.conv (.num .i64) (T 17)), o 19 (.bin .geq (T 18) (ci (-2147483648))), o 20 (mv 19), og 21 (mv 1) 20 true, og 22 (.conv (.num .i64) (T 21)) 20 true, og 23 (.bin .leq (T 22) (ci 2147483647)) 20 true, o 24 (.pick (T 20) (T 23) (cb false)), o 4 (mv 24)]
def k256_5 : ACode := .seq (.block 2 k256_4) (.seq (.seq (.region r256_36) .ret) (.exit 0))
def r256_43 : LO := [o 5 (.mv (.c (aU 2147483647)))]
def r256_46 : LO := [o 25 (mv 1), o 26 (mv 5), o 27 (.bin .leq (T 25) (T 26)), o 4 (mv 27)]
def k256_6 : ACode := .seq (.block 4 (.seq (.block 3 k256_5) (.region r256_43))) (.seq (.seq (.region r256_46) .ret) (.exit 0))
def r256_54 : LO := [o 4 (mb true)]
def k256_7 : ACode := .seq (.seq (.region r256_2) (.block 0 k256_6)) (.seq (.region r256_54) .ret)
def k256_8 : ACode := .seq (.region r256_0) (.seq (.region r256_1) k256_7)
theorem fn256 : getFn Tryz.prog 256 = some (28, k256_8, [.tmp 4]) := by kernel_rfl
def r262_0 : LO := [o 4 (mi 0)]
def r262_1 : LO := [o 7 (mv 1), o 8 (.len true (T 7)), o 9 (.bin .eql (T 8) (ci 0))]
def r262_2 : LO := [o 10 (mv 0), o 11 (.call (cf 270) [(T 10)]), o 12 (.bin .add (T 11) (ci 1)), o 4 (mv 12)]
def k262_1 : ACode := .seq (.region r262_1) (.cond (T 9) (.seq (.region r262_2) .ret) .skip)
def r262_8 : LO := [o 13 (mv 1), o 14 (.len true (T 13)), o 15 (.bin .eql (T 14) (ci 1))]
def r262_9 : LO := [o 16 (mv 0), o 17 (mv 1), o 18 (.idxS (T 17) (ci 0)), o 19 (.seek true (T 16) (T 18)), o 4 (mv 19)]
def k262_2 : ACode := .seq (.region r262_8) (.cond (T 15) (.seq (.region r262_9) .ret) .skip)
def r262_15 : LO := [o 5 (mi 0)]
def r262_16 : LO := [o 20 (mv 0), o 21 (mv 1), o 22 (.call (cf 263) [(T 20), (T 21)]), o 6 (mv 22)]
def r262_17 : LO := [o 23 (mv 6), o 24 (.bin .eql (T 23) (ci (-1)))]
def r262_18 : LO := [o 25 (mv 5), o 4 (mv 25)]
def k262_3 : ACode := .seq (.region r262_17) (.cond (T 24) (.seq (.region r262_18) .ret) .skip)
def r262_24 : LO := [o 26 (mv 5), o 27 (.bin .add (T 26) (ci 1)), o 5 (mv 27)]
def r262_25 : LO := [o 28 (mv 0), o 29 (mv 6), o 30 (mv 1), o 31 (.len true (T 30)), o 32 (.bin .add (T 29) (T 31)), o 33 (.sliceS (T 28) (some (T 32)) none), o 0 (mv 33)]
def k262_4 : ACode := .seq (.region r262_16) (.seq k262_3 (.seq (.region r262_24) (.region r262_25)))
def k262_5 : ACode := .block 1 k262_4
def k262_6 : ACode := .seq k262_2 (.seq (.region r262_15) (.block 0 (.loop k262_5)))
def k262_7 : ACode := .seq (.region r262_0) (.seq k262_1 k262_6)
theorem fn262 : getFn Tryz.prog 262 = some (34, k262_7, [.tmp 4]) := by kernel_rfl
def r273_0 : LO := [o 4 (mi 0)]
def r273_1 : LO := [o 14 (mv 1), o 15 (.len true (T 14)), o 5 (mv 15)]
def r273_2 : LO := [o 17 (mv 5), o 18 (.bin .eql (T 17) (ci 0)), o 19 (mv 18), og 20 (mv 1) 19 false, og 21 (mv 0) 19 false, og 22 (.bin .eql (T 20) (T 21)) 19 false, o 23 (.pick (T 19) (cb true) (T 22)), o 16 (mv 23)]
def r273_3 : LO := [o 4 (mi 0)]
def r273_6 : LO := [o 25 (mv 5), o 26 (.bin .eql (T 25) (ci 1)), o 24 (mv 26)]
def r273_7 : LO := [o 27 (mv 0), o 28 (mv 1), o 29 (.idxS (T 28) (ci 0)), o 30 (.call (cf 277) [(T 27), (T 29)]), o 4 (mv 30)]
def r273_10 : LO := [o 32 (mv 5), o 33 (mv 0), o 34 (.len true (T 33)), o 35 (.bin .geq (T 32) (T 34)), o 31 (mv 35)]
def r273_11 : LO := [o 4 (mi (-1))]
def r273_14 : LO := [o 37 (mv 5), o 38 (.load none (.c (.glob 0))), o 39 (.bin .leq (T 37) (T 38)), o 40 (mv 39), og 41 (mv 0) 40 true, og 42 (.len true (T 41)) 40 true, og 43 (.bin .leq (T 42) (ci 64)) 40 true, o 44 (.pick (T 40) (T 43) (cb false)), o 36 (mv 44)]
def r273_15 : LO := [o 45 (mv 0), o 46 (mv 1), o 47 (.call (cf 278) [(T 45), (T 46)]), o 4 (mv 47)]
def k273_1 : ACode := .seq (.region r273_14) (.cond (T 36) (.seq (.region r273_15) .ret) .skip)
def k273_2 : ACode := .seq (.region r273_10) (.cond (T 31) (.seq (.region r273_11) .ret) k273_1)
def k273_3 : ACode := .seq (.region r273_6) (.cond (T 24) (.seq (.region r273_7) .ret) k273_2)
def k273_4 : ACode := .seq (.region r273_2) (.cond (T 16) (.seq (.region r273_3) .ret) k273_3)
def r273_28 : LO := [o 48 (mv 1), o 49 (.idxS (T 48) (ci 0)), o 6 (mv 49)]
def r273_29 : LO := [o 50 (mv 1), o 51 (.idxS (T 50) (ci 1)), o 7 (mv 51)]
def r273_30 : LO := [o 8 (mi 0)]
def r273_31 : LO := [o 52 (mv 0), o 53 (.len true (T 52)), o 54 (mv 5), o 55 (.bin .sub (T 53) (T 54)), o 56 (.bin .add (T 55) (ci 1)), o 9 (mv 56)]
def r273_32 : LO := [o 10 (mi 0)]
def r273_33 : LO := [o 57 (mv 8), o 58 (mv 9), o 59 (.bin .lss (T 57) (T 58))]
def r273_38 : LO := [o 60 (mv 0), o 61 (mv 8), o 62 (.idxS (T 60) (T 61)), o 63 (mv 6), o 64 (.bin .neq (T 62) (T 63))]
def r273_39 : LO := [o 65 (mv 0), o 66 (mv 8), o 67 (.bin .add (T 66) (ci 1)), o 68 (mv 9), o 69 (.sliceS (T 65) (some (T 67)) (some (T 68))), o 70 (mv 6), o 71 (.call (cf 277) [(T 69), (T 70)]), o 11 (mv 71)]
def r273_40 : LO := [o 72 (mv 11), o 73 (.bin .lss (T 72) (ci 0))]
def r273_41 : LO := [o 4 (mi (-1))]
def k273_5 : ACode := .seq (.region r273_40) (.cond (T 73) (.seq (.region r273_41) .ret) .skip)
def r273_47 : LO := [o 74 (mv 8), o 75 (mv 11), o 76 (.bin .add (T 75) (ci 1)), o 77 (.bin .add (T 74) (T 76)), o 8 (mv 77)]
def k273_6 : ACode := .cond (T 64) (.seq (.region r273_39) (.seq k273_5 (.region r273_47))) .skip
def r273_53 : LO := [o 78 (mv 0), o 79 (mv 8), o 80 (.bin .add (T 79) (ci 1)), o 81 (.idxS (T 78) (T 80)), o 82 (mv 7), o 83 (.bin .eql (T 81) (T 82)), o 84 (mv 83), og 85 (mv 0) 84 true, og 86 (mv 8) 84 true, og 87 (mv 8) 84 true, og 88 (mv 5) 84 true, og 89 (.bin .add (T 87) (T 88)) 84 true, og 90 (.sliceS (T 85) (some (T 86)) (some (T 89))) 84 true, og 91 (mv 1) 84 true, og 92 (.bin .eql (T 90) (T 91)) 84 true, o 93 (.pick (T 84) (T 92) (cb false))]
def r273_54 : LO := [o 94 (mv 8), o 4 (mv 94)]
def k273_7 : ACode := .seq (.region r273_53) (.cond (T 93) (.seq (.region r273_54) .ret) .skip)
def r273_60 : LO := [o 95 (mv 8), o 96 (.bin .add (T 95) (ci 1)), o 8 (mv 96)]
def r273_61 : LO := [o 97 (mv 10), o 98 (.bin .add (T 97) (ci 1)), o 10 (mv 98)]
def r273_62 : LO := [o 99 (mv 5), o 100 (.load none (.c (.glob 0))), o 101 (.bin .leq (T 99) (T 100)), o 102 (mv 101), og 103 (mv 10) 102 true, og 104 (mv 8) 102 true, og 105 (.call (cf 279) [(T 104)]) 102 true, og 106 (.bin .gtr (T 103) (T 105)) 102 true, o 107 (.pick (T 102) (T 106) (cb false))]
def r273_63 : LO := [o 108 (mv 0), o 109 (mv 8), o 110 (.sliceS (T 108) (some (T 109)) none), o 111 (mv 1), o 112 (.call (cf 278) [(T 110), (T 111)]), o 12 (mv 112)]
def r273_64 : LO := [o 113 (mv 12), o 114 (.bin .geq (T 113) (ci 0))]
def r273_65 : LO := [o 115 (mv 12), o 116 (mv 8), o 117 (.bin .add (T 115) (T 116)), o 4 (mv 117)]
def k273_8 : ACode := .seq (.region r273_64) (.cond (T 114) (.seq (.region r273_65) .ret) .skip)
def r273_71 : LO := [o 4 (mi (-1))]
def k273_9 : ACode := .seq (.region r273_63) (.seq k273_8 (.seq (.region r273_71) .ret))
def r273_76 : LO := [o 118 (mv 5), o 119 (.load none (.c (.glob 0))), o 120 (.bin .gtr (T 118) (T 119)), o 121 (mv 120), og 122 (mv 10) 121 true, og 123 (mv 8) 121 true, og 124 (.bin .shr (T 123) (.c (aU 4))) 121 true, og 125 (.bin .add (ci 4) (T 124)) 121 true, og 126 (.bin .geq (T 122) (T 125)) 121 true, o 127 (.pick (T 121) (T 126) (cb false)), o 128 (mv 127), og 129 (mv 8) 128 true, og 130 (mv 9) 128 true, og 131 (.bin .lss (T 129) (T 130)) 128 true, o 132 (.pick (T 128) (T 131) (cb false))]
def r273_77 : LO := [o 133 (mv 0), o 134 (mv 8), o 135 (.sliceS (T 133) (some (T 134)) none), o 136 (mv 1), o 137 (.call (cf 280) [(T 135), (T 136)]), o 13 (mv 137)]
def r273_78 : LO := [o 138 (mv 13), o 139 (.bin .lss (T 138) (ci 0))]
def r273_79 : LO := [o 4 (mi (-1))]
def k273_10 : ACode := .seq (.region r273_78) (.cond (T 139) (.seq (.region r273_79) .ret) .skip)
def r273_85 : LO := [o 140 (mv 8), o 141 (mv 13), o 142 (.bin .add (T 140) (T 141)), o 4 (mv 142)]
def k273_11 : ACode := .seq (.region r273_77) (.seq k273_10 (.seq (.region r273_85) .ret))
def k273_12 : ACode := .cond (T 107) k273_9 (.seq (.region r273_76) (.cond (T 132) k273_11 .skip))
def k273_13 : ACode := .seq (.region r273_60) (.seq (.region r273_61) (.seq (.region r273_62) k273_12))
def k273_14 : ACode := .block 2 (.seq (.seq (.region r273_38) k273_6) (.seq k273_7 k273_13))
def k273_15 : ACode := .seq (.seq (.region r273_33) (.cond (T 59) .skip (.exit 1))) k273_14
def r273_103 : LO := [o 4 (mi (-1))]
def k273_16 : ACode := .seq (.block 1 (.loop k273_15)) (.seq (.region r273_103) .ret)
def k273_17 : ACode := .seq (.region r273_30) (.seq (.region r273_31) (.seq (.region r273_32) k273_16))
def k273_18 : ACode := .seq (.block 0 k273_4) (.seq (.region r273_28) (.seq (.region r273_29) k273_17))
def k273_19 : ACode := .seq (.region r273_0) (.seq (.region r273_1) k273_18)
theorem fn273 : getFn Tryz.prog 273 = some (143, k273_19, [.tmp 4]) := by kernel_rfl
def r274_0 : LO := [o 4 (mb false)]
def r274_1 : LO := [o 5 (mv 0), o 6 (.len true (T 5)), o 7 (mv 1), o 8 (.len true (T 7)), o 9 (.bin .geq (T 6) (T 8)), o 10 (mv 9), og 11 (mv 0) 10 true, og 12 (mv 1) 10 true, og 13 (.len true (T 12)) 10 true, og 14 (.sliceS (T 11) none (some (T 13))) 10 true, og 15 (mv 1) 10 true, og 16 (.bin .eql (T 14) (T 15)) 10 true, o 17 (.pick (T 10) (T 16) (cb false)), o 4 (mv 17)]
def k274_1 : ACode := .seq (.region r274_0) (.seq (.region r274_1) .ret)
theorem fn274 : getFn Tryz.prog 274 = some (18, k274_1, [.tmp 4]) := by kernel_rfl
def r277_0 : LO := [o 4 (mi 0)]
def r277_1 : LO := [o 5 (mv 0), o 6 (mv 1), o 7 (.seek false (T 5) (T 6)), o 4 (mv 7)]
def k277_1 : ACode := .seq (.region r277_0) (.seq (.region r277_1) .ret)
theorem fn277 : getFn Tryz.prog 277 = some (8, k277_1, [.tmp 4]) := by kernel_rfl
def r283_0 : LO := [o 5 (bx 0), o 6 (bx 1), o 9 (bx 4), o 10 (.alloc zV), o 11 (mi 0)]
def r283_1 : LO := [o 12 (ln 2 6), o 13 (mv 2), o 14 (mv 3), o 15 (ln 4 9), o 16 (.call (cf 285) [(T 12), (T 13), (T 14), (T 15)]), o 17 (.extract 0 (T 16)), o 18 (.extract 1 (T 16)), on (st 7 10 17), o 11 (mv 18)]
def k283_1 : ACode := .seq (.region r283_0) (.seq (.region r283_1) .ret)
theorem fn283 : getFn Tryz.prog 283 = some (19, k283_1, [.cell 10 (some 7), .tmp 11]) := by kernel_rfl
def r284_0 : LO := [o 4 (bx 0), o 5 (bx 1), o 7 (bx 3), o 8 (.mv (.c aE)), o 9 (mi 0)]
def r284_1 : LO := [o 10 (ln 2 5), o 11 (mv 2), o 12 (ln 7 7), o 13 (.call (cf 286) [(T 10), (T 11), (T 12)]), o 14 (.extract 0 (T 13)), o 15 (.extract 1 (T 13)), o 8 (mv 14), o 9 (mv 15)]
def k284_1 : ACode := .seq (.region r284_0) (.seq (.region r284_1) .ret)
theorem fn284 : getFn Tryz.prog 284 = some (16, k284_1, [.tmp 8, .tmp 9]) := by kernel_rfl
def r285_0 : LO := [o 4 (bx 0), o 7 (bx 3), o 8 (.alloc zV), o 9 (mi 0)]
def r285_1 : LO := [o 17 (ln 2 4), o 18 (mv 1), o 19 (.call (cf 63) [(T 17), (T 18)]), o 16 (mv 19), o 20 (.extract 0 (T 16)), o 21 (.extract 1 (T 16)), o 10 (mv 20), o 11 (mv 21)]
def r285_2 : LO := [o 22 (mv 11), o 23 (.un .not (T 22))]
def r285_3 : LO := [o 24 (.build zV []), on (st 7 8 24), o 9 (mi 10)]
def k285_1 : ACode := .seq (.region r285_2) (.cond (T 23) (.seq (.region r285_3) .ret) .skip)
def r285_9 : LO := [o 26 (mv 2), o 27 (ln 4 7), o 28 (.call (cf 68) [(T 26), (T 27)]), o 25 (mv 28), o 29 (.extract 0 (T 25)), o 30 (.extract 1 (T 25)), o 12 (.alloc [aE, (aI 0), (aI 0), (aI 0), (aI 0), (aI 0)]), on (st 6 12 29), o 13 (mv 30)]
def r285_10 : LO := [o 31 (mv 13), o 32 (.bin .neq (T 31) (ci 0))]
def r285_11 : LO := [o 33 (.build zV []), o 34 (mv 13), on (st 7 8 33), o 9 (mv 34)]
def k285_2 : ACode := .seq (.region r285_10) (.cond (T 32) (.seq (.region r285_11) .ret) .skip)
def r285_17 : LO := [o 35 (ln 2 4), o 36 (ln 6 12), o 37 (.build [.nil, .nil, aE, (aI 0), (aI 0), (aI 0), (aI 0), (aI 0)] [((0, 2), (T 35)), ((2, 6), (T 36))]), o 38 (bx 37), o 14 (mv 38)]
def r285_18 : LO := [o 40 (mv 14), o 41 (mv 10), o 42 (.call (cf 287) [(T 40), (T 41)]), o 39 (mv 42), o 43 (.extract 0 (T 39)), o 44 (.extract 1 (T 39)), o 15 (.alloc zV), on (st 7 15 43), o 13 (mv 44)]
def r285_19 : LO := [o 45 (mv 13), o 46 (.bin .neq (T 45) (ci 0))]
def r285_20 : LO := [o 47 (.build zV []), o 48 (mv 13), on (st 7 8 47), o 9 (mv 48)]
def k285_3 : ACode := .seq (.region r285_19) (.cond (T 46) (.seq (.region r285_20) .ret) .skip)
def r285_26 : LO := [o 49 (mv 14), o 50 (.nilCheck (T 49)), o 51 (fa 2 50), o 52 (ln 6 51), o 53 (.call (cf 82) [(T 52)]), o 54 (.bin .gtr (T 53) (ci 0))]
def r285_27 : LO := [o 55 (.build zV []), on (st 7 8 55), o 9 (mi 18)]
def k285_4 : ACode := .seq (.region r285_26) (.cond (T 54) (.seq (.region r285_27) .ret) .skip)
def r285_33 : LO := [o 56 (ln 7 15), on (st 7 8 56), o 9 (mi 0)]
def k285_5 : ACode := .seq (.region r285_18) (.seq k285_3 (.seq k285_4 (.seq (.region r285_33) .ret)))
def k285_6 : ACode := .seq (.region r285_9) (.seq k285_2 (.seq (.region r285_17) k285_5))
def k285_7 : ACode := .seq (.region r285_0) (.seq (.region r285_1) (.seq k285_1 k285_6))
theorem fn285 : getFn Tryz.prog 285 = some (57, k285_7, [.cell 8 (some 7), .tmp 9]) := by kernel_rfl
def r286_0 : LO := [o 3 (bx 0), o 5 (bx 2), o 6 (.mv (.c aE)), o 7 (mi 0)]
def r286_1 : LO := [o 13 (ln 2 3), o 14 (mv 1), o 15 (.call (cf 63) [(T 13), (T 14)]), o 12 (mv 15), o 16 (.extract 0 (T 12)), o 17 (.extract 1 (T 12)), o 8 (mv 16), o 9 (mv 17)]
def r286_2 : LO := [o 18 (mv 9), o 19 (.un .not (T 18))]
def r286_3 : LO := [o 6 (.mv (.c aE)), o 7 (mi 10)]
def k286_1 : ACode := .seq (.region r286_2) (.cond (T 19) (.seq (.region r286_3) .ret) .skip)
def r286_9 : LO := [o 20 (ln 2 3), o 21 (mv 8), o 22 (ln 7 5), o 23 (.call (cf 66) [(T 20), (T 21), (T 22)]), o 10 (mv 23)]
def r286_10 : LO := [o 24 (mv 10), o 25 (.bin .neq (T 24) (ci 0))]
def r286_11 : LO := [o 26 (mv 10), o 6 (.mv (.c aE)), o 7 (mv 26)]
def k286_2 : ACode := .seq (.region r286_10) (.cond (T 25) (.seq (.region r286_11) .ret) .skip)
def r286_18 : LO := [o 27 (ln 7 5), o 28 (.call (cf 288) [(T 27)])]
def r286_19 : LO := [o 6 (.mv (.c aE)), o 7 (mi 18)]
def k286_3 : ACode := .seq (.region r286_18) (.cond (T 28) (.seq (.region r286_19) .ret) .skip)
def r286_25 : LO := [o 29 (ln 2 3), o 30 (.build [.nil, .nil, .nil] [((0, 2), (T 29))]), o 31 (bx 30), o 11 (mv 31)]
def r286_26 : LO := [o 32 (mv 11), o 33 (mv 8), o 34 (ln 2 3), o 35 (mv 8), o 36 (ln 7 5), o 37 (.call (cf 71) [(T 34), (T 35), (T 36)]), o 38 (.call (cf 289) [(T 32), (T 33), (T 37)])]
def r286_27 : LO := [o 39 (mv 11), o 40 (.nilCheck (T 39)), o 41 (fa 2 40), o 42 (ld 41), o 43 (.len false (T 42)), o 44 (.bin .gtr (T 43) (ci 65536))]
def r286_28 : LO := [o 6 (.mv (.c aE)), o 7 (mi 3)]
def k286_4 : ACode := .seq (.region r286_27) (.cond (T 44) (.seq (.region r286_28) .ret) .skip)
def r286_34 : LO := [o 45 (mv 11), o 46 (.nilCheck (T 45)), o 47 (fa 2 46), o 48 (ld 47), o 49 (.conv .str (T 48)), o 6 (mv 49), o 7 (mi 0)]
def k286_5 : ACode := .seq (.region r286_26) (.seq k286_4 (.seq (.region r286_34) .ret))
def k286_6 : ACode := .seq (.seq (.region r286_9) k286_2) (.seq k286_3 (.seq (.region r286_25) k286_5))
def k286_7 : ACode := .seq (.region r286_0) (.seq (.region r286_1) (.seq k286_1 k286_6))
theorem fn286 : getFn Tryz.prog 286 = some (50, k286_7, [.tmp 6, .tmp 7]) := by kernel_rfl
def r287_0 : LO := [o 4 (.alloc zV), o 5 (mi 0)]
def r287_1 : LO := [o 14 (.build zV [((0, 1), (ci 10))]), o 6 (.alloc zV), on (st 7 6 14)]
def r287_2 : LO := [o 15 (mv 0), o 16 (.nilCheck (T 15)), o 17 (fa 2 16), o 18 (fa 3 17), o 19 (ld 18), o 20 (.bin .lss (T 19) (ci 1))]
def r287_3 : LO := [o 21 (ln 7 6), on (st 7 4 21), o 5 (mi 17)]
def k287_1 : ACode := .seq (.region r287_2) (.cond (T 20) (.seq (.region r287_3) .ret) .skip)
def r287_9 : LO := [o 22 (mv 0), o 23 (.call (cf 290) [(T 22), (ci 1)]), o 7 (mv 23)]
def r287_10 : LO := [o 24 (mv 7), o 25 (.bin .neq (T 24) (ci 0))]
def r287_11 : LO := [o 26 (ln 7 6), o 27 (mv 7), on (st 7 4 26), o 5 (mv 27)]
def k287_2 : ACode := .seq (.region r287_10) (.cond (T 25) (.seq (.region r287_11) .ret) .skip)
def r287_18 : LO := [o 28 (mv 0), o 29 (.nilCheck (T 28)), o 30 (fa 2 29), o 31 (fa 3 30), o 32 (ld 31), o 33 (.bin .sub (T 32) (ci 1)), o 34 (.nilCheck (T 28)), o 35 (fa 2 34), o 36 (fa 3 35), on (st 1 36 33)]
def r287_19 : LO := [o 37 (mv 0), o 38 (.nilCheck (T 37)), o 39 (fa 0 38), o 40 (fa 0 39), o 41 (ld 40), o 42 (mv 1), o 43 (.idxSl 3 (T 41) (T 42)), o 44 (ln 3 43), o 8 (.alloc [aE, .nil, (aI 0)]), on (st 3 8 44)]
def r287_20 : LO := [o 9 (mi 0)]
def r287_21 : LO := [o 10 (.alloc [(aI 0), aE, aE, (aI 0), (aI 0), (aI 0), (aI 0), (aI 0)])]
def r287_22 : LO := [o 11 (.alloc zV)]
def r287_23 : LO := [o 12 (mb false)]
def r287_24 : LO := [o 13 (mi 0)]
def r287_26 : LO := [o 45 (mv 9), o 46 (fa 1 8), o 47 (ld 46), o 48 (.len false (T 47)), o 49 (.bin .eql (T 45) (T 48))]
def r287_27 : LO := [o 50 (mv 0), o 51 (.nilCheck (T 50)), o 52 (fa 2 51), o 53 (fa 3 52), o 54 (ld 53), o 55 (.bin .add (T 54) (ci 1)), o 56 (.nilCheck (T 50)), o 57 (fa 2 56), o 58 (fa 3 57), on (st 1 58 55)]
def r287_28 : LO := [o 59 (ln 7 6), on (st 7 4 59), o 5 (mi 0)]
def k287_3 : ACode := .cond (T 49) (.seq (.region r287_27) (.seq (.region r287_28) .ret)) .skip
def r287_35 : LO := [o 60 (fa 1 8), o 61 (ld 60), o 62 (mv 9), o 63 (.idxSl 8 (T 61) (T 62)), o 64 (ln 8 63), on (st 8 10 64)]
def r287_36 : LO := [o 65 (fa 3 10), o 66 (ld 65)]
def r287_37 : LO := [o 77 (.bin .eql (T 66) (ci 1)), o 76 (mv 77)]
def r287_38 : LO := [o 79 (mv 0), o 80 (ln 8 10), o 81 (.call (cf 291) [(T 79), (T 80)]), o 78 (mv 81), o 82 (.extract 0 (T 78)), o 83 (.extract 1 (T 78)), on (st 7 11 82), o 13 (mv 83)]
def r287_39 : LO := [o 12 (mb true)]
def r287_41 : LO := [o 85 (.bin .eql (T 66) (ci 4)), o 84 (mv 85)]
def r287_42 : LO := [o 87 (mv 0), o 88 (ln 8 10), o 89 (.call (cf 292) [(T 87), (T 88)]), o 86 (mv 89), o 90 (.extract 0 (T 86)), o 91 (.extract 1 (T 86)), on (st 7 11 90), o 13 (mv 91)]
def r287_43 : LO := [o 92 (fa 3 11), o 93 (ld 92), o 94 (.len false (T 93)), o 95 (.bin .gtr (T 94) (ci 0)), o 12 (mv 95)]
def r287_45 : LO := [o 97 (.bin .eql (T 66) (ci 5)), o 96 (mv 97)]
def r287_46 : LO := [o 99 (mv 0), o 100 (ln 8 10), o 101 (.call (cf 293) [(T 99), (T 100)]), o 98 (mv 101), o 102 (.extract 0 (T 98)), o 103 (.extract 1 (T 98)), on (st 7 11 102), o 13 (mv 103)]
def r287_47 : LO := [o 104 (fa 4 11), o 105 (ld 104), o 106 (.len false (T 105)), o 107 (.bin .gtr (T 106) (ci 0)), o 12 (mv 107)]
def r287_49 : LO := [o 68 (mv 0), o 69 (ln 3 8), o 70 (ln 7 6), o 71 (ln 8 10), o 72 (.call (cf 294) [(T 68), (T 69), (T 70), (T 71)]), o 67 (mv 72), o 73 (.extract 0 (T 67)), o 74 (.extract 1 (T 67)), o 75 (.extract 2 (T 67)), on (st 7 11 73), o 12 (mv 74), o 13 (mv 75)]
def k287_4 : ACode := .cond (T 96) (.seq (.region r287_46) (.region r287_47)) (.region r287_49)
def k287_5 : ACode := .cond (T 84) (.seq (.region r287_42) (.region r287_43)) (.seq (.region r287_45) k287_4)
def k287_6 : ACode := .cond (T 76) (.seq (.region r287_38) (.region r287_39)) (.seq (.region r287_41) k287_5)
def k287_7 : ACode := .seq (.region r287_36) (.block 0 (.seq (.region r287_37) k287_6))
def r287_58 : LO := [o 108 (mv 13), o 109 (.bin .neq (T 108) (ci 0))]
def r287_59 : LO := [o 110 (ln 7 6), o 111 (mv 13), on (st 7 4 110), o 5 (mv 111)]
def k287_8 : ACode := .seq (.region r287_58) (.cond (T 109) (.seq (.region r287_59) .ret) .skip)
def r287_65 : LO := [o 112 (mv 12)]
def r287_66 : LO := [o 113 (fa 5 6), o 114 (ld 113), o 115 (fa 0 10), o 116 (ld 115), o 117 (ln 7 11), o 118 (.build [(aI 0), (aI 0), (aU 0), aE, .nil, .nil, .nil, .nil] [((0, 1), (T 116)), ((1, 7), (T 117))]), o 119 (.sliceLit 8 1 [(aI 0), (aI 0), (aU 0), aE, .nil, .nil, .nil, .nil] [((0, 8), (T 118))]), o 120 (.append 47 8 136 (T 114) (T 119)), o 121 (fa 5 6), on (st 1 121 120)]
def k287_9 : ACode := .seq (.region r287_65) (.cond (T 112) (.region r287_66) .skip)
def r287_70 : LO := [o 122 (mv 9), o 123 (.bin .add (T 122) (ci 1)), o 9 (mv 123)]
def k287_10 : ACode := .seq k287_7 (.seq k287_8 (.seq k287_9 (.seq (.region r287_70) (.goto 0))))
def k287_11 : ACode := .seq (.seq (.region r287_26) k287_3) (.seq (.region r287_35) k287_10)
def k287_12 : ACode := .seq (.region r287_23) (.seq (.region r287_24) (.seq (.label 0) k287_11))
def k287_13 : ACode := .seq (.region r287_20) (.seq (.region r287_21) (.seq (.region r287_22) k287_12))
def k287_14 : ACode := .seq (.seq (.region r287_9) k287_2) (.seq (.region r287_18) (.seq (.region r287_19) k287_13))
def k287_15 : ACode := .seq (.region r287_1) (.seq k287_1 k287_14)
def k287_16 : ACode := .seq (.region r287_0) (.scope k287_15)
theorem fn287 : getFn Tryz.prog 287 = some (124, k287_16, [.cell 4 (some 7), .tmp 5]) := by kernel_rfl
def r288_0 : LO := [o 1 (bx 0), o 2 (mb false)]
def r288_1 : LO := [o 9 (fa 6 1), o 10 (ld 9), o 11 (.len false (T 10)), o 12 (.bin .gtr (T 11) (ci 0))]
def r288_2 : LO := [o 2 (mb true)]
def k288_1 : ACode := .seq (.region r288_1) (.cond (T 12) (.seq (.region r288_2) .ret) .skip)
def r288_8 : LO := [o 13 (fa 5 1), o 14 (ld 13), o 15 (.len false (T 14)), o 16 (mi 0)]
def r288_9 : LO := [o 17 (.bin .lss (T 16) (T 15))]
def r288_13 : LO := [o 18 (.idxSl 8 (T 14) (T 16)), o 19 (ln 8 18), o 4 (.alloc [(aI 0), (aI 0), (aU 0), aE, .nil, .nil, .nil, .nil]), on (st 8 4 19)]
def r288_14 : LO := [o 20 (fa 1 4), o 21 (ln 7 20), o 22 (.call (cf 288) [(T 21)])]
def r288_15 : LO := [o 2 (mb true)]
def k288_2 : ACode := .seq (.region r288_14) (.cond (T 22) (.seq (.region r288_15) .ret) .skip)
def r288_23 : LO := [o 23 (.bin .add (T 16) (ci 1)), o 16 (mv 23)]
def k288_3 : ACode := .seq (.block 1 (.seq (.region r288_13) k288_2)) (.region r288_23)
def k288_4 : ACode := .seq (.region r288_9) (.seq (.cond (T 17) .skip (.exit 0)) k288_3)
def r288_30 : LO := [o 24 (fa 3 1), o 25 (ld 24), o 26 (.len false (T 25)), o 27 (mi 0)]
def r288_31 : LO := [o 28 (.bin .lss (T 27) (T 26))]
def r288_35 : LO := [o 29 (.idxSl 7 (T 25) (T 27)), o 30 (ln 7 29), o 6 (.alloc zV), on (st 7 6 30)]
def r288_36 : LO := [o 31 (ln 7 6), o 32 (.call (cf 288) [(T 31)])]
def r288_37 : LO := [o 2 (mb true)]
def k288_5 : ACode := .seq (.region r288_36) (.cond (T 32) (.seq (.region r288_37) .ret) .skip)
def r288_45 : LO := [o 33 (.bin .add (T 27) (ci 1)), o 27 (mv 33)]
def k288_6 : ACode := .seq (.block 3 (.seq (.region r288_35) k288_5)) (.region r288_45)
def k288_7 : ACode := .seq (.region r288_31) (.seq (.cond (T 28) .skip (.exit 2)) k288_6)
def r288_52 : LO := [o 34 (fa 4 1), o 35 (ld 34), o 36 (.len false (T 35)), o 37 (mi 0)]
def r288_53 : LO := [o 38 (.bin .lss (T 37) (T 36))]
def r288_57 : LO := [o 39 (.idxSl 14 (T 35) (T 37)), o 40 (ln 14 39), o 8 (.alloc [(aI 0), (aU 0), aE, .nil, .nil, .nil, .nil, (aI 0), (aU 0), aE, .nil, .nil, .nil, .nil]), on (st 14 8 40)]
def r288_58 : LO := [o 41 (fa 7 8), o 42 (ln 7 41), o 43 (.call (cf 288) [(T 42)])]
def r288_59 : LO := [o 2 (mb true)]
def k288_8 : ACode := .seq (.region r288_58) (.cond (T 43) (.seq (.region r288_59) .ret) .skip)
def r288_67 : LO := [o 44 (.bin .add (T 37) (ci 1)), o 37 (mv 44)]
def k288_9 : ACode := .seq (.block 5 (.seq (.region r288_57) k288_8)) (.region r288_67)
def k288_10 : ACode := .seq (.region r288_53) (.seq (.cond (T 38) .skip (.exit 4)) k288_9)
def r288_74 : LO := [o 2 (mb false)]
def k288_11 : ACode := .seq (.seq (.region r288_52) (.block 4 (.loop k288_10))) (.seq (.region r288_74) .ret)
def k288_12 : ACode := .seq (.seq (.region r288_30) (.block 2 (.loop k288_7))) k288_11
def k288_13 : ACode := .seq (.seq (.region r288_8) (.block 0 (.loop k288_4))) k288_12
def k288_14 : ACode := .seq (.region r288_0) (.seq k288_1 k288_13)
theorem fn288 : getFn Tryz.prog 288 = some (45, k288_14, [.tmp 2]) := by kernel_rfl
def r289_0 : LO := [o 5 (bx 2)]
def r289_1 : LO := [o 6 (mi 0)]
def r289_2 : LO := [o 15 (mv 0), o 16 (.nilCheck (T 15)), o 17 (fa 0 16), o 18 (fa 0 17), o 19 (ld 18), o 20 (mv 1), o 21 (.idxSl 3 (T 19) (T 20)), o 22 (fa 1 21), o 23 (ld 22), o 24 (.len false (T 23)), o 25 (mi 0)]
def r289_3 : LO := [o 26 (.bin .lss (T 25) (T 24))]
def r289_7 : LO := [o 27 (.idxSl 8 (T 23) (T 25)), o 28 (ln 8 27), o 8 (.alloc [(aI 0), aE, aE, (aI 0), (aI 0), (aI 0), (aI 0), (aI 0)]), on (st 8 8 28)]
def r289_8 : LO := [o 29 (mv 6), o 30 (fa 5 5), o 31 (ld 30), o 32 (.len false (T 31)), o 33 (.bin .lss (T 29) (T 32)), o 34 (mv 33), og 35 (fa 5 5) 34 true, og 36 (ld 35) 34 true, og 37 (mv 6) 34 true, og 38 (.idxSl 8 (T 36) (T 37)) 34 true, og 39 (fa 0 38) 34 true, og 40 (ld 39) 34 true, og 41 (fa 0 8) 34 true, og 42 (ld 41) 34 true]
def r289_8t : LO := [og 43 (.bin .eql (T 40) (T 42)) 34 true, o 44 (.pick (T 34) (T 43) (cb false)), o 9 (mv 44)]
def r289_8o : LN := [[], [], [1], [2], [0, 3], [4], [5], [5, 6], [5], [5, 7, 8], [5, 9], [5, 10], [5], [5, 12]]
def r289_9 : LO := [o 10 (.alloc zV)]
def r289_10 : LO := [o 45 (mv 9)]
def r289_11 : LO := [o 46 (fa 5 5), o 47 (ld 46), o 48 (mv 6), o 49 (.idxSl 8 (T 47) (T 48)), o 50 (fa 1 49), o 51 (ln 7 50), on (st 7 10 51)]
def r289_12 : LO := [o 52 (mv 6), o 53 (.bin .add (T 52) (ci 1)), o 6 (mv 53)]
def k289_1 : ACode := .cond (T 45) (.seq (.region r289_11) (.region r289_12)) .skip
def r289_17 : LO := [o 54 (fa 3 8), o 55 (ld 54)]
def r289_18 : LO := [o 67 (.bin .eql (T 55) (ci 1)), o 66 (mv 67)]
def r289_19 : LO := [o 68 (mv 0), o 69 (ln 8 8), o 70 (ln 7 10), o 71 (.call (cf 295) [(T 68), (T 69), (T 70)])]
def r289_20 : LO := [o 73 (.bin .eql (T 55) (ci 4)), o 72 (mv 73)]
def r289_21 : LO := [o 74 (mv 0), o 75 (fa 3 10), o 76 (ld 75), o 77 (.len false (T 76)), o 78 (.conv (.num .u64) (T 77)), o 79 (.call (cf 113) [(T 78)]), o 80 (.call (cf 296) [(T 74), (T 79)])]
def r289_22 : LO := [o 81 (fa 3 10), o 82 (ld 81), o 83 (.len false (T 82)), o 84 (mi 0)]
def r289_23 : LO := [o 85 (.bin .lss (T 84) (T 83))]
def r289_27 : LO := [o 86 (.idxSl 7 (T 82) (T 84)), o 87 (ln 7 86), o 12 (.alloc zV), on (st 7 12 87)]
def r289_28 : LO := [o 88 (mv 0), o 89 (ln 8 8), o 90 (ln 7 12), o 91 (.call (cf 295) [(T 88), (T 89), (T 90)])]
def r289_31 : LO := [o 92 (.bin .add (T 84) (ci 1)), o 84 (mv 92)]
def k289_2 : ACode := .seq (.block 4 (.seq (.region r289_27) (.region r289_28))) (.region r289_31)
def k289_3 : ACode := .seq (.region r289_23) (.seq (.cond (T 85) .skip (.exit 3)) k289_2)
def k289_4 : ACode := .seq (.region r289_21) (.seq (.region r289_22) (.block 3 (.loop k289_3)))
def r289_39 : LO := [o 94 (.bin .eql (T 55) (ci 5)), o 93 (mv 94)]
def r289_40 : LO := [o 95 (mv 0), o 96 (fa 4 10), o 97 (ld 96), o 98 (.len false (T 97)), o 99 (.conv (.num .u64) (T 98)), o 100 (.call (cf 113) [(T 99)]), o 101 (.call (cf 296) [(T 95), (T 100)])]
def r289_41 : LO := [o 102 (fa 4 10), o 103 (ld 102), o 104 (.len false (T 103)), o 105 (mi 0)]
def r289_42 : LO := [o 106 (.bin .lss (T 105) (T 104))]
def r289_46 : LO := [o 107 (.idxSl 14 (T 103) (T 105)), o 108 (ln 14 107), o 14 (.alloc [(aI 0), (aU 0), aE, .nil, .nil, .nil, .nil, (aI 0), (aU 0), aE, .nil, .nil, .nil, .nil]), on (st 14 14 108)]
def r289_47 : LO := [o 109 (mv 0), o 110 (fa 0 14), o 111 (ln 7 110), o 112 (.call (cf 297) [(T 111)]), o 113 (.call (cf 296) [(T 109), (T 112)])]
def r289_48 : LO := [o 114 (mv 0), o 115 (ln 8 8), o 116 (fa 7 14), o 117 (ln 7 116), o 118 (.call (cf 295) [(T 114), (T 115), (T 117)])]
def k289_5 : ACode := .seq (.region r289_46) (.seq (.region r289_47) (.region r289_48))
def r289_52 : LO := [o 119 (.bin .add (T 105) (ci 1)), o 105 (mv 119)]
def k289_6 : ACode := .seq (.cond (T 106) .skip (.exit 5)) (.seq (.block 6 k289_5) (.region r289_52))
def k289_7 : ACode := .seq (.region r289_42) k289_6
def k289_8 : ACode := .seq (.region r289_40) (.seq (.region r289_41) (.block 5 (.loop k289_7)))
def r289_60 : LO := [o 56 (mv 9), o 57 (.un .not (T 56))]
def r289_61 : LO := [o 58 (mv 0), o 59 (.call (cf 296) [(T 58), (.c (aS ⟨#[0]⟩))])]
def k289_9 : ACode := .seq (.region r289_60) (.cond (T 57) (.seq (.region r289_61) (.exit 1)) .skip)
def r289_67 : LO := [o 60 (mv 0), o 61 (.call (cf 296) [(T 60), (.c (aS ⟨#[1]⟩))])]
def r289_68 : LO := [o 62 (mv 0), o 63 (ln 8 8), o 64 (ln 7 10), o 65 (.call (cf 295) [(T 62), (T 63), (T 64)])]
def k289_10 : ACode := .cond (T 93) k289_8 (.seq k289_9 (.seq (.region r289_67) (.region r289_68)))
def k289_11 : ACode := .seq (.region r289_20) (.cond (T 72) k289_4 (.seq (.region r289_39) k289_10))
def k289_12 : ACode := .seq (.region r289_18) (.cond (T 66) (.region r289_19) k289_11)
def k289_13 : ACode := .seq (.seq (.region r289_10) k289_1) (.seq (.region r289_17) (.block 2 k289_12))
def k289_14 : ACode := .seq (.drawn r289_8o r289_8 r289_8t) (.seq (.region r289_9) k289_13)
def r289_84 : LO := [o 120 (.bin .add (T 25) (ci 1)), o 25 (mv 120)]
def k289_15 : ACode := .seq (.block 1 (.seq (.region r289_7) k289_14)) (.region r289_84)
def k289_16 : ACode := .seq (.region r289_3) (.seq (.cond (T 26) .skip (.exit 0)) k289_15)
def k289_17 : ACode := .seq (.region r289_1) (.seq (.region r289_2) (.block 0 (.loop k289_16)))
def k289_18 : ACode := .seq (.region r289_0) k289_17
theorem fn289 : getFn Tryz.prog 289 = some (121, k289_18, []) := by kernel_rfl
def r290_0 : LO := [o 4 (mi 0)]
def r290_1 : LO := [o 8 (mv 0), o 9 (.nilCheck (T 8)), o 10 (fa 2 9), o 11 (ln 6 10), o 12 (mv 1), o 13 (.call (cf 81) [(T 11), (T 12)]), o 7 (mv 13), o 14 (.extract 0 (T 7)), o 15 (.extract 1 (T 7)), o 5 (.alloc [aE, (aI 0), (aI 0), (aI 0), (aI 0), (aI 0)]), on (st 6 5 14), o 6 (mv 15)]
def r290_2 : LO := [o 16 (mv 0), o 17 (ln 6 5), o 18 (.nilCheck (T 16)), o 19 (fa 2 18), on (st 6 19 17)]
def r290_3 : LO := [o 20 (mv 6), o 4 (mv 20)]
def k290_1 : ACode := .seq (.region r290_1) (.seq (.region r290_2) (.seq (.region r290_3) .ret))
def k290_2 : ACode := .seq (.region r290_0) k290_1
theorem fn290 : getFn Tryz.prog 290 = some (21, k290_2, [.tmp 4]) := by kernel_rfl
def r291_0 : LO := [o 3 (bx 1), o 4 (.alloc zV), o 5 (mi 0)]
def r291_1 : LO := [o 10 (fa 5 3), o 11 (ld 10), o 12 (.bin .eql (T 11) (ci 10))]
def r291_2 : LO := [o 13 (mv 0), o 14 (fa 6 3), o 15 (ld 14), o 16 (.call (cf 287) [(T 13), (T 15)]), o 17 (.extract 0 (T 16)), o 18 (.extract 1 (T 16)), on (st 7 4 17), o 5 (mv 18)]
def k291_1 : ACode := .seq (.region r291_1) (.cond (T 12) (.seq (.region r291_2) .ret) .skip)
def r291_8 : LO := [o 19 (mv 0), o 20 (.call (cf 290) [(T 19), (ci 1)]), o 6 (mv 20)]
def r291_9 : LO := [o 21 (mv 6), o 22 (.bin .neq (T 21) (ci 0))]
def r291_10 : LO := [o 23 (.build zV []), o 24 (mv 6), on (st 7 4 23), o 5 (mv 24)]
def k291_2 : ACode := .seq (.region r291_9) (.cond (T 22) (.seq (.region r291_10) .ret) .skip)
def r291_17 : LO := [o 26 (mv 0), o 27 (.nilCheck (T 26)), o 28 (fa 0 27), o 29 (ln 2 28), o 30 (ln 8 3), o 31 (mv 0), o 32 (.nilCheck (T 31)), o 33 (fa 2 32), o 34 (ln 6 33), o 35 (.call (cf 298) [(T 29), (T 30), (T 34)]), o 25 (mv 35), o 36 (.extract 0 (T 25)), o 37 (.extract 1 (T 25)), o 38 (.extract 2 (T 25)), o 7 (.alloc zV), o 8 (.alloc [aE, (aI 0), (aI 0), (aI 0), (aI 0), (aI 0)]), on (st 7 7 36), on (st 6 8 37)]
def r291_17t : LO := [o 9 (mv 38)]
def r291_17o : LN := [[], [0], [1], [2], [], [], [5], [6], [7], [3, 4, 8], [9], [10], [10], [10], [], [], [0, 1, 2, 3, 4, 5, 6, 7, 8, 9, 10, 11, 14, 15], [0, 1, 2, 3, 4, 5, 6, 7, 8, 9, 10, 11, 12, 14, 15, 16]]
def r291_18 : LO := [o 39 (mv 0), o 40 (ln 6 8), o 41 (.nilCheck (T 39)), o 42 (fa 2 41), on (st 6 42 40)]
def r291_19 : LO := [o 43 (ln 7 7), o 44 (mv 9), on (st 7 4 43), o 5 (mv 44)]
def k291_3 : ACode := .seq (.drawn r291_17o r291_17 r291_17t) (.seq (.region r291_18) (.seq (.region r291_19) .ret))
def k291_4 : ACode := .seq (.region r291_0) (.seq k291_1 (.seq (.seq (.region r291_8) k291_2) k291_3))
theorem fn291 : getFn Tryz.prog 291 = some (45, k291_4, [.cell 4 (some 7), .tmp 5]) := by kernel_rfl
def r294_0 : LO := [o 5 (bx 1), o 6 (bx 2), o 7 (bx 3), o 8 (.alloc zV), o 9 (mb false), o 10 (mi 0)]
def r294_1 : LO := [o 20 (mv 0), o 21 (.nilCheck (T 20)), o 22 (fa 2 21), o 23 (ln 6 22), o 24 (.call (cf 193) [(T 23)]), o 19 (mv 24), o 25 (.extract 0 (T 19)), o 26 (.extract 1 (T 19)), o 27 (.extract 2 (T 19)), o 12 (.alloc [aE, (aI 0), (aI 0), (aI 0), (aI 0), (aI 0)]), o 11 (mv 25), on (st 6 12 26), o 13 (mv 27)]
def r294_2 : LO := [o 28 (mv 13), o 29 (.bin .neq (T 28) (ci 0))]
def r294_3 : LO := [o 30 (.build zV []), o 31 (mv 13), on (st 7 8 30), o 9 (mb false), o 10 (mv 31)]
def k294_1 : ACode := .seq (.region r294_2) (.cond (T 29) (.seq (.region r294_3) .ret) .skip)
def r294_9 : LO := [o 32 (mv 11), o 33 (.bin .gtr (T 32) (.c (aC 1)))]
def r294_10 : LO := [o 34 (.build zV []), on (st 7 8 34), o 9 (mb false), o 10 (mi 5)]
def k294_2 : ACode := .seq (.region r294_9) (.cond (T 33) (.seq (.region r294_10) .ret) .skip)
def r294_16 : LO := [o 35 (mv 0), o 36 (ln 6 12), o 37 (.nilCheck (T 35)), o 38 (fa 2 37), on (st 6 38 36)]
def r294_17 : LO := [o 39 (mv 11), o 40 (.bin .eql (T 39) (.c (aC 0)))]
def r294_18 : LO := [o 41 (.build zV []), on (st 7 8 41), o 9 (mb false), o 10 (mi 0)]
def k294_3 : ACode := .seq (.region r294_17) (.cond (T 40) (.seq (.region r294_18) .ret) .skip)
def r294_24 : LO := [o 42 (fa 5 6), o 43 (ld 42), o 44 (.len false (T 43)), o 45 (mi 0)]
def r294_25 : LO := [o 46 (.bin .lss (T 45) (T 44))]
def r294_29 : LO := [o 47 (.idxSl 8 (T 43) (T 45)), o 48 (ln 8 47), o 15 (.alloc [(aI 0), (aI 0), (aU 0), aE, .nil, .nil, .nil, .nil]), on (st 8 15 48)]
def r294_30 : LO := [o 50 (ln 3 5), o 51 (fa 0 15), o 52 (ld 51), o 53 (.call (cf 89) [(T 50), (T 52)]), o 49 (mv 53), o 54 (.extract 0 (T 49)), o 55 (.extract 1 (T 49)), o 16 (.alloc [(aI 0), aE, aE, (aI 0), (aI 0), (aI 0), (aI 0), (aI 0)]), on (st 8 16 54), o 17 (mv 55)]
def r294_31 : LO := [o 56 (mv 17), o 57 (mv 56), og 58 (fa 7 7) 57 true, og 59 (ld 58) 57 true, og 60 (.bin .geq (T 59) (ci 0)) 57 true, o 61 (.pick (T 57) (T 60) (cb false)), o 62 (mv 61), og 63 (fa 7 16) 62 true, og 64 (ld 63) 62 true, og 65 (fa 7 7) 62 true, og 66 (ld 65) 62 true, og 67 (.bin .eql (T 64) (T 66)) 62 true, o 68 (.pick (T 62) (T 67) (cb false))]
def r294_32 : LO := [o 69 (.build zV []), on (st 7 8 69), o 9 (mb false), o 10 (mi 15)]
def k294_4 : ACode := .seq (.region r294_31) (.cond (T 68) (.seq (.region r294_32) .ret) .skip)
def k294_5 : ACode := .block 1 (.seq (.region r294_29) (.seq (.region r294_30) k294_4))
def r294_41 : LO := [o 70 (.bin .add (T 45) (ci 1)), o 45 (mv 70)]
def k294_6 : ACode := .seq (.cond (T 46) .skip (.exit 0)) (.seq k294_5 (.region r294_41))
def k294_7 : ACode := .seq (.region r294_25) k294_6
def r294_48 : LO := [o 72 (mv 0), o 73 (ln 8 7), o 74 (.call (cf 291) [(T 72), (T 73)]), o 71 (mv 74), o 75 (.extract 0 (T 71)), o 76 (.extract 1 (T 71)), o 18 (.alloc zV), on (st 7 18 75), o 13 (mv 76)]
def r294_49 : LO := [o 77 (mv 13), o 78 (.bin .eql (T 77) (ci 0)), o 79 (mv 78), og 80 (fa 3 7) 79 true, og 81 (ld 80) 79 true, og 82 (.bin .eql (T 81) (ci 3)) 79 true, o 83 (.pick (T 79) (T 82) (cb false)), o 84 (mv 83), og 85 (ln 7 18) 84 true, og 86 (.call (cf 131) [(T 85)]) 84 true, o 87 (.pick (T 84) (T 86) (cb false))]
def r294_50 : LO := [o 13 (mi 5)]
def k294_8 : ACode := .seq (.region r294_49) (.cond (T 87) (.region r294_50) .skip)
def r294_54 : LO := [o 88 (ln 7 18), o 89 (mv 13), on (st 7 8 88), o 9 (mb true), o 10 (mv 89)]
def k294_9 : ACode := .seq (.region r294_48) (.seq k294_8 (.seq (.region r294_54) .ret))
def k294_10 : ACode := .seq (.seq (.region r294_24) (.block 0 (.loop k294_7))) k294_9
def k294_11 : ACode := .seq k294_1 (.seq k294_2 (.seq (.region r294_16) (.seq k294_3 k294_10)))
def k294_12 : ACode := .seq (.region r294_0) (.seq (.region r294_1) k294_11)
theorem fn294 : getFn Tryz.prog 294 = some (90, k294_12, [.cell 8 (some 7), .tmp 9, .tmp 10]) := by kernel_rfl
def r295_0 : LO := [o 4 (bx 1), o 5 (bx 2)]
def r295_1 : LO := [o 6 (fa 5 4), o 7 (ld 6), o 8 (.bin .eql (T 7) (ci 10))]
def r295_2 : LO := [o 9 (mv 0), o 10 (fa 6 4), o 11 (ld 10), o 12 (ln 7 5), o 13 (.call (cf 289) [(T 9), (T 11), (T 12)])]
def k295_1 : ACode := .seq (.region r295_1) (.cond (T 8) (.seq (.region r295_2) .ret) .skip)
def r295_8 : LO := [o 14 (mv 0), o 15 (ln 7 5), o 16 (.call (cf 297) [(T 15)]), o 17 (.call (cf 296) [(T 14), (T 16)])]
def k295_2 : ACode := .seq (.region r295_0) (.seq k295_1 (.region r295_8))
theorem fn295 : getFn Tryz.prog 295 = some (18, k295_2, []) := by kernel_rfl
def r296_0 : LO := [o 4 (mv 0), o 5 (mv 0), o 6 (.nilCheck (T 5)), o 7 (fa 2 6), o 8 (ld 7), o 9 (mv 1), o 10 (.append 5 1 1 (T 8) (T 9)), o 11 (.nilCheck (T 4)), o 12 (fa 2 11), on (st 1 12 10)]
theorem fn296 : getFn Tryz.prog 296 = some (13, .region r296_0, []) := by kernel_rfl
def r297_0 : LO := [o 1 (bx 0), o 2 (.mv (.c aE))]
def r297_1 : LO := [o 3 (fa 0 1), o 4 (ld 3), o 5 (ln 7 1), o 6 (.call (cf 235) [(T 4), (T 5)]), o 7 (.un .not (T 6))]
def r297_2 : LO := [o 2 (.mv (.c aE))]
def k297_1 : ACode := .seq (.region r297_1) (.cond (T 7) (.seq (.region r297_2) .ret) .skip)
def r297_8 : LO := [o 8 (fa 0 1), o 9 (ld 8)]
def r297_9 : LO := [o 11 (.bin .eql (T 9) (ci 1)), o 10 (mv 11)]
def r297_10 : LO := [o 12 (fa 1 1), o 13 (ld 12), o 14 (.conv (.num .u8) (T 13)), o 15 (.sliceLit 1 1 [(aC 0)] [((0, 1), (T 14))]), o 16 (.conv .str (T 15)), o 2 (mv 16)]
def r297_13 : LO := [o 18 (.bin .eql (T 9) (ci 2)), o 17 (mv 18)]
def r297_15 : LO := [o 19 (.bin .eql (T 9) (ci 3)), o 17 (mv 19)]
def k297_2 : ACode := .seq (.region r297_13) (.cond (T 17) .skip (.region r297_15))
def r297_18 : LO := [o 20 (fa 1 1), o 21 (ld 20), o 22 (.conv (.num .i64) (T 21)), o 23 (.call (cf 254) [(T 22)]), o 24 (.call (cf 113) [(T 23)]), o 2 (mv 24)]
def r297_21 : LO := [o 26 (.bin .eql (T 9) (ci 6)), o 25 (mv 26)]
def r297_22 : LO := [o 27 (ln 7 1), o 28 (.call (cf 130) [(T 27)]), o 29 (.field none 1 (T 28)), o 30 (.call (cf 111) [(T 29)]), o 2 (mv 30)]
def r297_25 : LO := [o 32 (.bin .eql (T 9) (ci 7)), o 31 (mv 32)]
def r297_27 : LO := [o 33 (.bin .eql (T 9) (ci 8)), o 31 (mv 33)]
def k297_3 : ACode := .seq (.region r297_25) (.cond (T 31) .skip (.region r297_27))
def r297_30 : LO := [o 34 (fa 2 1), o 35 (ld 34), o 36 (.len true (T 35)), o 37 (.conv (.num .u64) (T 36)), o 38 (.call (cf 113) [(T 37)]), o 39 (fa 2 1), o 40 (ld 39)]
def r297_30t : LO := [o 41 (.bin .add (T 38) (T 40)), o 2 (mv 41)]
def r297_30o : LN := [[], [0], [1], [2], [3], [], [5]]
def k297_4 : ACode := .cond (T 31) (.seq (.drawn r297_30o r297_30 r297_30t) .ret) .skip
def k297_5 : ACode := .cond (T 25) (.seq (.region r297_22) .ret) (.seq k297_3 k297_4)
def k297_6 : ACode := .cond (T 17) (.seq (.region r297_18) .ret) (.seq (.region r297_21) k297_5)
def k297_7 : ACode := .cond (T 10) (.seq (.region r297_10) .ret) (.seq k297_2 k297_6)
def k297_8 : ACode := .seq (.region r297_8) (.block 0 (.seq (.region r297_9) k297_7))
def r297_44 : LO := [o 42 (fa 1 1), o 43 (ld 42), o 44 (.call (cf 113) [(T 43)]), o 2 (mv 44)]
def k297_9 : ACode := .seq (.region r297_0) (.seq k297_1 (.seq k297_8 (.seq (.region r297_44) .ret)))
theorem fn297 : getFn Tryz.prog 297 = some (45, k297_9, [.tmp 2]) := by kernel_rfl
def r298_0 : LO := [o 3 (bx 0), o 4 (bx 1), o 5 (bx 2), o 6 (.alloc zV), o 7 (.alloc [aE, (aI 0), (aI 0), (aI 0), (aI 0), (aI 0)]), o 8 (mi 0)]
def r298_1 : LO := [o 16 (fa 5 4), o 17 (ld 16)]
def r298_2 : LO := [o 21 (.bin .eql (T 17) (ci 1)), o 20 (mv 21)]
def r298_3 : LO := [o 23 (ln 6 5), o 24 (.call (cf 193) [(T 23)]), o 22 (mv 24), o 25 (.extract 0 (T 22)), o 26 (.extract 1 (T 22)), o 27 (.extract 2 (T 22)), o 10 (.alloc [aE, (aI 0), (aI 0), (aI 0), (aI 0), (aI 0)]), o 9 (mv 25), on (st 6 10 26), o 11 (mv 27)]
def r298_4 : LO := [o 28 (mv 11), o 29 (.bin .neq (T 28) (ci 0))]
def r298_5 : LO := [o 30 (.build zV []), o 31 (ln 6 5), o 32 (mv 11), on (st 7 6 30), on (st 6 7 31)]
def r298_5t : LO := [o 8 (mv 32)]
def r298_5o : LN := [[], [], [], [0], [0, 1, 3]]
def k298_1 : ACode := .cond (T 29) (.seq (.drawn r298_5o r298_5 r298_5t) .ret) .skip
def r298_11 : LO := [o 33 (mv 9), o 34 (.bin .gtr (T 33) (.c (aC 1)))]
def r298_12 : LO := [o 35 (.build zV []), o 36 (ln 6 5), on (st 7 6 35)]
def r298_12t : LO := [on (st 6 7 36), o 8 (mi 5)]
def r298_12o : LN := [[], [], [0]]
def k298_2 : ACode := .cond (T 34) (.seq (.drawn r298_12o r298_12 r298_12t) .ret) .skip
def r298_18 : LO := [o 37 (fa 5 4), o 38 (ld 37), o 39 (mv 9), o 40 (.conv (.num .u64) (T 39)), o 41 (.build zV [((0, 1), (T 38)), ((1, 1), (T 40))]), o 42 (ln 6 10), on (st 7 6 41)]
def r298_18t : LO := [on (st 6 7 42), o 8 (mi 0)]
def r298_18o : LN := [[], [0], [], [2], [1, 3], [], [0, 1, 2, 3, 4]]
def k298_3 : ACode := .seq (.seq (.region r298_11) k298_2) (.seq (.drawn r298_18o r298_18 r298_18t) .ret)
def k298_4 : ACode := .seq (.region r298_3) (.seq (.seq (.region r298_4) k298_1) k298_3)
def r298_24 : LO := [o 44 (.bin .eql (T 17) (ci 6)), o 43 (mv 44)]
def r298_25 : LO := [o 45 (ln 6 5), o 46 (.call (cf 300) [(T 45)]), o 47 (.extract 0 (T 46)), o 48 (.extract 1 (T 46)), o 49 (.extract 2 (T 46)), on (st 7 6 47), on (st 6 7 48), o 8 (mv 49)]
def r298_28 : LO := [o 51 (.bin .eql (T 17) (ci 7)), o 50 (mv 51)]
def r298_30 : LO := [o 52 (.bin .eql (T 17) (ci 8)), o 50 (mv 52)]
def k298_5 : ACode := .seq (.region r298_28) (.cond (T 50) .skip (.region r298_30))
def r298_33 : LO := [o 53 (fa 5 4), o 54 (ld 53), o 55 (ln 6 5), o 56 (.call (cf 301) [(T 54), (T 55)]), o 57 (.extract 0 (T 56)), o 58 (.extract 1 (T 56)), o 59 (.extract 2 (T 56)), on (st 7 6 57), on (st 6 7 58), o 8 (mv 59)]
def r298_36 : LO := [o 61 (.bin .eql (T 17) (ci 2)), o 60 (mv 61)]
def r298_38 : LO := [o 62 (.bin .eql (T 17) (ci 3)), o 60 (mv 62)]
def r298_40 : LO := [o 63 (.bin .eql (T 17) (ci 4)), o 60 (mv 63)]
def r298_42 : LO := [o 64 (.bin .eql (T 17) (ci 5)), o 60 (mv 64)]
def r298_44 : LO := [o 65 (.bin .eql (T 17) (ci 9)), o 60 (mv 65)]
def k298_6 : ACode := .seq (.region r298_42) (.cond (T 60) .skip (.region r298_44))
def k298_7 : ACode := .cond (T 60) .skip (.seq (.region r298_40) (.cond (T 60) .skip k298_6))
def k298_8 : ACode := .seq (.region r298_36) (.cond (T 60) .skip (.seq (.region r298_38) k298_7))
def r298_54 : LO := [o 18 (.build zV []), o 19 (ln 6 5), on (st 7 6 18)]
def r298_54t : LO := [on (st 6 7 19), o 8 (mi 12)]
def r298_54o : LN := [[], [], [0]]
def k298_9 : ACode := .cond (T 60) .skip (.seq (.drawn r298_54o r298_54 r298_54t) .ret)
def k298_10 : ACode := .cond (T 50) (.seq (.region r298_33) .ret) (.seq k298_8 k298_9)
def k298_11 : ACode := .cond (T 43) (.seq (.region r298_25) .ret) (.seq k298_5 k298_10)
def k298_12 : ACode := .seq (.region r298_2) (.cond (T 20) k298_4 (.seq (.region r298_24) k298_11))
def r298_67 : LO := [o 67 (ln 6 5), o 68 (.call (cf 302) [(T 67)]), o 66 (mv 68), o 69 (.extract 0 (T 66)), o 70 (.extract 1 (T 66)), o 71 (.extract 2 (T 66)), o 13 (.alloc [aE, (aI 0), (aI 0), (aI 0), (aI 0), (aI 0)]), o 12 (mv 69), on (st 6 13 70), o 14 (mv 71)]
def r298_68 : LO := [o 72 (mv 14), o 73 (.bin .neq (T 72) (ci 0))]
def r298_69 : LO := [o 74 (.build zV []), o 75 (ln 6 5), o 76 (mv 14), on (st 7 6 74), on (st 6 7 75)]
def r298_69t : LO := [o 8 (mv 76)]
def r298_69o : LN := [[], [], [], [0], [0, 1, 3]]
def k298_13 : ACode := .cond (T 73) (.seq (.drawn r298_69o r298_69 r298_69t) .ret) .skip
def r298_75 : LO := [o 77 (fa 5 4), o 78 (ld 77), o 79 (mv 12), o 80 (.build zV [((0, 1), (T 78)), ((1, 1), (T 79))]), o 15 (.alloc zV), on (st 7 15 80)]
def r298_76 : LO := [o 81 (fa 5 4), o 82 (ld 81), o 83 (.bin .eql (T 82) (ci 2)), o 84 (mv 83), og 85 (fa 5 4) 84 false, og 86 (ld 85) 84 false, og 87 (.bin .eql (T 86) (ci 3)) 84 false, o 88 (.pick (T 84) (cb true) (T 87))]
def r298_77 : LO := [o 89 (mv 12), o 90 (.call (cf 234) [(T 89)]), o 91 (.conv (.num .u64) (T 90)), o 92 (fa 1 15), on (st 1 92 91)]
def k298_14 : ACode := .seq (.region r298_76) (.cond (T 88) (.region r298_77) .skip)
def r298_81 : LO := [o 93 (fa 5 4), o 94 (ld 93), o 95 (ln 7 15), o 96 (.call (cf 235) [(T 94), (T 95)]), o 97 (.un .not (T 96))]
def r298_82 : LO := [o 98 (.build zV []), o 99 (ln 6 5), on (st 7 6 98)]
def r298_82t : LO := [on (st 6 7 99), o 8 (mi 6)]
def r298_82o : LN := [[], [], [0]]
def k298_15 : ACode := .cond (T 97) (.seq (.drawn r298_82o r298_82 r298_82t) .ret) .skip
def r298_88 : LO := [o 100 (fa 5 4), o 101 (ld 100), o 102 (.bin .eql (T 101) (ci 9)), o 103 (mv 102), og 104 (ln 2 3) 103 true, og 105 (fa 6 4) 103 true, og 106 (ld 105) 103 true, og 107 (mv 12) 103 true, og 108 (.call (cf 179) [(T 104), (T 106), (T 107)]) 103 true, og 109 (.un .not (T 108)) 103 true, o 110 (.pick (T 103) (T 109) (cb false))]
def r298_89 : LO := [o 111 (.build zV []), o 112 (ln 6 5), on (st 7 6 111)]
def r298_89t : LO := [on (st 6 7 112), o 8 (mi 16)]
def r298_89o : LN := [[], [], [0]]
def k298_16 : ACode := .cond (T 110) (.seq (.drawn r298_89o r298_89 r298_89t) .ret) .skip
def r298_95 : LO := [o 113 (ln 7 15), o 114 (ln 6 13), on (st 7 6 113)]
def r298_95t : LO := [on (st 6 7 114), o 8 (mi 0)]
def r298_95o : LN := [[], [], [0]]
def k298_17 : ACode := .seq (.seq (.region r298_88) k298_16) (.seq (.drawn r298_95o r298_95 r298_95t) .ret)
def k298_18 : ACode := .seq (.region r298_75) (.seq k298_14 (.seq (.seq (.region r298_81) k298_15) k298_17))
def k298_19 : ACode := .seq (.region r298_67) (.seq (.seq (.region r298_68) k298_13) k298_18)
def k298_20 : ACode := .seq (.region r298_0) (.seq (.seq (.region r298_1) (.block 0 k298_12)) k298_19)
theorem fn298 : getFn Tryz.prog 298 = some (115, k298_20, [.cell 6 (some 7), .cell 7 (some 6), .tmp 8]) := by kernel_rfl
def r301_0 : LO := [o 3 (bx 1), o 4 (.alloc zV), o 5 (.alloc [aE, (aI 0), (aI 0), (aI 0), (aI 0), (aI 0)]), o 6 (mi 0)]
def r301_1 : LO := [o 12 (ln 6 3), o 13 (.call (cf 302) [(T 12)]), o 11 (mv 13), o 14 (.extract 0 (T 11)), o 15 (.extract 1 (T 11)), o 16 (.extract 2 (T 11)), o 8 (.alloc [aE, (aI 0), (aI 0), (aI 0), (aI 0), (aI 0)]), o 7 (mv 14), on (st 6 8 15), o 9 (mv 16)]
def r301_2 : LO := [o 17 (mv 9), o 18 (.bin .neq (T 17) (ci 0))]
def r301_3 : LO := [o 19 (.build zV []), o 20 (ln 6 3), o 21 (mv 9), on (st 7 4 19), on (st 6 5 20)]
def r301_3t : LO := [o 6 (mv 21)]
def r301_3o : LN := [[], [], [], [0], [0, 1, 3]]
def k301_1 : ACode := .cond (T 18) (.seq (.drawn r301_3o r301_3 r301_3t) .ret) .skip
def r301_9 : LO := [o 22 (mv 7), o 23 (ln 6 8), o 24 (.call (cf 82) [(T 23)]), o 25 (.conv (.num .u64) (T 24)), o 26 (.bin .gtr (T 22) (T 25))]
def r301_10 : LO := [o 27 (.build zV []), o 28 (ln 6 3), on (st 7 4 27)]
def r301_10t : LO := [on (st 6 5 28), o 6 (mi 4)]
def r301_10o : LN := [[], [], [0]]
def k301_2 : ACode := .cond (T 26) (.seq (.drawn r301_10o r301_10 r301_10t) .ret) .skip
def r301_16 : LO := [o 30 (ln 6 8), o 31 (mv 7), o 32 (.conv (.num .i64) (T 31)), o 33 (.call (cf 233) [(T 30), (T 32)]), o 29 (mv 33), o 34 (.extract 0 (T 29)), o 35 (.extract 1 (T 29)), o 36 (.extract 2 (T 29)), o 10 (mv 34), on (st 6 8 35), o 9 (mv 36)]
def r301_17 : LO := [o 37 (mv 9), o 38 (.bin .neq (T 37) (ci 0))]
def r301_18 : LO := [o 39 (.build zV []), o 40 (ln 6 3), o 41 (mv 9), on (st 7 4 39), on (st 6 5 40)]
def r301_18t : LO := [o 6 (mv 41)]
def r301_18o : LN := [[], [], [], [0], [0, 1, 3]]
def k301_3 : ACode := .cond (T 38) (.seq (.drawn r301_18o r301_18 r301_18t) .ret) .skip
def r301_24 : LO := [o 42 (mv 0), o 43 (.bin .eql (T 42) (ci 7)), o 44 (mv 43), og 45 (mv 10) 44 true, og 46 (.call (cf 168) [(T 45)]) 44 true, og 47 (.un .not (T 46)) 44 true, o 48 (.pick (T 44) (T 47) (cb false))]
def r301_25 : LO := [o 49 (.build zV []), o 50 (ln 6 3), on (st 7 4 49)]
def r301_25t : LO := [on (st 6 5 50), o 6 (mi 7)]
def r301_25o : LN := [[], [], [0]]
def k301_4 : ACode := .cond (T 48) (.seq (.drawn r301_25o r301_25 r301_25t) .ret) .skip
def r301_31 : LO := [o 51 (mv 0), o 52 (mv 10), o 53 (.build zV [((0, 1), (T 51)), ((2, 1), (T 52))]), o 54 (ln 6 8), on (st 7 4 53)]
def r301_31t : LO := [on (st 6 5 54), o 6 (mi 0)]
def r301_31o : LN := [[], [], [0, 1], [], [0, 1, 2]]
def k301_5 : ACode := .seq (.seq (.region r301_24) k301_4) (.seq (.drawn r301_31o r301_31 r301_31t) .ret)
def k301_6 : ACode := .seq (.region r301_16) (.seq (.seq (.region r301_17) k301_3) k301_5)
def k301_7 : ACode := .seq (.seq (.region r301_2) k301_1) (.seq (.seq (.region r301_9) k301_2) k301_6)
def k301_8 : ACode := .seq (.region r301_0) (.seq (.region r301_1) k301_7)
theorem fn301 : getFn Tryz.prog 301 = some (55, k301_8, [.cell 4 (some 7), .cell 5 (some 6), .tmp 6]) := by kernel_rfl
def r302_0 : LO := [o 1 (bx 0), o 2 (.mv (.c (aU 0))), o 3 (.alloc [aE, (aI 0), (aI 0), (aI 0), (aI 0), (aI 0)]), o 4 (mi 0)]
def r302_1 : LO := [o 9 (ln 6 1), o 10 (.call (cf 116) [(T 9)]), o 8 (mv 10), o 11 (.extract 0 (T 8)), o 12 (.extract 1 (T 8)), o 13 (.extract 2 (T 8)), o 6 (.alloc [aE, (aI 0), (aI 0), (aI 0), (aI 0), (aI 0)]), o 5 (mv 11), on (st 6 6 12), o 7 (mv 13)]
def r302_2 : LO := [o 14 (mv 7), o 15 (.bin .neq (T 14) (ci 0))]
def r302_3 : LO := [o 16 (ln 6 1), o 17 (mv 7), o 2 (.mv (.c (aU 0))), on (st 6 3 16)]
def r302_3t : LO := [o 4 (mv 17)]
def r302_3o : LN := [[], [], [], [0, 2]]
def k302_1 : ACode := .cond (T 15) (.seq (.drawn r302_3o r302_3 r302_3t) .ret) .skip
def r302_9 : LO := [o 18 (fa 1 6), o 19 (ld 18), o 20 (fa 1 1), o 21 (ld 20), o 22 (.bin .sub (T 19) (T 21)), o 23 (mv 5), o 24 (.call (cf 303) [(T 23)])]
def r302_9t : LO := [o 25 (.bin .neq (T 22) (T 24))]
def r302_9o : LN := [[], [0], [], [2], [1, 3], [], [5]]
def r302_10 : LO := [o 26 (ln 6 1), o 2 (.mv (.c (aU 0)))]
def r302_10t : LO := [on (st 6 3 26), o 4 (mi 5)]
def r302_10o : LN := [[], []]
def k302_2 : ACode := .cond (T 25) (.seq (.drawn r302_10o r302_10 r302_10t) .ret) .skip
def r302_16 : LO := [o 27 (mv 5), o 28 (ln 6 6), o 2 (mv 27)]
def r302_16t : LO := [on (st 6 3 28), o 4 (mi 0)]
def r302_16o : LN := [[], [], [0]]
def k302_3 : ACode := .seq (.seq (.drawn r302_9o r302_9 r302_9t) k302_2) (.seq (.drawn r302_16o r302_16 r302_16t) .ret)
def k302_4 : ACode := .seq (.region r302_1) (.seq (.seq (.region r302_2) k302_1) k302_3)
def k302_5 : ACode := .seq (.region r302_0) k302_4
theorem fn302 : getFn Tryz.prog 302 = some (29, k302_5, [.tmp 2, .cell 3 (some 6), .tmp 4]) := by kernel_rfl
def r303_0 : LO := [o 2 (mi 0)]
def r303_1 : LO := [o 3 (mi 1)]
def r303_2 : LO := [o 4 (mv 0), o 5 (.bin .geq (T 4) (.c (aU 128)))]
def r303_7 : LO := [o 6 (mv 0), o 7 (.bin .shr (T 6) (.c (aU 7))), o 0 (mv 7)]
def r303_8 : LO := [o 8 (mv 3), o 9 (.bin .add (T 8) (ci 1)), o 3 (mv 9)]
def k303_1 : ACode := .seq (.seq (.region r303_2) (.cond (T 5) .skip (.exit 0))) (.block 1 (.seq (.region r303_7) (.region r303_8)))
def r303_14 : LO := [o 10 (mv 3), o 2 (mv 10)]
def k303_2 : ACode := .seq (.region r303_1) (.seq (.block 0 (.loop k303_1)) (.seq (.region r303_14) .ret))
def k303_3 : ACode := .seq (.region r303_0) k303_2
theorem fn303 : getFn Tryz.prog 303 = some (11, k303_3, [.tmp 2]) := by kernel_rfl
def r304_0 : LO := [o 5 (bx 0), o 6 (bx 1), o 9 (bx 4), o 10 (.alloc zV), o 11 (mi 0)]
def r304_1 : LO := [o 16 (ln 2 6), o 17 (mv 2), o 18 (mv 3), o 19 (ln 4 9), o 20 (.call (cf 306) [(T 16), (T 17), (T 18), (T 19)]), o 15 (mv 20), o 21 (.extract 0 (T 15)), o 22 (.extract 1 (T 15)), o 23 (.extract 2 (T 15)), o 12 (.alloc zV), on (st 7 12 21), o 13 (mv 22), o 14 (mv 23)]
def r304_2 : LO := [o 24 (ln 7 12), o 25 (mv 14), on (st 7 10 24), o 11 (mv 25)]
def k304_1 : ACode := .seq (.region r304_0) (.seq (.region r304_1) (.seq (.region r304_2) .ret))
theorem fn304 : getFn Tryz.prog 304 = some (26, k304_1, [.cell 10 (some 7), .tmp 11]) := by kernel_rfl
def r305_0 : LO := [o 4 (bx 0), o 5 (bx 1), o 7 (bx 3), o 8 (.mv (.c aE)), o 9 (mi 0)]
def r305_1 : LO := [o 10 (ln 2 5), o 11 (mv 2), o 12 (ln 7 7), o 13 (.call (cf 307) [(T 10), (T 11), (T 12)]), o 14 (.extract 0 (T 13)), o 15 (.extract 1 (T 13)), o 8 (mv 14), o 9 (mv 15)]
def k305_1 : ACode := .seq (.region r305_0) (.seq (.region r305_1) .ret)
theorem fn305 : getFn Tryz.prog 305 = some (16, k305_1, [.tmp 8, .tmp 9]) := by kernel_rfl
def r306_0 : LO := [o 4 (bx 0), o 7 (bx 3), o 8 (.alloc zV), o 9 (mi 0), o 10 (mi 0)]
def r306_1 : LO := [o 14 (ln 2 4), o 15 (mv 1), o 16 (mv 2), o 17 (ln 4 7), o 18 (.call (cf 308) [(T 14), (T 15), (T 16), (T 17)]), o 13 (mv 18), o 19 (.extract 0 (T 13)), o 20 (.extract 1 (T 13)), o 11 (mv 19), o 12 (mv 20)]
def r306_2 : LO := [o 21 (mv 12), o 22 (.bin .neq (T 21) (ci 0))]
def r306_3 : LO := [o 23 (.build zV []), o 24 (mv 12), on (st 7 8 23), o 9 (mi 0), o 10 (mv 24)]
def k306_1 : ACode := .seq (.region r306_2) (.cond (T 22) (.seq (.region r306_3) .ret) .skip)
def r306_9 : LO := [o 25 (mv 11), o 26 (mv 2), o 27 (.call (cf 309) [(T 25), (T 26)]), o 28 (.extract 0 (T 27)), o 29 (.extract 1 (T 27)), o 30 (.extract 2 (T 27)), on (st 7 8 28), o 9 (mv 29), o 10 (mv 30)]
def k306_2 : ACode := .seq (.region r306_1) (.seq k306_1 (.seq (.region r306_9) .ret))
def k306_3 : ACode := .seq (.region r306_0) k306_2
theorem fn306 : getFn Tryz.prog 306 = some (31, k306_3, [.cell 8 (some 7), .tmp 9, .tmp 10]) := by kernel_rfl
def r307_0 : LO := [o 3 (bx 0), o 5 (bx 2), o 6 (.mv (.c aE)), o 7 (mi 0)]
def r307_1 : LO := [o 16 (ln 2 3), o 17 (mv 1), o 18 (ln 7 5), o 19 (.call (cf 310) [(T 16), (T 17), (T 18)]), o 15 (mv 19), o 20 (.extract 0 (T 15)), o 21 (.extract 1 (T 15)), o 8 (mv 20), o 9 (mv 21)]
def r307_2 : LO := [o 22 (mv 9), o 23 (.bin .neq (T 22) (ci 0))]
def r307_3 : LO := [o 24 (mv 9), o 6 (.mv (.c aE)), o 7 (mv 24)]
def k307_1 : ACode := .seq (.region r307_2) (.cond (T 23) (.seq (.region r307_3) .ret) .skip)
def r307_9 : LO := [o 26 (mv 8), o 27 (.call (cf 311) [(T 26)]), o 25 (mv 27), o 28 (.extract 0 (T 25)), o 29 (.extract 1 (T 25)), o 10 (mv 28), o 11 (mv 29)]
def r307_10 : LO := [o 12 (.allocB 174 5)]
def r307_11 : LO := [o 30 (mv 10), o 31 (.len false (T 30)), o 32 (mi 0)]
def r307_12 : LO := [o 33 (.bin .lss (T 32) (T 31))]
def r307_16 : LO := [o 34 (mv 32), o 35 (.idxSl 1 (T 30) (T 32)), o 36 (ld 35), o 13 (mv 34), o 14 (mv 36)]
def r307_17 : LO := [o 37 (mv 11), o 38 (mv 13), o 39 (.idxSl 1 (T 37) (T 38)), o 40 (ld 39), o 41 (.call (cf 312) [(.c (aS ⟨#[32, 32]⟩)), (T 40)]), o 42 (mv 14), o 43 (.bin .add (T 41) (T 42)), o 44 (.bin .add (T 43) (.c (aS ⟨#[10]⟩))), o 45 (.call (cf 110) [(T 12), (T 44)])]
def r307_20 : LO := [o 46 (.bin .add (T 32) (ci 1)), o 32 (mv 46)]
def k307_2 : ACode := .seq (.block 1 (.seq (.region r307_16) (.region r307_17))) (.region r307_20)
def k307_3 : ACode := .seq (.region r307_12) (.seq (.cond (T 33) .skip (.exit 0)) k307_2)
def r307_27 : LO := [o 47 (.call (cf 114) [(T 12)]), o 48 (.call (cf 313) [(T 47)]), o 49 (.extract 0 (T 48)), o 50 (.extract 1 (T 48)), o 6 (mv 49), o 7 (mv 50)]
def k307_4 : ACode := .seq (.seq (.region r307_11) (.block 0 (.loop k307_3))) (.seq (.region r307_27) .ret)
def k307_5 : ACode := .seq k307_1 (.seq (.region r307_9) (.seq (.region r307_10) k307_4))
def k307_6 : ACode := .seq (.region r307_0) (.seq (.region r307_1) k307_5)
theorem fn307 : getFn Tryz.prog 307 = some (51, k307_6, [.tmp 6, .tmp 7]) := by kernel_rfl
def r308_0 : LO := [o 4 (bx 0), o 7 (bx 3), o 8 (.mv (.c (.v (.pointer none)))), o 9 (mi 0)]
def r308_1 : LO := [o 14 (ln 2 4), o 15 (mv 1), o 16 (.call (cf 63) [(T 14), (T 15)]), o 13 (mv 16), o 17 (.extract 0 (T 13)), o 18 (.extract 1 (T 13)), o 10 (mv 17), o 11 (mv 18)]
def r308_2 : LO := [o 20 (mv 11), o 21 (.un .not (T 20)), o 19 (mv 21)]
def r308_3 : LO := [o 8 (.mv (.c (.v (.pointer none)))), o 9 (mi 10)]
def r308_6 : LO := [o 23 (fa 0 7), o 24 (ld 23), o 25 (.bin .lss (T 24) (ci 0)), o 26 (mv 25), og 27 (fa 1 7) 26 false, og 28 (ld 27) 26 false, og 29 (.bin .lss (T 28) (ci 0)) 26 false, o 30 (.pick (T 26) (cb true) (T 29)), o 31 (mv 30), og 32 (fa 2 7) 31 false, og 33 (ld 32) 31 false, og 34 (.bin .lss (T 33) (ci 0)) 31 false, o 35 (.pick (T 31) (cb true) (T 34)), o 36 (mv 35), og 37 (fa 3 7) 36 false, og 38 (ld 37) 36 false, og 39 (.bin .lss (T 38) (ci 0)) 36 false, o 40 (.pick (T 36) (cb true) (T 39)), o 22 (mv 40)]
def r308_7 : LO := [o 8 (.mv (.c (.v (.pointer none)))), o 9 (mi 1)]
def r308_10 : LO := [o 42 (mv 2), o 43 (.len true (T 42)), o 44 (.bin .quo (T 43) (ci 4)), o 45 (fa 0 7), o 46 (ld 45), o 47 (.bin .gtr (T 44) (T 46)), o 48 (mv 47), og 49 (mv 2) 48 false, og 50 (.len true (T 49)) 48 false, og 51 (.bin .quo (T 50) (ci 4)) 48 false, og 52 (fa 0 7) 48 false, og 53 (ld 52) 48 false, og 54 (.bin .eql (T 51) (T 53)) 48 false, og 55 (mv 54) 48 false, og 56 (mv 2) 55 true, og 57 (.len true (T 56)) 55 true, og 58 (.bin .rem (T 57) (ci 4)) 55 true, og 59 (.bin .gtr (T 58) (ci 0)) 55 true, og 60 (.pick (T 55) (T 59) (cb false)) 48 false, o 61 (.pick (T 48) (cb true) (T 60)), o 41 (mv 61)]
def r308_11 : LO := [o 8 (.mv (.c (.v (.pointer none)))), o 9 (mi 3)]
def r308_14 : LO := [o 63 (fa 1 7), o 64 (ld 63), o 65 (.bin .eql (T 64) (ci 0)), o 62 (mv 65)]
def r308_15 : LO := [o 8 (.mv (.c (.v (.pointer none)))), o 9 (mi 17)]
def r308_18 : LO := [o 67 (fa 2 7), o 68 (ld 67), o 69 (.bin .eql (T 68) (ci 0)), o 66 (mv 69)]
def r308_19 : LO := [o 8 (.mv (.c (.v (.pointer none)))), o 9 (mi 3)]
def k308_1 : ACode := .seq (.region r308_18) (.cond (T 66) (.seq (.region r308_19) .ret) .skip)
def k308_2 : ACode := .seq (.region r308_14) (.cond (T 62) (.seq (.region r308_15) .ret) k308_1)
def k308_3 : ACode := .seq (.region r308_10) (.cond (T 41) (.seq (.region r308_11) .ret) k308_2)
def k308_4 : ACode := .seq (.region r308_6) (.cond (T 22) (.seq (.region r308_7) .ret) k308_3)
def k308_5 : ACode := .seq (.region r308_2) (.cond (T 19) (.seq (.region r308_3) .ret) k308_4)
def r308_34 : LO := [o 70 (mv 10), o 71 (.build zV [((0, 1), (ci 10))]), o 72 (.build [(aI 0), (aI 0), (aU 0), aE, .nil, .nil, .nil, .nil, (aI 0), aE, aE, (aI 0), (aI 0), (aI 0), (aI 0), (aI 0), (aI 0), (aU 0), aE, .nil, .nil, .nil, .nil] [((0, 1), (T 70)), ((1, 7), (T 71))]), o 73 (bx 72), o 12 (mv 73)]
def r308_35 : LO := [o 74 (ln 2 4), o 75 (ln 4 7), o 76 (fa 2 7), o 77 (ld 76), o 78 (.bin .sub (T 77) (ci 1)), o 79 (mv 12), o 80 (.sliceLit 1 1 [(.v (.pointer none))] [((0, 1), (T 79))]), o 81 (.build [.nil, .nil, (aI 0), (aI 0), (aI 0), (aI 0), (aI 0), .nil] [((0, 2), (T 74)), ((2, 4), (T 75)), ((6, 1), (T 78)), ((7, 1), (T 80))]), o 82 (bx 81), o 8 (mv 82), o 9 (mi 0)]
def k308_6 : ACode := .seq (.block 0 k308_5) (.seq (.region r308_34) (.seq (.region r308_35) .ret))
def k308_7 : ACode := .seq (.region r308_0) (.seq (.region r308_1) k308_6)
theorem fn308 : getFn Tryz.prog 308 = some (83, k308_7, [.tmp 8, .tmp 9]) := by kernel_rfl
def r309_0 : LO := [o 4 (.alloc zV), o 5 (mi 0), o 6 (mi 0)]
def r309_1 : LO := [o 7 (mi 0)]
def r309_2 : LO := [o 12 (mv 1), o 13 (.bin .neq (T 12) (.c aE))]
def r309_7 : LO := [o 14 (mv 7), o 15 (.bin .add (T 14) (ci 1)), o 7 (mv 15)]
def r309_8 : LO := [o 17 (mv 1), o 18 (.call (cf 314) [(T 17), (.c (aS ⟨#[10]⟩))]), o 16 (mv 18), o 19 (.extract 0 (T 16)), o 20 (.extract 1 (T 16)), o 21 (.extract 2 (T 16)), o 8 (mv 19), o 9 (mv 20), o 10 (mv 21)]
def r309_9 : LO := [o 22 (mv 10), o 23 (.un .not (T 22))]
def r309_10 : LO := [o 24 (.build zV []), o 25 (mv 7), on (st 7 4 24), o 5 (mv 25), o 6 (mi 2)]
def k309_1 : ACode := .seq (.region r309_9) (.cond (T 23) (.seq (.region r309_10) .ret) .skip)
def r309_16 : LO := [o 26 (mv 0), o 27 (mv 8), o 28 (.call (cf 315) [(T 26), (T 27)]), o 11 (mv 28)]
def r309_17 : LO := [o 29 (mv 11), o 30 (.bin .neq (T 29) (ci 0))]
def r309_18 : LO := [o 31 (.build zV []), o 32 (mv 7), o 33 (mv 11), on (st 7 4 31), o 5 (mv 32), o 6 (mv 33)]
def k309_2 : ACode := .seq (.region r309_17) (.cond (T 30) (.seq (.region r309_18) .ret) .skip)
def r309_25 : LO := [o 34 (mv 9), o 1 (mv 34)]
def k309_3 : ACode := .seq k309_1 (.seq (.seq (.region r309_16) k309_2) (.region r309_25))
def k309_4 : ACode := .block 1 (.seq (.region r309_7) (.seq (.region r309_8) k309_3))
def k309_5 : ACode := .seq (.seq (.region r309_2) (.cond (T 13) .skip (.exit 0))) k309_4
def r309_34 : LO := [o 35 (mv 0), o 36 (.nilCheck (T 35)), o 37 (fa 7 36), o 38 (ld 37), o 39 (.len false (T 38)), o 40 (.bin .gtr (T 39) (ci 1))]
def r309_35 : LO := [o 41 (.build zV []), o 42 (mv 7), o 43 (.bin .add (T 42) (ci 1)), on (st 7 4 41), o 5 (mv 43), o 6 (mi 2)]
def k309_6 : ACode := .seq (.region r309_34) (.cond (T 40) (.seq (.region r309_35) .ret) .skip)
def r309_41 : LO := [o 44 (mv 0), o 45 (mv 0), o 46 (.call (cf 317) [(T 45)]), o 47 (.call (cf 316) [(T 44), (T 46)])]
def r309_42 : LO := [o 48 (.build zV []), o 49 (mv 7), on (st 7 4 48), o 5 (mv 49), o 6 (mi 14)]
def k309_7 : ACode := .seq (.region r309_41) (.cond (T 47) (.seq (.region r309_42) .ret) .skip)
def r309_48 : LO := [o 50 (mv 0), o 51 (.nilCheck (T 50)), o 52 (fa 0 51), o 53 (ln 2 52), o 54 (mv 0), o 55 (.call (cf 317) [(T 54)]), o 56 (.nilCheck (T 55)), o 57 (fa 0 56), o 58 (ld 57), o 59 (mv 0), o 60 (.call (cf 317) [(T 59)]), o 61 (.nilCheck (T 60)), o 62 (fa 1 61), o 63 (ln 7 62)]
def r309_48t : LO := [o 64 (.call (cf 71) [(T 53), (T 58), (T 63)]), on (st 7 4 64), o 5 (mi 0), o 6 (mi 0)]
def r309_48o : LN := [[], [0], [1], [2], [], [4], [5], [6], [7], [], [5, 9], [10], [11], [12]]
def k309_8 : ACode := .seq k309_6 (.seq k309_7 (.seq (.drawn r309_48o r309_48 r309_48t) .ret))
def k309_9 : ACode := .seq (.region r309_1) (.seq (.block 0 (.loop k309_5)) k309_8)
def k309_10 : ACode := .seq (.region r309_0) k309_9
theorem fn309 : getFn Tryz.prog 309 = some (65, k309_10, [.cell 4 (some 7), .tmp 5, .tmp 6]) := by kernel_rfl
def r310_0 : LO := [o 3 (bx 0), o 5 (bx 2), o 6 (.mv (.c (.v (.pointer none)))), o 7 (mi 0)]
def r310_1 : LO := [o 13 (ln 2 3), o 14 (mv 1), o 15 (.call (cf 63) [(T 13), (T 14)]), o 12 (mv 15), o 16 (.extract 0 (T 12)), o 17 (.extract 1 (T 12)), o 8 (mv 16), o 9 (mv 17)]
def r310_2 : LO := [o 18 (mv 9), o 19 (.un .not (T 18))]
def r310_3 : LO := [o 6 (.mv (.c (.v (.pointer none)))), o 7 (mi 10)]
def k310_1 : ACode := .seq (.region r310_2) (.cond (T 19) (.seq (.region r310_3) .ret) .skip)
def r310_9 : LO := [o 20 (ln 2 3), o 21 (mv 8), o 22 (ln 7 5), o 23 (.call (cf 66) [(T 20), (T 21), (T 22)]), o 10 (mv 23)]
def r310_10 : LO := [o 24 (mv 10), o 25 (.bin .neq (T 24) (ci 0))]
def r310_11 : LO := [o 26 (mv 10), o 6 (.mv (.c (.v (.pointer none)))), o 7 (mv 26)]
def k310_2 : ACode := .seq (.region r310_10) (.cond (T 25) (.seq (.region r310_11) .ret) .skip)
def r310_18 : LO := [o 27 (ln 7 5), o 28 (.call (cf 318) [(T 27)])]
def r310_19 : LO := [o 6 (.mv (.c (.v (.pointer none)))), o 7 (mi 18)]
def k310_3 : ACode := .seq (.region r310_18) (.cond (T 28) (.seq (.region r310_19) .ret) .skip)
def r310_25 : LO := [o 29 (ln 2 3), o 30 (.build [.nil, .nil, .nil] [((0, 2), (T 29))]), o 31 (bx 30), o 11 (mv 31)]
def r310_26 : LO := [o 32 (mv 11), o 33 (mv 8), o 34 (ln 2 3), o 35 (mv 8), o 36 (ln 7 5), o 37 (.call (cf 71) [(T 34), (T 35), (T 36)]), o 38 (.call (cf 319) [(T 32), (T 33), (T 37)])]
def r310_27 : LO := [o 39 (mv 11), o 6 (mv 39), o 7 (mi 0)]
def k310_4 : ACode := .seq (.region r310_25) (.seq (.region r310_26) (.seq (.region r310_27) .ret))
def k310_5 : ACode := .seq k310_1 (.seq (.seq (.region r310_9) k310_2) (.seq k310_3 k310_4))
def k310_6 : ACode := .seq (.region r310_0) (.seq (.region r310_1) k310_5)
theorem fn310 : getFn Tryz.prog 310 = some (40, k310_6, [.tmp 6, .tmp 7]) := by kernel_rfl
def r311_0 : LO := [o 2 (.mv (.c .nil)), o 3 (.mv (.c .nil))]
def r311_1 : LO := [o 4 (.mv (.c .nil))]
def r311_2 : LO := [o 5 (.mv (.c .nil))]
def r311_3 : LO := [o 6 (mi 0)]
def r311_4 : LO := [o 14 (mv 0), o 15 (.nilCheck (T 14)), o 16 (fa 2 15), o 17 (ld 16), o 18 (.len false (T 17)), o 19 (mi 0)]
def r311_5 : LO := [o 20 (.bin .lss (T 19) (T 18))]
def r311_9 : LO := [o 21 (.idxSl 1 (T 17) (T 19)), o 22 (ld 21), o 8 (mv 22)]
def r311_10 : LO := [o 23 (mv 6), o 9 (mv 23)]
def r311_11 : LO := [o 10 (.mv (.c (aS ⟨#[125]⟩)))]
def r311_12 : LO := [o 24 (mv 8)]
def r311_13 : LO := [o 25 (.assertT 354 true (.agg [aE, aE]) (T 24)), o 26 (.extract 1 (T 25)), o 27 (.extract 0 (T 25))]
def r311_14 : LO := [o 11 (.alloc [aE, aE]), on (st 2 11 27)]
def r311_15 : LO := [o 28 (fa 0 11), o 29 (ld 28), o 30 (.bin .add (T 29) (.c (aS ⟨#[58, 32]⟩))), o 31 (fa 1 11), o 32 (ld 31), o 33 (.bin .add (T 30) (T 32)), o 10 (mv 33)]
def r311_17 : LO := [o 34 (.assertT 356 true (.agg [aE]) (T 24)), o 35 (.extract 1 (T 34)), o 36 (.extract 0 (T 34))]
def r311_18 : LO := [o 12 (.alloc [aE]), on (st 1 12 36)]
def r311_19 : LO := [o 37 (fa 0 12), o 38 (ld 37), o 39 (.bin .add (T 38) (.c (aS ⟨#[32, 123]⟩))), o 10 (mv 39)]
def r311_20 : LO := [o 40 (mv 6), o 41 (.bin .add (T 40) (ci 1)), o 6 (mv 41)]
def k311_1 : ACode := .seq (.region r311_18) (.seq (.region r311_19) (.region r311_20))
def r311_23 : LO := [o 42 (.assertT 357 true (.agg []) (T 24)), o 43 (.extract 1 (T 42)), o 44 (.extract 0 (T 42))]
def r311_24 : LO := [o 13 (.alloc []), on (st 0 13 44)]
def r311_25 : LO := [o 45 (mv 6), o 46 (.bin .sub (T 45) (ci 1)), o 6 (mv 46)]
def r311_26 : LO := [o 47 (mv 6), o 9 (mv 47)]
def k311_2 : ACode := .seq (.region r311_24) (.seq (.region r311_25) (.region r311_26))
def k311_3 : ACode := .cond (T 35) k311_1 (.seq (.region r311_23) (.cond (T 43) k311_2 .skip))
def k311_4 : ACode := .cond (T 26) (.seq (.region r311_14) (.region r311_15)) (.seq (.region r311_17) k311_3)
def k311_5 : ACode := .seq (.region r311_12) (.block 2 (.seq (.region r311_13) k311_4))
def r311_38 : LO := [o 48 (mv 4), o 49 (mv 10), o 50 (.sliceLit 1 1 [aE] [((0, 1), (T 49))]), o 51 (.append 9 1 16 (T 48) (T 50)), o 52 (mv 5), o 53 (mv 9), o 54 (.sliceLit 1 1 [(aI 0)] [((0, 1), (T 53))]), o 55 (.append 3 1 8 (T 52) (T 54)), o 4 (mv 51), o 5 (mv 55)]
def k311_6 : ACode := .seq (.region r311_10) (.seq (.region r311_11) (.seq k311_5 (.region r311_38)))
def r311_44 : LO := [o 56 (.bin .add (T 19) (ci 1)), o 19 (mv 56)]
def k311_7 : ACode := .seq (.block 1 (.seq (.region r311_9) k311_6)) (.region r311_44)
def k311_8 : ACode := .seq (.region r311_5) (.seq (.cond (T 20) .skip (.exit 0)) k311_7)
def r311_51 : LO := [o 57 (mv 4), o 58 (mv 5), o 2 (mv 57), o 3 (mv 58)]
def k311_9 : ACode := .seq (.seq (.region r311_4) (.block 0 (.loop k311_8))) (.seq (.region r311_51) .ret)
def k311_10 : ACode := .seq (.region r311_1) (.seq (.region r311_2) (.seq (.region r311_3) k311_9))
def k311_11 : ACode := .seq (.region r311_0) k311_10
theorem fn311 : getFn Tryz.prog 311 = some (59, k311_11, [.tmp 2, .tmp 3]) := by kernel_rfl
def r312_0 : LO := [o 4 (.mv (.c aE))]
def r312_1 : LO := [o 11 (mv 1)]
def r312_2 : LO := [o 13 (.bin .eql (T 11) (ci 0)), o 12 (mv 13)]
def r312_3 : LO := [o 4 (.mv (.c aE))]
def r312_6 : LO := [o 15 (.bin .eql (T 11) (ci 1)), o 14 (mv 15)]
def r312_7 : LO := [o 16 (mv 0), o 4 (mv 16)]
def k312_1 : ACode := .seq (.region r312_6) (.cond (T 14) (.seq (.region r312_7) .ret) .skip)
def k312_2 : ACode := .seq (.region r312_2) (.cond (T 12) (.seq (.region r312_3) .ret) k312_1)
def r312_17 : LO := [o 17 (mv 1), o 18 (.bin .lss (T 17) (ci 0))]
def r312_18 : LO := [o 19 (.iface 9 (.c (aS ⟨#[115, 116, 114, 105, 110, 103, 115, 58, 32, 110, 101, 103, 97, 116, 105, 118, 101, 32, 82, 101, 112, 101, 97, 116, 32, 99, 111, 117, 110, 116]⟩))), on (.bad)]
def k312_3 : ACode := .seq (.region r312_17) (.cond (T 18) (.region r312_18) .skip)
def r312_22 : LO := [o 21 (mv 0), o 22 (.len true (T 21)), o 23 (.conv (.num .u64) (T 22)), o 24 (mv 1), o 25 (.conv (.num .u64) (T 24)), o 26 (.call (cf 320) [(T 23), (T 25)]), o 20 (mv 26), o 27 (.extract 0 (T 20)), o 28 (.extract 1 (T 20)), o 5 (mv 27), o 6 (mv 28)]
def r312_23 : LO := [o 29 (mv 5), o 30 (.bin .gtr (T 29) (.c (aU 0))), o 31 (mv 30), og 32 (mv 6) 31 false, og 33 (.bin .gtr (T 32) (.c (aU 9223372036854775807))) 31 false, o 34 (.pick (T 31) (cb true) (T 33))]
def r312_24 : LO := [o 35 (.iface 9 (.c (aS ⟨#[115, 116, 114, 105, 110, 103, 115, 58, 32, 82, 101, 112, 101, 97, 116, 32, 111, 117, 116, 112, 117, 116, 32, 108, 101, 110, 103, 116, 104, 32, 111, 118, 101, 114, 102, 108, 111, 119]⟩))), on (.bad)]
def k312_4 : ACode := .seq (.region r312_23) (.cond (T 34) (.region r312_24) .skip)
def r312_28 : LO := [o 36 (mv 6), o 37 (.conv (.num .i64) (T 36)), o 7 (mv 37)]
def r312_29 : LO := [o 38 (mv 0), o 39 (.len true (T 38)), o 40 (.bin .eql (T 39) (ci 0))]
def r312_30 : LO := [o 4 (.mv (.c aE))]
def k312_5 : ACode := .seq (.region r312_29) (.cond (T 40) (.seq (.region r312_30) .ret) .skip)
def r312_36 : LO := [o 41 (mv 0), o 42 (.idxS (T 41) (ci 0))]
def r312_37 : LO := [o 44 (.bin .eql (T 42) (.c (aC 32))), o 43 (mv 44)]
def r312_39 : LO := [o 45 (.bin .eql (T 42) (.c (aC 45))), o 43 (mv 45)]
def r312_41 : LO := [o 46 (.bin .eql (T 42) (.c (aC 48))), o 43 (mv 46)]
def r312_43 : LO := [o 47 (.bin .eql (T 42) (.c (aC 61))), o 43 (mv 47)]
def r312_45 : LO := [o 48 (.bin .eql (T 42) (.c (aC 9))), o 43 (mv 48)]
def k312_6 : ACode := .seq (.region r312_43) (.cond (T 43) .skip (.region r312_45))
def k312_7 : ACode := .cond (T 43) .skip (.seq (.region r312_41) (.cond (T 43) .skip k312_6))
def k312_8 : ACode := .seq (.region r312_37) (.cond (T 43) .skip (.seq (.region r312_39) k312_7))
def r312_54 : LO := [o 50 (mv 7), o 51 (.bin .leq (T 50) (ci 128)), o 52 (mv 51), og 53 (mv 0) 52 true, og 54 (.call (cf 265) [(.c (aS ⟨#[32, 32, 32, 32, 32, 32, 32, 32, 32, 32, 32, 32, 32, 32, 32, 32, 32, 32, 32, 32, 32, 32, 32, 32, 32, 32, 32, 32, 32, 32, 32, 32, 32, 32, 32, 32, 32, 32, 32, 32, 32, 32, 32, 32, 32, 32, 32, 32, 32, 32, 32, 32, 32, 32, 32, 32, 32, 32, 32, 32, 32, 32, 32, 32, 32, 32, 32, 32, 32, 32, 32, 32, 32, 32, 32, 32, 32, 32, 32, 32, 32, 32, 32, 32, 32, 32, 32, 32, 32, 32, 32, 32, 32, 32, 32, 32, 32, 32, 32, 32, 32, 32, 32, 32, 32, 32, 32, 32, 32, 32, 32, 32, 32, 32, 32, 32, 32, 32, 32, 32, 32, 32, 32, 32, 32, 32, 32, 32]⟩)), (T 53)]) 52 true, o 55 (.pick (T 52) (T 54) (cb false)), o 49 (mv 55)]
def r312_55 : LO := [o 56 (mv 7), o 57 (.sliceS (.c (aS ⟨#[32, 32, 32, 32, 32, 32, 32, 32, 32, 32, 32, 32, 32, 32, 32, 32, 32, 32, 32, 32, 32, 32, 32, 32, 32, 32, 32, 32, 32, 32, 32, 32, 32, 32, 32, 32, 32, 32, 32, 32, 32, 32, 32, 32, 32, 32, 32, 32, 32, 32, 32, 32, 32, 32, 32, 32, 32, 32, 32, 32, 32, 32, 32, 32, 32, 32, 32, 32, 32, 32, 32, 32, 32, 32, 32, 32, 32, 32, 32, 32, 32, 32, 32, 32, 32, 32, 32, 32, 32, 32, 32, 32, 32, 32, 32, 32, 32, 32, 32, 32, 32, 32, 32, 32, 32, 32, 32, 32, 32, 32, 32, 32, 32, 32, 32, 32, 32, 32, 32, 32, 32, 32, 32, 32, 32, 32, 32, 32]⟩)) none (some (T 56))), o 4 (mv 57)]
def r312_58 : LO := [o 59 (mv 7), o 60 (.bin .leq (T 59) (ci 128)), o 61 (mv 60), og 62 (mv 0) 61 true, og 63 (.call (cf 265) [(.c (aS ⟨#[45, 45, 45, 45, 45, 45, 45, 45, 45, 45, 45, 45, 45, 45, 45, 45, 45, 45, 45, 45, 45, 45, 45, 45, 45, 45, 45, 45, 45, 45, 45, 45, 45, 45, 45, 45, 45, 45, 45, 45, 45, 45, 45, 45, 45, 45, 45, 45, 45, 45, 45, 45, 45, 45, 45, 45, 45, 45, 45, 45, 45, 45, 45, 45, 45, 45, 45, 45, 45, 45, 45, 45, 45, 45, 45, 45, 45, 45, 45, 45, 45, 45, 45, 45, 45, 45, 45, 45, 45, 45, 45, 45, 45, 45, 45, 45, 45, 45, 45, 45, 45, 45, 45, 45, 45, 45, 45, 45, 45, 45, 45, 45, 45, 45, 45, 45, 45, 45, 45, 45, 45, 45, 45, 45, 45, 45, 45, 45]⟩)), (T 62)]) 61 true, o 64 (.pick (T 61) (T 63) (cb false)), o 58 (mv 64)]
def r312_59 : LO := [o 65 (mv 7), o 66 (.sliceS (.c (aS ⟨#[45, 45, 45, 45, 45, 45, 45, 45, 45, 45, 45, 45, 45, 45, 45, 45, 45, 45, 45, 45, 45, 45, 45, 45, 45, 45, 45, 45, 45, 45, 45, 45, 45, 45, 45, 45, 45, 45, 45, 45, 45, 45, 45, 45, 45, 45, 45, 45, 45, 45, 45, 45, 45, 45, 45, 45, 45, 45, 45, 45, 45, 45, 45, 45, 45, 45, 45, 45, 45, 45, 45, 45, 45, 45, 45, 45, 45, 45, 45, 45, 45, 45, 45, 45, 45, 45, 45, 45, 45, 45, 45, 45, 45, 45, 45, 45, 45, 45, 45, 45, 45, 45, 45, 45, 45, 45, 45, 45, 45, 45, 45, 45, 45, 45, 45, 45, 45, 45, 45, 45, 45, 45, 45, 45, 45, 45, 45, 45]⟩)) none (some (T 65))), o 4 (mv 66)]
def r312_62 : LO := [o 68 (mv 7), o 69 (.bin .leq (T 68) (ci 64)), o 70 (mv 69), og 71 (mv 0) 70 true, og 72 (.call (cf 265) [(.c (aS ⟨#[48, 48, 48, 48, 48, 48, 48, 48, 48, 48, 48, 48, 48, 48, 48, 48, 48, 48, 48, 48, 48, 48, 48, 48, 48, 48, 48, 48, 48, 48, 48, 48, 48, 48, 48, 48, 48, 48, 48, 48, 48, 48, 48, 48, 48, 48, 48, 48, 48, 48, 48, 48, 48, 48, 48, 48, 48, 48, 48, 48, 48, 48, 48, 48]⟩)), (T 71)]) 70 true, o 73 (.pick (T 70) (T 72) (cb false)), o 67 (mv 73)]
def r312_63 : LO := [o 74 (mv 7), o 75 (.sliceS (.c (aS ⟨#[48, 48, 48, 48, 48, 48, 48, 48, 48, 48, 48, 48, 48, 48, 48, 48, 48, 48, 48, 48, 48, 48, 48, 48, 48, 48, 48, 48, 48, 48, 48, 48, 48, 48, 48, 48, 48, 48, 48, 48, 48, 48, 48, 48, 48, 48, 48, 48, 48, 48, 48, 48, 48, 48, 48, 48, 48, 48, 48, 48, 48, 48, 48, 48]⟩)) none (some (T 74))), o 4 (mv 75)]
def r312_66 : LO := [o 77 (mv 7), o 78 (.bin .leq (T 77) (ci 128)), o 79 (mv 78), og 80 (mv 0) 79 true, og 81 (.call (cf 265) [(.c (aS ⟨#[61, 61, 61, 61, 61, 61, 61, 61, 61, 61, 61, 61, 61, 61, 61, 61, 61, 61, 61, 61, 61, 61, 61, 61, 61, 61, 61, 61, 61, 61, 61, 61, 61, 61, 61, 61, 61, 61, 61, 61, 61, 61, 61, 61, 61, 61, 61, 61, 61, 61, 61, 61, 61, 61, 61, 61, 61, 61, 61, 61, 61, 61, 61, 61, 61, 61, 61, 61, 61, 61, 61, 61, 61, 61, 61, 61, 61, 61, 61, 61, 61, 61, 61, 61, 61, 61, 61, 61, 61, 61, 61, 61, 61, 61, 61, 61, 61, 61, 61, 61, 61, 61, 61, 61, 61, 61, 61, 61, 61, 61, 61, 61, 61, 61, 61, 61, 61, 61, 61, 61, 61, 61, 61, 61, 61, 61, 61, 61]⟩)), (T 80)]) 79 true, o 82 (.pick (T 79) (T 81) (cb false)), o 76 (mv 82)]
def r312_67 : LO := [o 83 (mv 7), o 84 (.sliceS (.c (aS ⟨#[61, 61, 61, 61, 61, 61, 61, 61, 61, 61, 61, 61, 61, 61, 61, 61, 61, 61, 61, 61, 61, 61, 61, 61, 61, 61, 61, 61, 61, 61, 61, 61, 61, 61, 61, 61, 61, 61, 61, 61, 61, 61, 61, 61, 61, 61, 61, 61, 61, 61, 61, 61, 61, 61, 61, 61, 61, 61, 61, 61, 61, 61, 61, 61, 61, 61, 61, 61, 61, 61, 61, 61, 61, 61, 61, 61, 61, 61, 61, 61, 61, 61, 61, 61, 61, 61, 61, 61, 61, 61, 61, 61, 61, 61, 61, 61, 61, 61, 61, 61, 61, 61, 61, 61, 61, 61, 61, 61, 61, 61, 61, 61, 61, 61, 61, 61, 61, 61, 61, 61, 61, 61, 61, 61, 61, 61, 61, 61]⟩)) none (some (T 83))), o 4 (mv 84)]
def r312_70 : LO := [o 86 (mv 7), o 87 (.bin .leq (T 86) (ci 64)), o 88 (mv 87), og 89 (mv 0) 88 true, og 90 (.call (cf 265) [(.c (aS ⟨#[9, 9, 9, 9, 9, 9, 9, 9, 9, 9, 9, 9, 9, 9, 9, 9, 9, 9, 9, 9, 9, 9, 9, 9, 9, 9, 9, 9, 9, 9, 9, 9, 9, 9, 9, 9, 9, 9, 9, 9, 9, 9, 9, 9, 9, 9, 9, 9, 9, 9, 9, 9, 9, 9, 9, 9, 9, 9, 9, 9, 9, 9, 9, 9]⟩)), (T 89)]) 88 true, o 91 (.pick (T 88) (T 90) (cb false)), o 85 (mv 91)]
def r312_71 : LO := [o 92 (mv 7), o 93 (.sliceS (.c (aS ⟨#[9, 9, 9, 9, 9, 9, 9, 9, 9, 9, 9, 9, 9, 9, 9, 9, 9, 9, 9, 9, 9, 9, 9, 9, 9, 9, 9, 9, 9, 9, 9, 9, 9, 9, 9, 9, 9, 9, 9, 9, 9, 9, 9, 9, 9, 9, 9, 9, 9, 9, 9, 9, 9, 9, 9, 9, 9, 9, 9, 9, 9, 9, 9, 9]⟩)) none (some (T 92))), o 4 (mv 93)]
def k312_9 : ACode := .seq (.region r312_70) (.cond (T 85) (.seq (.region r312_71) .ret) .skip)
def k312_10 : ACode := .seq (.region r312_66) (.cond (T 76) (.seq (.region r312_67) .ret) k312_9)
def k312_11 : ACode := .seq (.region r312_62) (.cond (T 67) (.seq (.region r312_63) .ret) k312_10)
def k312_12 : ACode := .seq (.region r312_58) (.cond (T 58) (.seq (.region r312_59) .ret) k312_11)
def k312_13 : ACode := .seq (.region r312_54) (.cond (T 49) (.seq (.region r312_55) .ret) k312_12)
def k312_14 : ACode := .block 1 (.seq k312_8 (.cond (T 43) (.block 2 k312_13) .skip))
def r312_91 : LO := [o 94 (mv 7), o 8 (mv 94)]
def r312_92 : LO := [o 95 (mv 7), o 96 (.bin .gtr (T 95) (ci 8192))]
def r312_93 : LO := [o 97 (mv 0), o 98 (.len true (T 97)), o 99 (.bin .quo (ci 8192) (T 98)), o 100 (mv 0), o 101 (.len true (T 100)), o 102 (.bin .mul (T 99) (T 101)), o 8 (mv 102)]
def r312_94 : LO := [o 103 (mv 8), o 104 (.bin .eql (T 103) (ci 0))]
def r312_95 : LO := [o 105 (mv 0), o 106 (.len true (T 105)), o 8 (mv 106)]
def k312_15 : ACode := .seq (.region r312_94) (.cond (T 104) (.region r312_95) .skip)
def k312_16 : ACode := .seq (.region r312_92) (.cond (T 96) (.seq (.region r312_93) k312_15) .skip)
def r312_103 : LO := [o 9 (.allocB 174 5)]
def r312_104 : LO := [o 107 (mv 7), o 108 (.call (cf 321) [(T 9), (T 107)])]
def r312_105 : LO := [o 109 (mv 0), o 110 (.call (cf 110) [(T 9), (T 109)])]
def r312_106 : LO := [o 111 (.call (cf 322) [(T 9)]), o 112 (mv 7), o 113 (.bin .lss (T 111) (T 112))]
def r312_111 : LO := [o 114 (mv 7), o 115 (.call (cf 322) [(T 9)]), o 116 (.bin .sub (T 114) (T 115)), o 117 (.call (cf 322) [(T 9)]), o 118 (mv 8), o 119 (.minmax false [(T 116), (T 117), (T 118)]), o 10 (mv 119)]
def r312_112 : LO := [o 120 (.call (cf 114) [(T 9)]), o 121 (mv 10), o 122 (.sliceS (T 120) none (some (T 121))), o 123 (.call (cf 110) [(T 9), (T 122)])]
def k312_17 : ACode := .seq (.seq (.region r312_106) (.cond (T 113) .skip (.exit 3))) (.block 4 (.seq (.region r312_111) (.region r312_112)))
def r312_118 : LO := [o 124 (.call (cf 114) [(T 9)]), o 4 (mv 124)]
def k312_18 : ACode := .seq (.block 3 (.loop k312_17)) (.seq (.region r312_118) .ret)
def k312_19 : ACode := .seq (.region r312_103) (.seq (.region r312_104) (.seq (.region r312_105) k312_18))
def k312_20 : ACode := .seq (.seq (.region r312_36) k312_14) (.seq (.region r312_91) (.seq k312_16 k312_19))
def k312_21 : ACode := .seq (.region r312_22) (.seq k312_4 (.seq (.region r312_28) (.seq k312_5 k312_20)))
def k312_22 : ACode := .seq (.seq (.region r312_1) (.block 0 k312_2)) (.seq k312_3 k312_21)
def k312_23 : ACode := .seq (.region r312_0) k312_22
theorem fn312 : getFn Tryz.prog 312 = some (125, k312_23, [.tmp 4]) := by kernel_rfl
def r313_0 : LO := [o 2 (.mv (.c aE)), o 3 (mi 0)]
def r313_1 : LO := [o 4 (mv 0), o 5 (.len true (T 4)), o 6 (.bin .gtr (T 5) (ci 262144))]
def r313_2 : LO := [o 2 (.mv (.c aE)), o 3 (mi 3)]
def k313_1 : ACode := .seq (.region r313_1) (.cond (T 6) (.seq (.region r313_2) .ret) .skip)
def r313_8 : LO := [o 7 (mv 0), o 2 (mv 7), o 3 (mi 0)]
def k313_2 : ACode := .seq (.region r313_0) (.seq k313_1 (.seq (.region r313_8) .ret))
theorem fn313 : getFn Tryz.prog 313 = some (8, k313_2, [.tmp 2, .tmp 3]) := by kernel_rfl
def r314_0 : LO := [o 4 (.mv (.c aE)), o 5 (.mv (.c aE)), o 6 (mb false)]
def r314_1 : LO := [o 7 (mv 0), o 8 (mv 1), o 9 (.call (cf 323) [(T 7), (T 8)]), o 10 (.extract 0 (T 9)), o 11 (.extract 1 (T 9)), o 12 (.extract 2 (T 9)), o 4 (mv 10), o 5 (mv 11), o 6 (mv 12)]
def k314_1 : ACode := .seq (.region r314_0) (.seq (.region r314_1) .ret)
theorem fn314 : getFn Tryz.prog 314 = some (13, k314_1, [.tmp 4, .tmp 5, .tmp 6]) := by kernel_rfl
def r315_0 : LO := [o 4 (mi 0)]
def r315_1 : LO := [o 9 (mv 0), o 10 (.nilCheck (T 9)), o 11 (fa 7 10), o 12 (ld 11), o 13 (.len false (T 12)), o 14 (.bin .sub (T 13) (ci 1)), o 5 (mv 14)]
def r315_2 : LO := [o 15 (mv 5), o 16 (.bin .gtr (T 15) (ci 0)), o 17 (mv 16), og 18 (mv 1) 17 true, og 19 (mv 5) 17 true, og 20 (.bin .sub (T 19) (ci 1)) 17 true, og 21 (.call (cf 312) [(.c (aS ⟨#[32, 32]⟩)), (T 20)]) 17 true, og 22 (.bin .add (T 21) (.c (aS ⟨#[125]⟩))) 17 true, og 23 (.bin .eql (T 18) (T 22)) 17 true, o 24 (.pick (T 17) (T 23) (cb false))]
def r315_3 : LO := [o 25 (mv 0), o 26 (.call (cf 317) [(T 25)]), o 6 (mv 26)]
def r315_4 : LO := [o 27 (mv 0), o 28 (mv 6), o 29 (.call (cf 316) [(T 27), (T 28)])]
def r315_5 : LO := [o 4 (mi 14)]
def k315_1 : ACode := .seq (.region r315_4) (.cond (T 29) (.seq (.region r315_5) .ret) .skip)
def r315_11 : LO := [o 30 (mv 0), o 31 (mv 0), o 32 (.nilCheck (T 31)), o 33 (fa 7 32), o 34 (ld 33), o 35 (mv 5), o 36 (.sliceV 1 (T 34) none (some (T 35)) none), o 37 (.nilCheck (T 30)), o 38 (fa 7 37), on (st 1 38 36)]
def r315_12 : LO := [o 39 (mv 0), o 40 (.call (cf 317) [(T 39)]), o 41 (mv 6), o 42 (.nilCheck (T 41)), o 43 (fa 8 42), o 44 (ln 8 43), o 45 (mv 6), o 46 (.nilCheck (T 45)), o 47 (fa 1 46), o 48 (ln 7 47)]
def r315_12t : LO := [o 49 (.call (cf 324) [(T 40), (T 44), (T 48)])]
def r315_12o : LN := [[], [0], [], [2], [3], [4], [], [6], [7], [8]]
def r315_13 : LO := [o 4 (mi 0)]
def k315_2 : ACode := .seq (.drawn r315_12o r315_12 r315_12t) (.seq (.region r315_13) .ret)
def k315_3 : ACode := .seq (.region r315_3) (.seq k315_1 (.seq (.region r315_11) k315_2))
def r315_23 : LO := [o 51 (mv 1), o 52 (mv 5), o 53 (.call (cf 312) [(.c (aS ⟨#[32, 32]⟩)), (T 52)]), o 54 (.call (cf 325) [(T 51), (T 53)]), o 50 (mv 54), o 55 (.extract 0 (T 50)), o 56 (.extract 1 (T 50)), o 7 (mv 55), o 8 (mv 56)]
def r315_24 : LO := [o 57 (mv 8), o 58 (.un .not (T 57))]
def r315_25 : LO := [o 4 (mi 2)]
def k315_4 : ACode := .seq (.region r315_24) (.cond (T 58) (.seq (.region r315_25) .ret) .skip)
def r315_31 : LO := [o 59 (mv 0), o 60 (mv 7), o 61 (.call (cf 326) [(T 59), (T 60)]), o 4 (mv 61)]
def k315_5 : ACode := .seq (.region r315_23) (.seq k315_4 (.seq (.region r315_31) .ret))
def k315_6 : ACode := .seq (.seq (.region r315_2) (.cond (T 24) k315_3 .skip)) k315_5
def k315_7 : ACode := .seq (.region r315_0) (.seq (.region r315_1) k315_6)
theorem fn315 : getFn Tryz.prog 315 = some (62, k315_7, [.tmp 4]) := by kernel_rfl
def r316_0 : LO := [o 4 (mb false)]
def r316_1 : LO := [o 7 (mv 0), o 8 (.nilCheck (T 7)), o 9 (fa 0 8), o 10 (fa 0 9), o 11 (ld 10), o 12 (mv 1), o 13 (.nilCheck (T 12)), o 14 (fa 0 13), o 15 (ld 14), o 16 (.idxSl 3 (T 11) (T 15)), o 17 (fa 1 16), o 18 (ld 17), o 19 (.len false (T 18)), o 20 (mi 0)]
def r316_1t : LO := []
def r316_1o : LN := [[], [0], [1], [2], [3], [], [5], [6], [7], [4, 8], [9], [10], [11], []]
def r316_2 : LO := [o 21 (.bin .lss (T 20) (T 19))]
def r316_6 : LO := [o 22 (.idxSl 8 (T 18) (T 20)), o 23 (ln 8 22), o 6 (.alloc [(aI 0), aE, aE, (aI 0), (aI 0), (aI 0), (aI 0), (aI 0)]), on (st 8 6 23)]
def r316_7 : LO := [o 24 (fa 3 6), o 25 (ld 24), o 26 (.bin .eql (T 25) (ci 1)), o 27 (mv 26), og 28 (mv 1) 27 true, og 29 (.nilCheck (T 28)) 27 true, og 30 (fa 1 29) 27 true, og 31 (ln 7 30) 27 true, og 32 (fa 0 6) 27 true, og 33 (ld 32) 27 true]
def r316_7t : LO := [og 34 (.call (cf 327) [(T 31), (T 33)]) 27 true, og 35 (.bin .lss (T 34) (ci 0)) 27 true, o 36 (.pick (T 27) (T 35) (cb false))]
def r316_7o : LN := [[], [0], [1], [2], [3], [3, 4], [3, 5], [3, 6], [3], [3, 8]]
def r316_8 : LO := [o 4 (mb true)]
def k316_1 : ACode := .seq (.drawn r316_7o r316_7 r316_7t) (.cond (T 36) (.seq (.region r316_8) .ret) .skip)
def r316_16 : LO := [o 37 (.bin .add (T 20) (ci 1)), o 20 (mv 37)]
def k316_2 : ACode := .seq (.block 1 (.seq (.region r316_6) k316_1)) (.region r316_16)
def k316_3 : ACode := .seq (.region r316_2) (.seq (.cond (T 21) .skip (.exit 0)) k316_2)
def k316_4 : ACode := .seq (.drawn r316_1o r316_1 r316_1t) (.block 0 (.loop k316_3))
def r316_23 : LO := [o 4 (mb false)]
def k316_5 : ACode := .seq (.region r316_0) (.seq k316_4 (.seq (.region r316_23) .ret))
theorem fn316 : getFn Tryz.prog 316 = some (38, k316_5, [.tmp 4]) := by kernel_rfl
def r317_0 : LO := [o 2 (.mv (.c (.v (.pointer none))))]
def r317_1 : LO := [o 3 (mv 0), o 4 (.nilCheck (T 3)), o 5 (fa 7 4), o 6 (ld 5), o 7 (mv 0), o 8 (.nilCheck (T 7)), o 9 (fa 7 8), o 10 (ld 9), o 11 (.len false (T 10)), o 12 (.bin .sub (T 11) (ci 1))]
def r317_1t : LO := [o 13 (.idxSl 1 (T 6) (T 12)), o 14 (ld 13), o 2 (mv 14)]
def r317_1o : LN := [[], [0], [1], [2], [], [4], [5], [6], [7], [8]]
def k317_1 : ACode := .seq (.region r317_0) (.seq (.drawn r317_1o r317_1 r317_1t) .ret)
theorem fn317 : getFn Tryz.prog 317 = some (15, k317_1, [.tmp 2]) := by kernel_rfl
def r318_0 : LO := [o 1 (bx 0), o 2 (mb false)]
def r318_1 : LO := [o 9 (fa 6 1), o 10 (ld 9), o 11 (.len false (T 10)), o 12 (.bin .gtr (T 11) (ci 0))]
def r318_2 : LO := [o 2 (mb true)]
def k318_1 : ACode := .seq (.region r318_1) (.cond (T 12) (.seq (.region r318_2) .ret) .skip)
def r318_8 : LO := [o 13 (fa 3 1), o 14 (ld 13), o 15 (.len false (T 14)), o 16 (mi 0)]
def r318_9 : LO := [o 17 (.bin .lss (T 16) (T 15))]
def r318_13 : LO := [o 18 (.idxSl 7 (T 14) (T 16)), o 19 (ln 7 18), o 4 (.alloc zV), on (st 7 4 19)]
def r318_14 : LO := [o 20 (ln 7 4), o 21 (.call (cf 318) [(T 20)])]
def r318_15 : LO := [o 2 (mb true)]
def k318_2 : ACode := .seq (.region r318_14) (.cond (T 21) (.seq (.region r318_15) .ret) .skip)
def r318_23 : LO := [o 22 (.bin .add (T 16) (ci 1)), o 16 (mv 22)]
def k318_3 : ACode := .seq (.block 1 (.seq (.region r318_13) k318_2)) (.region r318_23)
def k318_4 : ACode := .seq (.region r318_9) (.seq (.cond (T 17) .skip (.exit 0)) k318_3)
def r318_30 : LO := [o 23 (fa 4 1), o 24 (ld 23), o 25 (.len false (T 24)), o 26 (mi 0)]
def r318_31 : LO := [o 27 (.bin .lss (T 26) (T 25))]
def r318_35 : LO := [o 28 (.idxSl 14 (T 24) (T 26)), o 29 (ln 14 28), o 6 (.alloc [(aI 0), (aU 0), aE, .nil, .nil, .nil, .nil, (aI 0), (aU 0), aE, .nil, .nil, .nil, .nil]), on (st 14 6 29)]
def r318_36 : LO := [o 30 (fa 7 6), o 31 (ln 7 30), o 32 (.call (cf 318) [(T 31)])]
def r318_37 : LO := [o 2 (mb true)]
def k318_5 : ACode := .seq (.region r318_36) (.cond (T 32) (.seq (.region r318_37) .ret) .skip)
def r318_45 : LO := [o 33 (.bin .add (T 26) (ci 1)), o 26 (mv 33)]
def k318_6 : ACode := .seq (.block 3 (.seq (.region r318_35) k318_5)) (.region r318_45)
def k318_7 : ACode := .seq (.region r318_31) (.seq (.cond (T 27) .skip (.exit 2)) k318_6)
def r318_52 : LO := [o 34 (fa 5 1), o 35 (ld 34), o 36 (.len false (T 35)), o 37 (mi 0)]
def r318_53 : LO := [o 38 (.bin .lss (T 37) (T 36))]
def r318_57 : LO := [o 39 (.idxSl 8 (T 35) (T 37)), o 40 (ln 8 39), o 8 (.alloc [(aI 0), (aI 0), (aU 0), aE, .nil, .nil, .nil, .nil]), on (st 8 8 40)]
def r318_58 : LO := [o 41 (fa 1 8), o 42 (ln 7 41), o 43 (.call (cf 318) [(T 42)])]
def r318_59 : LO := [o 2 (mb true)]
def k318_8 : ACode := .seq (.region r318_58) (.cond (T 43) (.seq (.region r318_59) .ret) .skip)
def r318_67 : LO := [o 44 (.bin .add (T 37) (ci 1)), o 37 (mv 44)]
def k318_9 : ACode := .seq (.block 5 (.seq (.region r318_57) k318_8)) (.region r318_67)
def k318_10 : ACode := .seq (.region r318_53) (.seq (.cond (T 38) .skip (.exit 4)) k318_9)
def r318_74 : LO := [o 2 (mb false)]
def k318_11 : ACode := .seq (.seq (.region r318_52) (.block 4 (.loop k318_10))) (.seq (.region r318_74) .ret)
def k318_12 : ACode := .seq (.seq (.region r318_30) (.block 2 (.loop k318_7))) k318_11
def k318_13 : ACode := .seq (.seq (.region r318_8) (.block 0 (.loop k318_4))) k318_12
def k318_14 : ACode := .seq (.region r318_0) (.seq k318_1 k318_13)
theorem fn318 : getFn Tryz.prog 318 = some (45, k318_14, [.tmp 2]) := by kernel_rfl
def r319_0 : LO := [o 5 (bx 2)]
def r319_1 : LO := [o 14 (fa 5 5), o 15 (ld 14), o 16 (.len false (T 15)), o 17 (mi 0)]
def r319_2 : LO := [o 18 (.bin .lss (T 17) (T 16))]
def r319_6 : LO := [o 19 (.idxSl 8 (T 15) (T 17)), o 20 (ln 8 19), o 7 (.alloc [(aI 0), (aI 0), (aU 0), aE, .nil, .nil, .nil, .nil]), on (st 8 7 20)]
def r319_7 : LO := [o 22 (mv 0), o 23 (.nilCheck (T 22)), o 24 (fa 0 23), o 25 (fa 0 24), o 26 (ld 25), o 27 (mv 1), o 28 (.idxSl 3 (T 26) (T 27)), o 29 (ln 3 28), o 30 (fa 0 7), o 31 (ld 30), o 32 (.call (cf 89) [(T 29), (T 31)]), o 21 (mv 32), o 33 (.extract 0 (T 21)), o 34 (.extract 1 (T 21)), o 8 (.alloc [(aI 0), aE, aE, (aI 0), (aI 0), (aI 0), (aI 0), (aI 0)]), on (st 8 8 33)]
def r319_7t : LO := [o 9 (mv 34)]
def r319_7o : LN := [[], [0], [1], [2], [3], [], [4, 5], [6], [], [8], [7, 9], [10], [11], [11], [], [0, 1, 2, 3, 4, 5, 6, 7, 8, 9, 10, 11, 12, 14]]
def r319_8 : LO := [o 35 (fa 3 8), o 36 (ld 35)]
def r319_9 : LO := [o 45 (.bin .eql (T 36) (ci 4)), o 44 (mv 45)]
def r319_10 : LO := [o 46 (fa 1 7), o 47 (fa 3 46), o 48 (ld 47), o 49 (.len false (T 48)), o 50 (mi 0)]
def r319_11 : LO := [o 51 (.bin .lss (T 50) (T 49))]
def r319_15 : LO := [o 52 (.idxSl 7 (T 48) (T 50)), o 53 (ln 7 52), o 11 (.alloc zV), on (st 7 11 53)]
def r319_16 : LO := [o 54 (mv 0), o 55 (ln 8 8), o 56 (fa 1 8), o 57 (ld 56), o 58 (ln 7 11), o 59 (.call (cf 328) [(T 54), (T 55), (T 57), (T 58)])]
def r319_19 : LO := [o 60 (.bin .add (T 50) (ci 1)), o 50 (mv 60)]
def k319_1 : ACode := .seq (.block 4 (.seq (.region r319_15) (.region r319_16))) (.region r319_19)
def k319_2 : ACode := .seq (.region r319_11) (.seq (.cond (T 51) .skip (.exit 3)) k319_1)
def r319_26 : LO := [o 62 (.bin .eql (T 36) (ci 5)), o 61 (mv 62)]
def r319_27 : LO := [o 63 (fa 1 7), o 64 (fa 4 63), o 65 (ld 64), o 66 (.len false (T 65)), o 67 (mi 0)]
def r319_28 : LO := [o 68 (.bin .lss (T 67) (T 66))]
def r319_32 : LO := [o 69 (.idxSl 14 (T 65) (T 67)), o 70 (ln 14 69), o 13 (.alloc [(aI 0), (aU 0), aE, .nil, .nil, .nil, .nil, (aI 0), (aU 0), aE, .nil, .nil, .nil, .nil]), on (st 14 13 70)]
def r319_33 : LO := [o 71 (mv 0), o 72 (ln 8 8), o 73 (fa 1 8), o 74 (ld 73), o 75 (.bin .add (T 74) (.c (aS ⟨#[91]⟩))), o 76 (fa 0 13), o 77 (ln 7 76), o 78 (.call (cf 329) [(T 77)]), o 79 (.bin .add (T 75) (T 78)), o 80 (.bin .add (T 79) (.c (aS ⟨#[93]⟩))), o 81 (fa 7 13), o 82 (ln 7 81)]
def r319_33t : LO := [o 83 (.call (cf 328) [(T 71), (T 72), (T 80), (T 82)])]
def r319_33o : LN := [[], [], [], [2], [3], [], [5], [6], [4, 7], [8], [], [10]]
def k319_3 : ACode := .block 6 (.seq (.region r319_32) (.drawn r319_33o r319_33 r319_33t))
def r319_36 : LO := [o 84 (.bin .add (T 67) (ci 1)), o 67 (mv 84)]
def k319_4 : ACode := .seq (.cond (T 68) .skip (.exit 5)) (.seq k319_3 (.region r319_36))
def k319_5 : ACode := .seq (.region r319_28) k319_4
def r319_43 : LO := [o 37 (mv 0), o 38 (ln 8 8), o 39 (fa 1 8), o 40 (ld 39), o 41 (fa 1 7), o 42 (ln 7 41), o 43 (.call (cf 328) [(T 37), (T 38), (T 40), (T 42)])]
def k319_6 : ACode := .cond (T 61) (.seq (.region r319_27) (.block 5 (.loop k319_5))) (.region r319_43)
def k319_7 : ACode := .cond (T 44) (.seq (.region r319_10) (.block 3 (.loop k319_2))) (.seq (.region r319_26) k319_6)
def k319_8 : ACode := .seq (.region r319_8) (.block 2 (.seq (.region r319_9) k319_7))
def k319_9 : ACode := .seq (.region r319_6) (.seq (.drawn r319_7o r319_7 r319_7t) k319_8)
def r319_53 : LO := [o 85 (.bin .add (T 17) (ci 1)), o 17 (mv 85)]
def k319_10 : ACode := .seq (.cond (T 18) .skip (.exit 0)) (.seq (.block 1 k319_9) (.region r319_53))
def k319_11 : ACode := .seq (.region r319_2) k319_10
def k319_12 : ACode := .seq (.region r319_0) (.seq (.region r319_1) (.block 0 (.loop k319_11)))
theorem fn319 : getFn Tryz.prog 319 = some (86, k319_12, []) := by kernel_rfl
def k323_3 : ACode := (.seq (.region [⟨(.some 4), (.mv (.c (.v (.string ⟨⟨[]⟩⟩)))), .none⟩, ⟨(.some 5), (.mv (.c (.v (.string ⟨⟨[]⟩⟩)))), .none⟩, ⟨(.some 6), (.mv (.c (.v (.bool false)))), .none⟩]) (.seq (.seq (.region [⟨(.some 8), (.mv (.t 0)), .none⟩, ⟨(.some 9), (.mv (.t 1)), .none⟩, ⟨(.some 10), (.call (.c (.clo (.func 273) [] [])) [(.t 8), (.t 9)]), .none⟩, ⟨(.some 7), (.mv (.t 10)), .none⟩]) (.seq (.region [⟨(.some 11), (.mv (.t 7)), .none⟩, ⟨(.some 12), (.bin .geq (.t 11) (.c (.v (.int .i64 0)))), .none⟩]) (.cond (.t 12) (.seq (.drawn [[], [], [0, 1], [], [], [], [5], [4, 6], [3, 7], [0, 1, 2]] [⟨(.some 13), (.mv (.t 0)), .none⟩, ⟨(.some 14), (.mv (.t 7)), .none⟩, ⟨(.some 15), (.sliceS (.t 13) .none (.some (.t 14))), .none⟩, ⟨(.some 16), (.mv (.t 0)), .none⟩, ⟨(.some 17), (.mv (.t 7)), .none⟩, ⟨(.some 18), (.mv (.t 1)), .none⟩, ⟨(.some 19), (.len true (.t 18)), .none⟩, ⟨(.some 20), (.bin .add (.t 17) (.t 19)), .none⟩, ⟨(.some 21), (.sliceS (.t 16) (.some (.t 20)) .none), .none⟩, ⟨(.some 4), (.mv (.t 15)), .none⟩] [⟨(.some 5), (.mv (.t 21)), .none⟩, ⟨(.some 6), (.mv (.c (.v (.bool true)))), .none⟩]) .ret) .skip))) (.seq (.region [⟨(.some 22), (.mv (.t 0)), .none⟩, ⟨(.some 4), (.mv (.t 22)), .none⟩, ⟨(.some 5), (.mv (.c (.v (.string ⟨⟨[]⟩⟩)))), .none⟩, ⟨(.some 6), (.mv (.c (.v (.bool false)))), .none⟩]) .ret)))
theorem fn323 : getFn Tryz.prog 323 = some (23, k323_3, [(.tmp 4), (.tmp 5), (.tmp 6)]) := by kernel_rfl
def r325_0 : LO := [o 4 (.mv (.c aE)), o 5 (mb false)]
def r325_1 : LO := [o 6 (mv 0), o 7 (mv 1), o 8 (.call (cf 333) [(T 6), (T 7)]), o 9 (.extract 0 (T 8)), o 10 (.extract 1 (T 8)), o 4 (mv 9), o 5 (mv 10)]
def k325_1 : ACode := .seq (.region r325_0) (.seq (.region r325_1) .ret)
theorem fn325 : getFn Tryz.prog 325 = some (11, k325_1, [.tmp 4, .tmp 5]) := by kernel_rfl
def r326_0 : LO := [o 4 (mi 0)]
def r326_1 : LO := [o 12 (mv 0), o 13 (mv 1), o 14 (.call (cf 334) [(T 12), (T 13)]), o 11 (mv 14), o 15 (.extract 0 (T 11)), o 16 (.extract 1 (T 11)), o 5 (.alloc [(aI 0), aE, aE, (aI 0), (aI 0), (aI 0), (aI 0), (aI 0), (aI 0), (aU 0), aE, .nil, .nil, .nil, .nil, aE]), on (st 16 5 15), o 6 (mv 16)]
def r326_2 : LO := [o 17 (mv 6), o 18 (.bin .neq (T 17) (ci 0))]
def r326_3 : LO := [o 19 (mv 6), o 4 (mv 19)]
def k326_1 : ACode := .seq (.region r326_2) (.cond (T 18) (.seq (.region r326_3) .ret) .skip)
def r326_9 : LO := [o 21 (fa 15 5), o 22 (ld 21), o 23 (.call (cf 325) [(T 22), (.c (aS ⟨#[58, 32]⟩))]), o 20 (mv 23), o 24 (.extract 0 (T 20)), o 25 (.extract 1 (T 20)), o 7 (mv 24), o 8 (mv 25)]
def r326_10 : LO := [o 26 (mv 8), o 27 (.un .not (T 26)), o 28 (mv 27), og 29 (fa 15 5) 28 true, og 30 (ld 29) 28 true, og 31 (.bin .neq (T 30) (.c (aS ⟨#[32, 123]⟩))) 28 true, o 32 (.pick (T 28) (T 31) (cb false))]
def r326_11 : LO := [o 4 (mi 2)]
def k326_2 : ACode := .seq (.region r326_10) (.cond (T 32) (.seq (.region r326_11) .ret) .skip)
def r326_17 : LO := [o 33 (mv 8), o 34 (fa 0 5), o 35 (fa 5 34), o 36 (ld 35), o 37 (.bin .eql (T 36) (ci 10)), o 38 (.eq .bool true (T 33) (T 37))]
def r326_18 : LO := [o 4 (mi 12)]
def k326_3 : ACode := .seq (.region r326_17) (.cond (T 38) (.seq (.region r326_18) .ret) .skip)
def r326_24 : LO := [o 39 (.build zV [((0, 1), (ci 10))]), o 9 (.alloc zV), on (st 7 9 39)]
def r326_25 : LO := [o 40 (mv 8)]
def r326_26 : LO := [o 42 (mv 0), o 43 (.nilCheck (T 42)), o 44 (fa 0 43), o 45 (ln 2 44), o 46 (fa 0 5), o 47 (ln 8 46), o 48 (mv 7), o 49 (.call (cf 335) [(T 45), (T 47), (T 48)]), o 41 (mv 49), o 50 (.extract 0 (T 41)), o 51 (.extract 1 (T 41)), on (st 7 9 50)]
def r326_26t : LO := [o 6 (mv 51)]
def r326_26o : LN := [[], [0], [1], [2], [], [4], [], [3, 5, 6], [7], [8], [8], [0, 1, 2, 3, 4, 5, 6, 7, 8, 9]]
def r326_27 : LO := [o 52 (mv 6), o 53 (.bin .neq (T 52) (ci 0))]
def r326_28 : LO := [o 54 (mv 6), o 4 (mv 54)]
def k326_4 : ACode := .seq (.region r326_27) (.cond (T 53) (.seq (.region r326_28) .ret) .skip)
def r326_35 : LO := [o 55 (fa 2 9), o 56 (ld 55), o 57 (.len true (T 56)), o 58 (mv 0), o 59 (.nilCheck (T 58)), o 60 (fa 2 59), o 61 (fa 3 60), o 62 (ld 61)]
def r326_35t : LO := [o 63 (.bin .gtr (T 57) (T 62))]
def r326_35o : LN := [[], [0], [1], [], [3], [4], [5], [6]]
def r326_36 : LO := [o 4 (mi 3)]
def k326_5 : ACode := .seq (.drawn r326_35o r326_35 r326_35t) (.cond (T 63) (.seq (.region r326_36) .ret) .skip)
def k326_6 : ACode := .cond (T 40) (.seq (.seq (.drawn r326_26o r326_26 r326_26t) k326_4) k326_5) .skip
def r326_46 : LO := [o 65 (mv 0), o 66 (ln 16 5), o 67 (.call (cf 336) [(T 65), (T 66)]), o 64 (mv 67), o 68 (.extract 0 (T 64)), o 69 (.extract 1 (T 64)), o 10 (mv 68), o 6 (mv 69)]
def r326_47 : LO := [o 70 (mv 6), o 71 (.bin .neq (T 70) (ci 0))]
def r326_48 : LO := [o 72 (mv 6), o 4 (mv 72)]
def k326_7 : ACode := .seq (.region r326_47) (.cond (T 71) (.seq (.region r326_48) .ret) .skip)
def r326_54 : LO := [o 73 (mv 8), o 74 (.un .not (T 73)), o 75 (mv 74), og 76 (mv 0) 75 true, og 77 (.nilCheck (T 76)) 75 true, og 78 (fa 7 77) 75 true, og 79 (ld 78) 75 true, og 80 (.len false (T 79)) 75 true, og 81 (mv 0) 75 true, og 82 (.nilCheck (T 81)) 75 true, og 83 (fa 2 82) 75 true, og 84 (fa 1 83) 75 true, og 85 (ld 84) 75 true]
def r326_54t : LO := [og 86 (.bin .geq (T 80) (T 85)) 75 true, o 87 (.pick (T 75) (T 86) (cb false))]
def r326_54o : LN := [[], [0], [1], [2], [2, 3], [2, 4], [2, 5], [2, 6], [2], [2, 8], [2, 9], [2, 10], [2, 11]]
def r326_55 : LO := [o 4 (mi 17)]
def k326_8 : ACode := .seq (.drawn r326_54o r326_54 r326_54t) (.cond (T 87) (.seq (.region r326_55) .ret) .skip)
def r326_61 : LO := [o 88 (mv 10), o 89 (mv 0), o 90 (.nilCheck (T 89)), o 91 (fa 6 90), o 92 (ld 91), o 93 (.bin .gtr (T 88) (T 92))]
def r326_62 : LO := [o 4 (mi 3)]
def k326_9 : ACode := .seq (.region r326_61) (.cond (T 93) (.seq (.region r326_62) .ret) .skip)
def r326_68 : LO := [o 94 (mv 0), o 95 (.nilCheck (T 94)), o 96 (fa 6 95), o 97 (ld 96), o 98 (mv 10), o 99 (.bin .sub (T 97) (T 98)), o 100 (.nilCheck (T 94)), o 101 (fa 6 100), on (st 1 101 99)]
def r326_69 : LO := [o 102 (mv 0), o 103 (.call (cf 317) [(T 102)]), o 104 (ln 16 5), o 105 (ln 7 9)]
def r326_69t : LO := [o 106 (.call (cf 337) [(T 103), (T 104), (T 105)])]
def r326_69o : LN := [[], [0], [], []]
def r326_70 : LO := [o 107 (mv 8), o 108 (.un .not (T 107))]
def r326_71 : LO := [o 109 (mv 0), o 110 (mv 0), o 111 (.nilCheck (T 110)), o 112 (fa 7 111), o 113 (ld 112), o 114 (fa 0 5), o 115 (fa 6 114), o 116 (ld 115), o 117 (ln 7 9), o 118 (fa 0 5), o 119 (ln 8 118), o 120 (fa 8 5), o 121 (ln 7 120), o 122 (.build [(aI 0), (aI 0), (aU 0), aE, .nil, .nil, .nil, .nil, (aI 0), aE, aE, (aI 0), (aI 0), (aI 0), (aI 0), (aI 0), (aI 0), (aU 0), aE, .nil, .nil, .nil, .nil] [((0, 1), (T 116)), ((1, 7), (T 117)), ((8, 8), (T 119)), ((16, 7), (T 121))]), o 123 (bx 122), o 124 (.sliceLit 1 1 [(.v (.pointer none))] [((0, 1), (T 123))]), o 125 (.append 339 1 8 (T 113) (T 124))]
def r326_71t : LO := [o 126 (.nilCheck (T 109)), o 127 (fa 7 126), on (st 1 127 125)]
def r326_71o : LN := [[], [], [1], [2], [3], [], [5], [6], [], [], [9], [], [11], [7, 8, 10, 12], [13], [14], [4, 15]]
def k326_10 : ACode := .seq (.region r326_70) (.cond (T 108) (.drawn r326_71o r326_71 r326_71t) .skip)
def r326_75 : LO := [o 4 (mi 0)]
def k326_11 : ACode := .seq (.drawn r326_69o r326_69 r326_69t) (.seq k326_10 (.seq (.region r326_75) .ret))
def k326_12 : ACode := .seq k326_7 (.seq k326_8 (.seq k326_9 (.seq (.region r326_68) k326_11)))
def k326_13 : ACode := .seq (.seq (.region r326_25) k326_6) (.seq (.region r326_46) k326_12)
def k326_14 : ACode := .seq (.region r326_9) (.seq k326_2 (.seq k326_3 (.seq (.region r326_24) k326_13)))
def k326_15 : ACode := .seq (.region r326_0) (.seq (.region r326_1) (.seq k326_1 k326_14))
theorem fn326 : getFn Tryz.prog 326 = some (128, k326_15, [.tmp 4]) := by kernel_rfl
def r327_0 : LO := [o 2 (bx 0), o 4 (mi 0)]
def r327_1 : LO := [o 7 (fa 5 2), o 8 (ld 7), o 9 (.len false (T 8)), o 10 (mi 0)]
def r327_2 : LO := [o 11 (.bin .lss (T 10) (T 9))]
def r327_6 : LO := [o 12 (mv 10), o 13 (.idxSl 8 (T 8) (T 10)), o 14 (ln 8 13), o 6 (.alloc [(aI 0), (aI 0), (aU 0), aE, .nil, .nil, .nil, .nil]), o 5 (mv 12), on (st 8 6 14)]
def r327_7 : LO := [o 15 (fa 0 6), o 16 (ld 15), o 17 (mv 1), o 18 (.bin .eql (T 16) (T 17))]
def r327_8 : LO := [o 19 (mv 5), o 4 (mv 19)]
def k327_1 : ACode := .seq (.region r327_7) (.cond (T 18) (.seq (.region r327_8) .ret) .skip)
def r327_16 : LO := [o 20 (.bin .add (T 10) (ci 1)), o 10 (mv 20)]
def k327_2 : ACode := .seq (.block 1 (.seq (.region r327_6) k327_1)) (.region r327_16)
def k327_3 : ACode := .seq (.region r327_2) (.seq (.cond (T 11) .skip (.exit 0)) k327_2)
def r327_23 : LO := [o 4 (mi (-1))]
def k327_4 : ACode := .seq (.seq (.region r327_1) (.block 0 (.loop k327_3))) (.seq (.region r327_23) .ret)
def k327_5 : ACode := .seq (.region r327_0) k327_4
theorem fn327 : getFn Tryz.prog 327 = some (21, k327_5, [.tmp 4]) := by kernel_rfl
def r328_0 : LO := [o 5 (bx 1), o 7 (bx 3)]
def r328_1 : LO := [o 8 (fa 5 5), o 9 (ld 8), o 10 (.bin .neq (T 9) (ci 10))]
def r328_2 : LO := [o 11 (mv 0), o 12 (mv 0), o 13 (.nilCheck (T 12)), o 14 (fa 2 13), o 15 (ld 14), o 16 (mv 2), o 17 (mv 0), o 18 (.nilCheck (T 17)), o 19 (fa 0 18), o 20 (ln 2 19), o 21 (ln 8 5), o 22 (ln 7 7), o 23 (.call (cf 338) [(T 20), (T 21), (T 22)]), o 24 (.build [aE, aE] [((0, 1), (T 16)), ((1, 1), (T 23))]), o 25 (.iface 354 (T 24)), o 26 (.sliceLit 1 1 [(.v .nilIface)] [((0, 1), (T 25))]), o 27 (.append 20 1 16 (T 15) (T 26))]
def r328_2t : LO := [o 28 (.nilCheck (T 11)), o 29 (fa 2 28), on (st 1 29 27)]
def r328_2o : LN := [[], [], [1], [2], [3], [], [], [6], [7], [8], [], [], [9, 10, 11], [5, 12], [13], [14], [4, 12, 15]]
def k328_1 : ACode := .cond (T 10) (.seq (.drawn r328_2o r328_2 r328_2t) .ret) .skip
def r328_8 : LO := [o 30 (mv 0), o 31 (mv 0), o 32 (.nilCheck (T 31)), o 33 (fa 2 32), o 34 (ld 33), o 35 (mv 2), o 36 (.build [aE] [((0, 1), (T 35))]), o 37 (.iface 356 (T 36)), o 38 (.sliceLit 1 1 [(.v .nilIface)] [((0, 1), (T 37))]), o 39 (.append 20 1 16 (T 34) (T 38)), o 40 (.nilCheck (T 30)), o 41 (fa 2 40), on (st 1 41 39)]
def r328_9 : LO := [o 42 (mv 0), o 43 (fa 6 5), o 44 (ld 43), o 45 (ln 7 7), o 46 (.call (cf 319) [(T 42), (T 44), (T 45)])]
def r328_10 : LO := [o 47 (mv 0), o 48 (mv 0), o 49 (.nilCheck (T 48)), o 50 (fa 2 49), o 51 (ld 50), o 52 (.build [] []), o 53 (.iface 357 (T 52)), o 54 (.sliceLit 1 1 [(.v .nilIface)] [((0, 1), (T 53))]), o 55 (.append 20 1 16 (T 51) (T 54)), o 56 (.nilCheck (T 47)), o 57 (fa 2 56), on (st 1 57 55)]
def k328_2 : ACode := .seq (.region r328_8) (.seq (.region r328_9) (.region r328_10))
def k328_3 : ACode := .seq (.region r328_0) (.seq (.seq (.region r328_1) k328_1) k328_2)
theorem fn328 : getFn Tryz.prog 328 = some (58, k328_3, []) := by kernel_rfl
def r329_0 : LO := [o 1 (bx 0), o 2 (.mv (.c aE))]
def r329_1 : LO := [o 3 (fa 0 1), o 4 (ld 3), o 5 (ln 7 1), o 6 (.call (cf 235) [(T 4), (T 5)]), o 7 (.un .not (T 6))]
def r329_2 : LO := [o 2 (.mv (.c aE))]
def k329_1 : ACode := .seq (.region r329_1) (.cond (T 7) (.seq (.region r329_2) .ret) .skip)
def r329_8 : LO := [o 8 (fa 0 1), o 9 (ld 8)]
def r329_9 : LO := [o 11 (.bin .eql (T 9) (ci 1)), o 10 (mv 11)]
def r329_10 : LO := [o 12 (fa 1 1), o 13 (ld 12), o 14 (.bin .eql (T 13) (.c (aU 1))), o 15 (.call (cf 339) [(T 14)]), o 2 (mv 15)]
def r329_13 : LO := [o 17 (.bin .eql (T 9) (ci 2)), o 16 (mv 17)]
def r329_15 : LO := [o 18 (.bin .eql (T 9) (ci 3)), o 16 (mv 18)]
def k329_2 : ACode := .seq (.region r329_13) (.cond (T 16) .skip (.region r329_15))
def r329_18 : LO := [o 19 (fa 1 1), o 20 (ld 19), o 21 (.conv (.num .i64) (T 20)), o 22 (.call (cf 340) [(T 21)]), o 2 (mv 22)]
def r329_21 : LO := [o 24 (.bin .eql (T 9) (ci 6)), o 23 (mv 24)]
def r329_22 : LO := [o 25 (fa 1 1), o 26 (ld 25), o 27 (.call (cf 341) [(T 26)]), o 2 (mv 27)]
def r329_25 : LO := [o 29 (.bin .eql (T 9) (ci 7)), o 28 (mv 29)]
def r329_26 : LO := [o 30 (fa 2 1), o 31 (ld 30), o 32 (.call (cf 342) [(T 31)]), o 2 (mv 32)]
def r329_29 : LO := [o 34 (.bin .eql (T 9) (ci 8)), o 33 (mv 34)]
def r329_30 : LO := [o 35 (fa 2 1), o 36 (ld 35), o 37 (.call (cf 343) [(T 36)]), o 38 (.call (cf 342) [(T 37)]), o 39 (.bin .add (.c (aS ⟨#[120]⟩)) (T 38)), o 2 (mv 39)]
def k329_3 : ACode := .seq (.region r329_29) (.cond (T 33) (.seq (.region r329_30) .ret) .skip)
def k329_4 : ACode := .seq (.region r329_25) (.cond (T 28) (.seq (.region r329_26) .ret) k329_3)
def k329_5 : ACode := .seq (.region r329_21) (.cond (T 23) (.seq (.region r329_22) .ret) k329_4)
def k329_6 : ACode := .seq k329_2 (.cond (T 16) (.seq (.region r329_18) .ret) k329_5)
def k329_7 : ACode := .seq (.region r329_9) (.cond (T 10) (.seq (.region r329_10) .ret) k329_6)
def r329_46 : LO := [o 40 (fa 1 1), o 41 (ld 40), o 42 (.call (cf 344) [(T 41), (ci 10)]), o 2 (mv 42)]
def k329_8 : ACode := .seq (.seq (.region r329_8) (.block 0 k329_7)) (.seq (.region r329_46) .ret)
def k329_9 : ACode := .seq (.region r329_0) (.seq k329_1 k329_8)
theorem fn329 : getFn Tryz.prog 329 = some (43, k329_9, [.tmp 2]) := by kernel_rfl
def r333_0 : LO := [o 4 (.mv (.c aE)), o 5 (mb false)]
def r333_1 : LO := [o 6 (mv 0), o 7 (mv 1), o 8 (.call (cf 274) [(T 6), (T 7)]), o 9 (.un .not (T 8))]
def r333_2 : LO := [o 10 (mv 0), o 4 (mv 10), o 5 (mb false)]
def k333_1 : ACode := .seq (.region r333_1) (.cond (T 9) (.seq (.region r333_2) .ret) .skip)
def r333_8 : LO := [o 11 (mv 0), o 12 (mv 1), o 13 (.len true (T 12)), o 14 (.sliceS (T 11) (some (T 13)) none), o 4 (mv 14), o 5 (mb true)]
def k333_2 : ACode := .seq (.region r333_0) (.seq k333_1 (.seq (.region r333_8) .ret))
theorem fn333 : getFn Tryz.prog 333 = some (15, k333_2, [.tmp 4, .tmp 5]) := by kernel_rfl
def r334_0 : LO := [o 4 (.alloc [(aI 0), aE, aE, (aI 0), (aI 0), (aI 0), (aI 0), (aI 0), (aI 0), (aU 0), aE, .nil, .nil, .nil, .nil, aE]), o 5 (mi 0)]
def r334_1 : LO := [o 13 (mv 1), o 14 (.call (cf 346) [(T 13)]), o 6 (mv 14)]
def r334_2 : LO := [o 15 (mv 6), o 16 (.bin .eql (T 15) (ci 0))]
def r334_3 : LO := [o 17 (.build [(aI 0), aE, aE, (aI 0), (aI 0), (aI 0), (aI 0), (aI 0), (aI 0), (aU 0), aE, .nil, .nil, .nil, .nil, aE] []), on (st 16 4 17), o 5 (mi 2)]
def k334_1 : ACode := .seq (.region r334_2) (.cond (T 16) (.seq (.region r334_3) .ret) .skip)
def r334_9 : LO := [o 19 (mv 0), o 20 (.nilCheck (T 19)), o 21 (fa 0 20), o 22 (fa 0 21), o 23 (ld 22), o 24 (mv 0), o 25 (.call (cf 317) [(T 24)]), o 26 (.nilCheck (T 25)), o 27 (fa 0 26), o 28 (ld 27), o 29 (.idxSl 3 (T 23) (T 28)), o 30 (ln 3 29), o 31 (mv 1), o 32 (mv 6), o 33 (.sliceS (T 31) none (some (T 32))), o 34 (.call (cf 347) [(T 30), (T 33)]), o 18 (mv 34), o 35 (.extract 0 (T 18)), o 36 (.extract 1 (T 18)), o 7 (.alloc [(aI 0), aE, aE, (aI 0), (aI 0), (aI 0), (aI 0), (aI 0)]), on (st 8 7 35)]
def r334_9t : LO := [o 8 (mv 36)]
def r334_9o : LN := [[], [0], [1], [2], [3], [], [5], [6], [7], [8], [4, 9], [10], [], [], [12, 13], [6, 11, 14], [15], [16], [16], [], [0, 1, 2, 3, 4, 5, 6, 7, 8, 9, 10, 11, 12, 13, 14, 15, 16, 17, 19]]
def r334_10 : LO := [o 37 (mv 8), o 38 (.un .not (T 37))]
def r334_11 : LO := [o 39 (.build [(aI 0), aE, aE, (aI 0), (aI 0), (aI 0), (aI 0), (aI 0), (aI 0), (aU 0), aE, .nil, .nil, .nil, .nil, aE] []), on (st 16 4 39), o 5 (mi 8)]
def k334_2 : ACode := .seq (.region r334_10) (.cond (T 38) (.seq (.region r334_11) .ret) .skip)
def r334_17 : LO := [o 40 (ln 8 7), o 41 (mv 1), o 42 (mv 6), o 43 (.sliceS (T 41) (some (T 42)) none), o 44 (.build [(aI 0), aE, aE, (aI 0), (aI 0), (aI 0), (aI 0), (aI 0), (aI 0), (aU 0), aE, .nil, .nil, .nil, .nil, aE] [((0, 8), (T 40)), ((15, 1), (T 43))]), o 9 (.alloc [(aI 0), aE, aE, (aI 0), (aI 0), (aI 0), (aI 0), (aI 0), (aI 0), (aU 0), aE, .nil, .nil, .nil, .nil, aE])]
def r334_17t : LO := [on (st 16 9 44)]
def r334_17o : LN := [[], [], [], [1, 2], [0, 3], []]
def r334_18 : LO := [o 46 (fa 15 9), o 47 (ld 46), o 48 (.call (cf 325) [(T 47), (.c (aS ⟨#[91]⟩))]), o 45 (mv 48), o 49 (.extract 0 (T 45)), o 50 (.extract 1 (T 45)), o 10 (mv 49), o 11 (mv 50)]
def r334_19 : LO := [o 51 (mv 11), o 52 (fa 3 7), o 53 (ld 52), o 54 (.bin .eql (T 53) (ci 5)), o 55 (.eq .bool false (T 51) (T 54))]
def r334_20 : LO := [o 56 (.build [(aI 0), aE, aE, (aI 0), (aI 0), (aI 0), (aI 0), (aI 0), (aI 0), (aU 0), aE, .nil, .nil, .nil, .nil, aE] []), on (st 16 4 56), o 5 (mi 12)]
def k334_3 : ACode := .seq (.region r334_19) (.cond (T 55) (.seq (.region r334_20) .ret) .skip)
def r334_26 : LO := [o 57 (mv 11)]
def r334_27 : LO := [o 58 (mv 10), o 59 (fa 15 9), on (st 1 59 58)]
def r334_28 : LO := [o 60 (mv 0), o 61 (.call (cf 348) [(T 60), (T 9)]), o 12 (mv 61)]
def r334_29 : LO := [o 62 (mv 12), o 63 (.bin .neq (T 62) (ci 0))]
def r334_30 : LO := [o 64 (.build [(aI 0), aE, aE, (aI 0), (aI 0), (aI 0), (aI 0), (aI 0), (aI 0), (aU 0), aE, .nil, .nil, .nil, .nil, aE] []), o 65 (mv 12), on (st 16 4 64), o 5 (mv 65)]
def k334_4 : ACode := .seq (.region r334_29) (.cond (T 63) (.seq (.region r334_30) .ret) .skip)
def k334_5 : ACode := .cond (T 57) (.seq (.region r334_27) (.seq (.region r334_28) k334_4)) .skip
def r334_41 : LO := [o 66 (ln 16 9), on (st 16 4 66), o 5 (mi 0)]
def k334_6 : ACode := .seq (.seq (.region r334_26) k334_5) (.seq (.region r334_41) .ret)
def k334_7 : ACode := .seq (.drawn r334_17o r334_17 r334_17t) (.seq (.region r334_18) (.seq k334_3 k334_6))
def k334_8 : ACode := .seq k334_1 (.seq (.drawn r334_9o r334_9 r334_9t) (.seq k334_2 k334_7))
def k334_9 : ACode := .seq (.region r334_0) (.seq (.region r334_1) k334_8)
theorem fn334 : getFn Tryz.prog 334 = some (67, k334_9, [.cell 4 (some 16), .tmp 5]) := by kernel_rfl
def r335_0 : LO := [o 3 (bx 0), o 4 (bx 1), o 6 (.alloc zV), o 7 (mi 0)]
def r335_1 : LO := [o 16 (fa 5 4), o 17 (ld 16), o 18 (.call (cf 34) [(T 17)]), o 19 (.un .not (T 18))]
def r335_2 : LO := [o 20 (.build zV []), on (st 7 6 20), o 7 (mi 12)]
def k335_1 : ACode := .seq (.region r335_1) (.cond (T 19) (.seq (.region r335_2) .ret) .skip)
def r335_8 : LO := [o 21 (fa 5 4), o 22 (ld 21), o 23 (.bin .neq (T 22) (ci 9))]
def r335_9 : LO := [o 24 (fa 5 4), o 25 (ld 24), o 26 (mv 2), o 27 (.call (cf 349) [(T 25), (T 26)]), o 28 (.extract 0 (T 27)), o 29 (.extract 1 (T 27)), on (st 7 6 28), o 7 (mv 29)]
def k335_2 : ACode := .seq (.region r335_8) (.cond (T 23) (.seq (.region r335_9) .ret) .skip)
def r335_15 : LO := [o 31 (mv 2), o 32 (.call (cf 325) [(T 31), (.c (aS ⟨#[35]⟩))]), o 30 (mv 32), o 33 (.extract 0 (T 30)), o 34 (.extract 1 (T 30)), o 8 (mv 33), o 9 (mv 34)]
def r335_16 : LO := [o 35 (mv 9)]
def r335_17 : LO := [o 37 (mv 8), o 38 (.call (cf 349) [(ci 9), (T 37)]), o 36 (mv 38), o 39 (.extract 0 (T 36)), o 40 (.extract 1 (T 36)), o 10 (.alloc zV), on (st 7 10 39), o 11 (mv 40)]
def r335_18 : LO := [o 41 (mv 11), o 42 (.bin .neq (T 41) (ci 0))]
def r335_19 : LO := [o 43 (.build zV []), o 44 (mv 11), on (st 7 6 43), o 7 (mv 44)]
def k335_3 : ACode := .seq (.region r335_18) (.cond (T 42) (.seq (.region r335_19) .ret) .skip)
def r335_25 : LO := [o 46 (ln 2 3), o 47 (fa 6 4), o 48 (ld 47), o 49 (fa 1 10), o 50 (ld 49), o 51 (.call (cf 350) [(T 46), (T 48), (T 50)]), o 45 (mv 51), o 52 (.extract 0 (T 45)), o 53 (.extract 1 (T 45)), o 12 (.alloc [aE, (aI 0), .nil]), on (st 3 12 52), o 13 (mv 53)]
def r335_26 : LO := [o 54 (mv 13), o 55 (mv 54), og 56 (ln 2 3) 55 false, og 57 (fa 6 4) 55 false, og 58 (ld 57) 55 false, og 59 (fa 1 10) 55 false, og 60 (ld 59) 55 false, og 61 (.call (cf 179) [(T 56), (T 58), (T 60)]) 55 false, og 62 (.un .not (T 61)) 55 false, o 63 (.pick (T 55) (cb true) (T 62))]
def r335_27 : LO := [o 64 (.build zV []), on (st 7 6 64), o 7 (mi 16)]
def k335_4 : ACode := .seq (.region r335_26) (.cond (T 63) (.seq (.region r335_27) .ret) .skip)
def r335_34 : LO := [o 65 (ln 7 10), on (st 7 6 65), o 7 (mi 0)]
def k335_5 : ACode := .seq (.seq (.region r335_25) k335_4) (.seq (.region r335_34) .ret)
def k335_6 : ACode := .cond (T 35) (.seq (.region r335_17) (.seq k335_3 k335_5)) .skip
def r335_44 : LO := [o 66 (mv 2), o 67 (.call (cf 215) [(T 66)]), o 68 (.un .not (T 67))]
def r335_45 : LO := [o 69 (.build zV []), on (st 7 6 69), o 7 (mi 2)]
def k335_7 : ACode := .seq (.region r335_44) (.cond (T 68) (.seq (.region r335_45) .ret) .skip)
def r335_51 : LO := [o 70 (fa 6 4), o 71 (ld 70), o 72 (.bin .geq (T 71) (ci 0)), o 73 (mv 72), og 74 (fa 6 4) 73 true, og 75 (ld 74) 73 true, og 76 (fa 1 3) 73 true, og 77 (ld 76) 73 true, og 78 (.len false (T 77)) 73 true, og 79 (.bin .lss (T 75) (T 78)) 73 true, o 80 (.pick (T 73) (T 79) (cb false))]
def r335_52 : LO := [o 81 (fa 1 3), o 82 (ld 81), o 83 (fa 6 4), o 84 (ld 83), o 85 (.idxSl 5 (T 82) (T 84)), o 86 (fa 2 85), o 87 (ld 86), o 88 (.len false (T 87)), o 89 (mi 0)]
def r335_53 : LO := [o 90 (.bin .lss (T 89) (T 88))]
def r335_57 : LO := [o 91 (.idxSl 3 (T 87) (T 89)), o 92 (ln 3 91), o 15 (.alloc [aE, (aI 0), .nil]), on (st 3 15 92)]
def r335_58 : LO := [o 93 (fa 0 15), o 94 (ld 93), o 95 (mv 2), o 96 (.bin .eql (T 94) (T 95))]
def r335_59 : LO := [o 97 (fa 1 15), o 98 (ld 97), o 99 (.conv (.num .u64) (T 98)), o 100 (.build zV [((0, 1), (ci 9)), ((1, 1), (T 99))]), on (st 7 6 100), o 7 (mi 0)]
def k335_8 : ACode := .seq (.region r335_58) (.cond (T 96) (.seq (.region r335_59) .ret) .skip)
def r335_67 : LO := [o 101 (.bin .add (T 89) (ci 1)), o 89 (mv 101)]
def k335_9 : ACode := .seq (.block 1 (.seq (.region r335_57) k335_8)) (.region r335_67)
def k335_10 : ACode := .seq (.region r335_53) (.seq (.cond (T 90) .skip (.exit 0)) k335_9)
def k335_11 : ACode := .cond (T 80) (.seq (.region r335_52) (.block 0 (.loop k335_10))) .skip
def r335_77 : LO := [o 102 (.build zV []), on (st 7 6 102), o 7 (mi 16)]
def k335_12 : ACode := .seq (.seq (.region r335_51) k335_11) (.seq (.region r335_77) .ret)
def k335_13 : ACode := .seq (.seq (.region r335_15) (.seq (.region r335_16) k335_6)) (.seq k335_7 k335_12)
def k335_14 : ACode := .seq (.region r335_0) (.seq k335_1 (.seq k335_2 k335_13))
theorem fn335 : getFn Tryz.prog 335 = some (103, k335_14, [.cell 6 (some 7), .tmp 7]) := by kernel_rfl
def r336_0 : LO := [o 3 (bx 1), o 4 (mi 0), o 5 (mi 0)]
def r336_1 : LO := [o 13 (mv 0), o 14 (.call (cf 317) [(T 13)]), o 6 (mv 14), o 7 (mi 1)]
def r336_2 : LO := [o 15 (mv 6), o 16 (.nilCheck (T 15)), o 17 (fa 1 16), o 18 (ln 7 17), o 19 (fa 0 3), o 20 (fa 0 19), o 21 (ld 20)]
def r336_2t : LO := [o 22 (.call (cf 327) [(T 18), (T 21)]), o 8 (mv 22)]
def r336_2o : LN := [[], [0], [1], [2], [], [4], [5]]
def r336_3 : LO := [o 23 (fa 0 3), o 24 (fa 3 23), o 25 (ld 24)]
def r336_4 : LO := [o 29 (.bin .eql (T 25) (ci 4)), o 28 (mv 29)]
def r336_5 : LO := [o 30 (mv 8), o 31 (.bin .lss (T 30) (ci 0))]
def r336_6 : LO := [o 32 (mv 7), o 33 (.bin .add (T 32) (ci 1)), o 7 (mv 33)]
def r336_10 : LO := [o 35 (.bin .eql (T 25) (ci 5)), o 34 (mv 35)]
def r336_11 : LO := [o 36 (mv 7), o 37 (.bin .add (T 36) (ci 1)), o 7 (mv 37)]
def r336_12 : LO := [o 38 (mv 8), o 39 (.bin .lss (T 38) (ci 0))]
def r336_13 : LO := [o 40 (mv 7), o 41 (.bin .add (T 40) (ci 1)), o 7 (mv 41)]
def k336_1 : ACode := .seq (.region r336_12) (.cond (T 39) (.seq (.region r336_13) (.exit 0)) .skip)
def r336_19 : LO := [o 42 (mv 6), o 43 (.nilCheck (T 42)), o 44 (fa 1 43), o 45 (fa 5 44), o 46 (ld 45), o 47 (mv 8), o 48 (.idxSl 8 (T 46) (T 47)), o 49 (fa 1 48), o 50 (fa 4 49), o 51 (ld 50), o 52 (.len false (T 51)), o 53 (mi 0)]
def r336_20 : LO := [o 54 (.bin .lss (T 53) (T 52))]
def r336_24 : LO := [o 55 (.idxSl 14 (T 51) (T 53)), o 56 (ln 14 55), o 10 (.alloc [(aI 0), (aU 0), aE, .nil, .nil, .nil, .nil, (aI 0), (aU 0), aE, .nil, .nil, .nil, .nil]), on (st 14 10 56)]
def r336_25 : LO := [o 57 (fa 0 10), o 58 (ln 7 57), o 59 (fa 8 3), o 60 (ln 7 59), o 61 (.call (cf 20) [(T 58), (T 60)])]
def r336_26 : LO := [o 4 (mi 0), o 5 (mi 9)]
def k336_2 : ACode := .seq (.region r336_25) (.cond (T 61) (.seq (.region r336_26) .ret) .skip)
def r336_34 : LO := [o 62 (.bin .add (T 53) (ci 1)), o 53 (mv 62)]
def k336_3 : ACode := .seq (.block 2 (.seq (.region r336_24) k336_2)) (.region r336_34)
def k336_4 : ACode := .seq (.region r336_20) (.seq (.cond (T 54) .skip (.exit 1)) k336_3)
def k336_5 : ACode := .seq k336_1 (.seq (.region r336_19) (.block 1 (.loop k336_4)))
def r336_43 : LO := [o 26 (mv 8), o 27 (.bin .geq (T 26) (ci 0))]
def r336_44 : LO := [o 4 (mi 0), o 5 (mi 9)]
def k336_6 : ACode := .seq (.region r336_43) (.cond (T 27) (.seq (.region r336_44) .ret) .skip)
def k336_7 : ACode := .seq (.region r336_10) (.cond (T 34) (.seq (.region r336_11) k336_5) k336_6)
def k336_8 : ACode := .cond (T 28) (.seq (.region r336_5) (.cond (T 31) (.region r336_6) .skip)) k336_7
def k336_9 : ACode := .seq (.region r336_3) (.block 0 (.seq (.region r336_4) k336_8))
def r336_56 : LO := [o 63 (mv 0), o 64 (.nilCheck (T 63)), o 65 (fa 0 64), o 66 (fa 0 65), o 67 (ld 66), o 68 (mv 6), o 69 (.nilCheck (T 68)), o 70 (fa 0 69), o 71 (ld 70), o 72 (.idxSl 3 (T 67) (T 71)), o 73 (fa 1 72), o 74 (ld 73), o 75 (.len false (T 74)), o 76 (mi 0)]
def r336_56t : LO := []
def r336_56o : LN := [[], [0], [1], [2], [3], [], [5], [6], [7], [4, 8], [9], [10], [11], []]
def r336_57 : LO := [o 77 (.bin .lss (T 76) (T 75))]
def r336_61 : LO := [o 78 (.idxSl 8 (T 74) (T 76)), o 79 (ln 8 78), o 12 (.alloc [(aI 0), aE, aE, (aI 0), (aI 0), (aI 0), (aI 0), (aI 0)]), on (st 8 12 79)]
def r336_62 : LO := [o 80 (fa 0 3), o 81 (fa 7 80), o 82 (ld 81), o 83 (.bin .geq (T 82) (ci 0)), o 84 (mv 83), og 85 (fa 7 12) 84 true, og 86 (ld 85) 84 true, og 87 (fa 0 3) 84 true, og 88 (fa 7 87) 84 true, og 89 (ld 88) 84 true, og 90 (.bin .eql (T 86) (T 89)) 84 true, o 91 (.pick (T 84) (T 90) (cb false)), o 92 (mv 91), og 93 (fa 0 12) 92 true, og 94 (ld 93) 92 true, og 95 (fa 0 3) 92 true, og 96 (fa 0 95) 92 true, og 97 (ld 96) 92 true, og 98 (.bin .neq (T 94) (T 97)) 92 true, o 99 (.pick (T 92) (T 98) (cb false)), o 100 (mv 99), og 101 (mv 6) 100 true, og 102 (.nilCheck (T 101)) 100 true, og 103 (fa 1 102) 100 true, og 104 (ln 7 103) 100 true, og 105 (fa 0 12) 100 true, og 106 (ld 105) 100 true]
def r336_62t : LO := [og 107 (.call (cf 327) [(T 104), (T 106)]) 100 true, og 108 (.bin .geq (T 107) (ci 0)) 100 true, o 109 (.pick (T 100) (T 108) (cb false))]
def r336_62o : LN := [[], [0], [1], [2], [3], [4], [4, 5], [4], [4, 7], [4, 8], [4, 6, 9], [4, 10], [4, 11], [12], [12, 13], [12], [12, 15], [12, 16], [12, 14, 17], [12, 18], [12, 19], [20], [20, 21], [20, 22], [20, 23], [20], [20, 25]]
def r336_63 : LO := [o 4 (mi 0), o 5 (mi 15)]
def k336_10 : ACode := .seq (.drawn r336_62o r336_62 r336_62t) (.cond (T 109) (.seq (.region r336_63) .ret) .skip)
def r336_71 : LO := [o 110 (.bin .add (T 76) (ci 1)), o 76 (mv 110)]
def k336_11 : ACode := .seq (.block 4 (.seq (.region r336_61) k336_10)) (.region r336_71)
def k336_12 : ACode := .seq (.region r336_57) (.seq (.cond (T 77) .skip (.exit 3)) k336_11)
def k336_13 : ACode := .seq (.drawn r336_56o r336_56 r336_56t) (.block 3 (.loop k336_12))
def r336_78 : LO := [o 111 (mv 7), o 4 (mv 111), o 5 (mi 0)]
def k336_14 : ACode := .seq (.drawn r336_2o r336_2 r336_2t) (.seq k336_9 (.seq k336_13 (.seq (.region r336_78) .ret)))
def k336_15 : ACode := .seq (.region r336_0) (.seq (.region r336_1) k336_14)
theorem fn336 : getFn Tryz.prog 336 = some (112, k336_15, [.tmp 4, .tmp 5]) := by kernel_rfl
def r337_0 : LO := [o 4 (bx 1), o 5 (bx 2)]
def r337_1 : LO := [o 9 (mv 0), o 10 (.nilCheck (T 9)), o 11 (fa 1 10), o 12 (ln 7 11), o 13 (fa 0 4), o 14 (fa 0 13), o 15 (ld 14)]
def r337_1t : LO := [o 16 (.call (cf 327) [(T 12), (T 15)]), o 6 (mv 16)]
def r337_1o : LN := [[], [0], [1], [2], [], [4], [5]]
def r337_2 : LO := [o 17 (mv 6), o 18 (.bin .lss (T 17) (ci 0))]
def r337_3 : LO := [o 19 (mv 0), o 20 (.nilCheck (T 19)), o 21 (fa 1 20), o 22 (fa 5 21), o 23 (ld 22), o 24 (.len false (T 23)), o 6 (mv 24)]
def r337_4 : LO := [o 25 (fa 0 4), o 26 (fa 0 25), o 27 (ld 26), o 28 (.build [(aI 0), (aI 0), (aU 0), aE, .nil, .nil, .nil, .nil] [((0, 1), (T 27))]), o 7 (.alloc [(aI 0), (aI 0), (aU 0), aE, .nil, .nil, .nil, .nil]), on (st 8 7 28)]
def r337_5 : LO := [o 29 (fa 0 4), o 30 (fa 3 29), o 31 (ld 30)]
def r337_6 : LO := [o 33 (.bin .eql (T 31) (ci 4)), o 32 (mv 33)]
def r337_7 : LO := [o 34 (fa 1 7), o 35 (fa 0 34), on (.store 1 (T 35) (ci 11))]
def r337_8 : LO := [o 37 (.bin .eql (T 31) (ci 5)), o 36 (mv 37)]
def r337_9 : LO := [o 38 (fa 1 7), o 39 (fa 0 38), on (.store 1 (T 39) (ci 12))]
def k337_1 : ACode := .cond (T 32) (.region r337_7) (.seq (.region r337_8) (.cond (T 36) (.region r337_9) .skip))
def k337_2 : ACode := .seq (.region r337_5) (.block 0 (.seq (.region r337_6) k337_1))
def r337_17 : LO := [o 40 (mv 0), o 41 (.nilCheck (T 40)), o 42 (fa 1 41), o 43 (fa 5 42), o 44 (ld 43), o 45 (ln 8 7), o 46 (.len false (T 44)), o 47 (.sliceLit 8 1 [(aI 0), (aI 0), (aU 0), aE, .nil, .nil, .nil, .nil] [((0, 8), (.c (.agg [(aI 0), (aI 0), (aU 0), aE, .nil, .nil, .nil, .nil])))]), o 48 (.append 47 8 136 (T 44) (T 47)), o 49 (.idxSl 8 (T 48) (T 46)), on (st 8 49 45), o 50 (.nilCheck (T 40)), o 51 (fa 1 50), o 52 (fa 5 51), on (st 1 52 48)]
def r337_17t : LO := []
def r337_17o : LN := [[], [0], [1], [2], [3], [], [4], [], [0, 1, 2, 3, 4, 5, 6, 7], [0, 1, 2, 3, 4, 5, 6, 7, 8], [0, 1, 2, 3, 4, 5, 6, 7, 8, 9], [0, 1, 2, 3, 4, 5, 6, 7, 8], [0, 1, 2, 3, 4, 5, 6, 7, 8, 11], [0, 1, 2, 3, 4, 5, 6, 7, 8, 12], [0, 1, 2, 3, 4, 5, 6, 7, 8, 13]]
def k337_3 : ACode := .seq (.region r337_4) (.seq k337_2 (.drawn r337_17o r337_17 r337_17t))
def k337_4 : ACode := .seq (.region r337_2) (.cond (T 18) (.seq (.region r337_3) k337_3) .skip)
def r337_24 : LO := [o 53 (mv 0), o 54 (.nilCheck (T 53)), o 55 (fa 1 54), o 56 (fa 5 55), o 57 (ld 56), o 58 (mv 6), o 59 (.idxSl 8 (T 57) (T 58)), o 60 (fa 1 59), o 8 (mv 60)]
def r337_25 : LO := [o 61 (fa 0 4), o 62 (fa 3 61), o 63 (ld 62)]
def r337_26 : LO := [o 68 (.bin .eql (T 63) (ci 4)), o 67 (mv 68)]
def r337_27 : LO := [o 69 (mv 8), o 70 (.nilCheck (T 69)), o 71 (fa 3 70), o 72 (ld 71), o 73 (ln 7 5), o 74 (.len false (T 72)), o 75 (.sliceLit 7 1 zV [((0, 7), (.c (.agg zV)))]), o 76 (.append 28 7 128 (T 72) (T 75)), o 77 (.idxSl 7 (T 76) (T 74)), on (st 7 77 73), o 78 (.nilCheck (T 69)), o 79 (fa 3 78), on (st 1 79 76)]
def r337_27t : LO := []
def r337_27o : LN := [[], [0], [1], [2], [], [3], [], [0, 1, 2, 3, 4, 5, 6], [0, 1, 2, 3, 4, 5, 6, 7], [0, 1, 2, 3, 4, 5, 6, 7, 8], [0, 1, 2, 3, 4, 5, 6, 7], [0, 1, 2, 3, 4, 5, 6, 7, 10], [0, 1, 2, 3, 4, 5, 6, 7, 11]]
def r337_28 : LO := [o 81 (.bin .eql (T 63) (ci 5)), o 80 (mv 81)]
def r337_29 : LO := [o 82 (mv 8), o 83 (.nilCheck (T 82)), o 84 (fa 4 83), o 85 (ld 84), o 86 (fa 8 4), o 87 (ln 7 86), o 88 (ln 7 5), o 89 (.build [(aI 0), (aU 0), aE, .nil, .nil, .nil, .nil, (aI 0), (aU 0), aE, .nil, .nil, .nil, .nil] [((0, 7), (T 87)), ((7, 7), (T 88))]), o 90 (.len false (T 85)), o 91 (.sliceLit 14 1 [(aI 0), (aU 0), aE, .nil, .nil, .nil, .nil, (aI 0), (aU 0), aE, .nil, .nil, .nil, .nil] [((0, 14), (.c (.agg [(aI 0), (aU 0), aE, .nil, .nil, .nil, .nil, (aI 0), (aU 0), aE, .nil, .nil, .nil, .nil])))]), o 92 (.append 62 14 256 (T 85) (T 91)), o 93 (.idxSl 14 (T 92) (T 90)), on (st 14 93 89), o 94 (.nilCheck (T 82)), o 95 (fa 4 94), on (st 1 95 92)]
def r337_29t : LO := []
def r337_29o : LN := [[], [0], [1], [2], [], [4], [], [5, 6], [3], [], [0, 1, 2, 3, 4, 5, 6, 7, 8, 9], [0, 1, 2, 3, 4, 5, 6, 7, 8, 9, 10], [0, 1, 2, 3, 4, 5, 6, 7, 8, 9, 10, 11], [0, 1, 2, 3, 4, 5, 6, 7, 8, 9, 10], [0, 1, 2, 3, 4, 5, 6, 7, 8, 9, 10, 13], [0, 1, 2, 3, 4, 5, 6, 7, 8, 9, 10, 14]]
def r337_30 : LO := [o 64 (mv 8), o 65 (ln 7 5), o 66 (.nilCheck (T 64)), on (st 7 66 65)]
def k337_5 : ACode := .cond (T 80) (.drawn r337_29o r337_29 r337_29t) (.region r337_30)
def k337_6 : ACode := .cond (T 67) (.drawn r337_27o r337_27 r337_27t) (.seq (.region r337_28) k337_5)
def k337_7 : ACode := .seq (.region r337_25) (.block 1 (.seq (.region r337_26) k337_6))
def k337_8 : ACode := .seq (.drawn r337_1o r337_1 r337_1t) (.seq k337_4 (.seq (.region r337_24) k337_7))
def k337_9 : ACode := .seq (.region r337_0) k337_8
theorem fn337 : getFn Tryz.prog 337 = some (96, k337_9, []) := by kernel_rfl
def r338_0 : LO := [o 3 (bx 0), o 4 (bx 1), o 5 (bx 2), o 6 (.mv (.c aE))]
def r338_1 : LO := [o 9 (fa 5 4), o 10 (ld 9), o 11 (.call (cf 34) [(T 10)]), o 12 (.un .not (T 11)), o 13 (mv 12), og 14 (fa 5 4) 13 false, og 15 (ld 14) 13 false, og 16 (ln 7 5) 13 false, og 17 (.call (cf 235) [(T 15), (T 16)]) 13 false, og 18 (.un .not (T 17)) 13 false, o 19 (.pick (T 13) (cb true) (T 18))]
def r338_2 : LO := [o 6 (.mv (.c aE))]
def k338_1 : ACode := .seq (.region r338_1) (.cond (T 19) (.seq (.region r338_2) .ret) .skip)
def r338_8 : LO := [o 20 (fa 5 4), o 21 (ld 20), o 22 (.bin .neq (T 21) (ci 9))]
def r338_9 : LO := [o 23 (ln 7 5), o 24 (.call (cf 329) [(T 23)]), o 6 (mv 24)]
def k338_2 : ACode := .seq (.region r338_8) (.cond (T 22) (.seq (.region r338_9) .ret) .skip)
def r338_15 : LO := [o 26 (ln 2 3), o 27 (fa 6 4), o 28 (ld 27), o 29 (fa 1 5), o 30 (ld 29), o 31 (.call (cf 350) [(T 26), (T 28), (T 30)]), o 25 (mv 31), o 32 (.extract 0 (T 25)), o 33 (.extract 1 (T 25)), o 7 (.alloc [aE, (aI 0), .nil]), on (st 3 7 32), o 8 (mv 33)]
def r338_16 : LO := [o 34 (mv 8)]
def r338_17 : LO := [o 35 (fa 0 7), o 36 (ld 35), o 6 (mv 36)]
def k338_3 : ACode := .seq (.region r338_16) (.cond (T 34) (.seq (.region r338_17) .ret) .skip)
def r338_24 : LO := [o 37 (ln 7 5), o 38 (.call (cf 329) [(T 37)]), o 39 (.bin .add (.c (aS ⟨#[35]⟩)) (T 38)), o 6 (mv 39)]
def k338_4 : ACode := .seq (.seq (.region r338_15) k338_3) (.seq (.region r338_24) .ret)
def k338_5 : ACode := .seq (.region r338_0) (.seq k338_1 (.seq k338_2 k338_4))
theorem fn338 : getFn Tryz.prog 338 = some (40, k338_5, [.tmp 6]) := by kernel_rfl
def r342_0 : LO := [o 2 (.mv (.c aE))]
def r342_1 : LO := [o 3 (.allocB 174 5)]
def r342_2 : LO := [o 6 (.call (cf 110) [(T 3), (.c (aS ⟨#[34]⟩))])]
def r342_3 : LO := [o 7 (mv 0), o 8 (.range (T 7))]
def r342_4 : LO := [o 9 (.next (T 8)), o 10 (.extract 0 (T 9))]
def r342_8 : LO := [o 11 (.extract 1 (T 9)), o 12 (.extract 2 (T 9)), o 4 (mv 11), o 5 (mv 12)]
def r342_9 : LO := [o 13 (mv 0), o 14 (mv 4), o 15 (mv 5), o 16 (.call (cf 353) [(T 13), (T 14), (T 15)]), o 17 (.call (cf 110) [(T 3), (T 16)])]
def k342_1 : ACode := .seq (.cond (T 10) .skip (.exit 0)) (.block 1 (.seq (.region r342_8) (.region r342_9)))
def k342_2 : ACode := .seq (.region r342_4) k342_1
def r342_17 : LO := [o 18 (.call (cf 110) [(T 3), (.c (aS ⟨#[34]⟩))])]
def r342_18 : LO := [o 19 (.call (cf 114) [(T 3)]), o 2 (mv 19)]
def k342_3 : ACode := .seq (.seq (.region r342_3) (.block 0 (.loop k342_2))) (.seq (.region r342_17) (.seq (.region r342_18) .ret))
def k342_4 : ACode := .seq (.region r342_0) (.seq (.region r342_1) (.seq (.region r342_2) k342_3))
theorem fn342 : getFn Tryz.prog 342 = some (20, k342_4, [.tmp 2]) := by kernel_rfl
def r346_0 : LO := [o 2 (mi 0)]
def r346_1 : LO := [o 3 (mi 0)]
def r346_2 : LO := [o 4 (mv 3), o 5 (mv 0), o 6 (.len true (T 5)), o 7 (.bin .lss (T 4) (T 6)), o 8 (mv 7), og 9 (mv 0) 8 true, og 10 (mv 3) 8 true, og 11 (.idxS (T 9) (T 10)) 8 true, og 12 (.bin .geq (T 11) (.c (aC 97))) 8 true, og 13 (mv 12) 8 true, og 14 (mv 0) 13 true, og 15 (mv 3) 13 true, og 16 (.idxS (T 14) (T 15)) 13 true, og 17 (.bin .leq (T 16) (.c (aC 122))) 13 true, og 18 (.pick (T 13) (T 17) (cb false)) 8 true, og 19 (mv 18) 8 true, og 20 (mv 0) 19 false, og 21 (mv 3) 19 false, og 22 (.idxS (T 20) (T 21)) 19 false, og 23 (.bin .geq (T 22) (.c (aC 65))) 19 false, og 24 (mv 23) 19 false, og 25 (mv 0) 24 true, og 26 (mv 3) 24 true, og 27 (.idxS (T 25) (T 26)) 24 true, og 28 (.bin .leq (T 27) (.c (aC 90))) 24 true, og 29 (.pick (T 24) (T 28) (cb false)) 19 false, og 30 (.pick (T 19) (cb true) (T 29)) 8 true, og 31 (mv 30) 8 true, og 32 (mv 0) 31 false, og 33 (mv 3) 31 false, og 34 (.idxS (T 32) (T 33)) 31 false, og 35 (.bin .geq (T 34) (.c (aC 48))) 31 false, og 36 (mv 35) 31 false, og 37 (mv 0) 36 true, og 38 (mv 3) 36 true, og 39 (.idxS (T 37) (T 38)) 36 true, og 40 (.bin .leq (T 39) (.c (aC 57))) 36 true, og 41 (.pick (T 36) (T 40) (cb false)) 31 false, og 42 (.pick (T 31) (cb true) (T 41)) 8 true, og 43 (mv 42) 8 true, og 44 (mv 0) 43 false, og 45 (mv 3) 43 false, og 46 (.idxS (T 44) (T 45)) 43 false, og 47 (.bin .eql (T 46) (.c (aC 95))) 43 false, og 48 (.pick (T 43) (cb true) (T 47)) 8 true, o 49 (.pick (T 8) (T 48) (cb false))]
def r346_7 : LO := [o 50 (mv 3), o 51 (.bin .add (T 50) (ci 1)), o 3 (mv 51)]
def k346_1 : ACode := .seq (.seq (.region r346_2) (.cond (T 49) .skip (.exit 0))) (.block 1 (.region r346_7))
def r346_12 : LO := [o 52 (mv 3), o 2 (mv 52)]
def k346_2 : ACode := .seq (.region r346_1) (.seq (.block 0 (.loop k346_1)) (.seq (.region r346_12) .ret))
def k346_3 : ACode := .seq (.region r346_0) k346_2
theorem fn346 : getFn Tryz.prog 346 = some (53, k346_3, [.tmp 2]) := by kernel_rfl
def r347_0 : LO := [o 2 (bx 0), o 3 (bx 1), o 4 (.alloc [(aI 0), aE, aE, (aI 0), (aI 0), (aI 0), (aI 0), (aI 0)]), o 5 (mb false)]
def r347_1 : LO := [o 9 (.func (.func 355) [] [(T 3)]), o 10 (.build [(.v .nilFunc)] [((0, 1), (T 9))]), o 11 (ln 3 2), o 12 (.call (cf 127) [(T 10), (T 11)]), o 8 (mv 12), o 13 (.extract 0 (T 8)), o 14 (.extract 1 (T 8)), o 6 (.alloc [(aI 0), aE, aE, (aI 0), (aI 0), (aI 0), (aI 0), (aI 0)]), on (st 8 6 13), o 7 (mv 14)]
def r347_2 : LO := [o 15 (mv 7)]
def r347_3 : LO := [o 16 (ln 8 6), on (st 8 4 16), o 5 (mb true)]
def k347_1 : ACode := .seq (.region r347_2) (.cond (T 15) (.seq (.region r347_3) .ret) .skip)
def r347_10 : LO := [o 17 (.func (.func 356) [] [(T 3)]), o 18 (.build [(.v .nilFunc)] [((0, 1), (T 17))]), o 19 (ln 3 2), o 20 (.call (cf 127) [(T 18), (T 19)]), o 21 (.extract 0 (T 20)), o 22 (.extract 1 (T 20)), on (st 8 4 21), o 5 (mv 22)]
def k347_2 : ACode := .seq (.seq (.region r347_1) k347_1) (.seq (.region r347_10) .ret)
def k347_3 : ACode := .seq (.region r347_0) k347_2
theorem fn347 : getFn Tryz.prog 347 = some (23, k347_3, [.cell 4 (some 8), .tmp 5]) := by kernel_rfl
def r349_0 : LO := [o 4 (.alloc zV), o 5 (mi 0)]
def r349_1 : LO := [o 7 (mv 0), o 8 (.call (cf 34) [(T 7)]), o 9 (.un .not (T 8)), o 6 (mv 9)]
def r349_2 : LO := [o 10 (.build zV []), on (st 7 4 10), o 5 (mi 1)]
def r349_5 : LO := [o 12 (mv 0), o 13 (.bin .eql (T 12) (ci 1)), o 14 (mv 13), og 15 (mv 1) 14 true, og 16 (.bin .eql (T 15) (.c (aS ⟨#[116, 114, 117, 101]⟩))) 14 true, o 17 (.pick (T 14) (T 16) (cb false)), o 11 (mv 17)]
def r349_6 : LO := [o 18 (mv 0), o 19 (.build zV [((0, 1), (T 18)), ((1, 1), (.c (aU 1)))]), on (st 7 4 19), o 5 (mi 0)]
def r349_9 : LO := [o 21 (mv 0), o 22 (.bin .eql (T 21) (ci 1)), o 23 (mv 22), og 24 (mv 1) 23 true, og 25 (.bin .eql (T 24) (.c (aS ⟨#[102, 97, 108, 115, 101]⟩))) 23 true, o 26 (.pick (T 23) (T 25) (cb false)), o 20 (mv 26)]
def r349_10 : LO := [o 27 (mv 0), o 28 (.build zV [((0, 1), (T 27))]), on (st 7 4 28), o 5 (mi 0)]
def r349_13 : LO := [o 30 (mv 0), o 31 (.bin .eql (T 30) (ci 1)), o 29 (mv 31)]
def r349_14 : LO := [o 32 (.build zV []), on (st 7 4 32), o 5 (mi 2)]
def r349_17 : LO := [o 34 (mv 0), o 35 (.bin .eql (T 34) (ci 6)), o 33 (mv 35)]
def r349_18 : LO := [o 36 (mv 1), o 37 (.call (cf 359) [(T 36)]), o 38 (.extract 0 (T 37)), o 39 (.extract 1 (T 37)), on (st 7 4 38), o 5 (mv 39)]
def r349_21 : LO := [o 41 (mv 0), o 42 (.call (cf 35) [(T 41)]), o 40 (mv 42)]
def r349_22 : LO := [o 43 (mv 0), o 44 (mv 1), o 45 (.call (cf 360) [(T 43), (T 44)]), o 46 (.extract 0 (T 45)), o 47 (.extract 1 (T 45)), on (st 7 4 46), o 5 (mv 47)]
def k349_1 : ACode := .seq (.region r349_21) (.cond (T 40) (.seq (.region r349_22) .ret) .skip)
def k349_2 : ACode := .seq (.region r349_17) (.cond (T 33) (.seq (.region r349_18) .ret) k349_1)
def k349_3 : ACode := .seq (.region r349_13) (.cond (T 29) (.seq (.region r349_14) .ret) k349_2)
def k349_4 : ACode := .seq (.region r349_9) (.cond (T 20) (.seq (.region r349_10) .ret) k349_3)
def k349_5 : ACode := .seq (.region r349_5) (.cond (T 11) (.seq (.region r349_6) .ret) k349_4)
def k349_6 : ACode := .seq (.region r349_1) (.cond (T 6) (.seq (.region r349_2) .ret) k349_5)
def r349_39 : LO := [o 48 (mv 0), o 49 (mv 1), o 50 (.call (cf 361) [(T 48), (T 49)]), o 51 (.extract 0 (T 50)), o 52 (.extract 1 (T 50)), on (st 7 4 51), o 5 (mv 52)]
def k349_7 : ACode := .seq (.region r349_0) (.seq (.block 0 k349_6) (.seq (.region r349_39) .ret))
theorem fn349 : getFn Tryz.prog 349 = some (53, k349_7, [.cell 4 (some 7), .tmp 5]) := by kernel_rfl
def r353_0 : LO := [o 6 (.mv (.c aE))]
def r353_1 : LO := [o 8 (mv 2), o 9 (.bin .eql (T 8) (.c (.v (.int .i32 34)))), o 7 (mv 9)]
def r353_2 : LO := [o 6 (.mv (.c (aS ⟨#[92, 34]⟩)))]
def r353_5 : LO := [o 11 (mv 2), o 12 (.bin .eql (T 11) (.c (.v (.int .i32 92)))), o 10 (mv 12)]
def r353_6 : LO := [o 6 (.mv (.c (aS ⟨#[92, 92]⟩)))]
def r353_9 : LO := [o 14 (mv 2), o 15 (.bin .eql (T 14) (.c (.v (.int .i32 10)))), o 13 (mv 15)]
def r353_10 : LO := [o 6 (.mv (.c (aS ⟨#[92, 110]⟩)))]
def r353_13 : LO := [o 17 (mv 2), o 18 (.bin .eql (T 17) (.c (.v (.int .i32 9)))), o 16 (mv 18)]
def r353_14 : LO := [o 6 (.mv (.c (aS ⟨#[92, 116]⟩)))]
def r353_17 : LO := [o 20 (mv 2), o 21 (.bin .eql (T 20) (.c (.v (.int .i32 13)))), o 19 (mv 21)]
def r353_18 : LO := [o 6 (.mv (.c (aS ⟨#[92, 114]⟩)))]
def r353_21 : LO := [o 23 (mv 2), o 24 (.bin .lss (T 23) (.c (.v (.int .i32 32)))), o 25 (mv 24), og 26 (mv 2) 25 false, og 27 (.bin .eql (T 26) (.c (.v (.int .i32 127)))) 25 false, o 28 (.pick (T 25) (cb true) (T 27)), o 29 (mv 28), og 30 (mv 0) 29 false, og 31 (mv 1) 29 false, og 32 (mv 2) 29 false, og 33 (.call (cf 248) [(T 30), (T 31), (T 32)]) 29 false, o 34 (.pick (T 29) (cb true) (T 33)), o 22 (mv 34)]
def r353_22 : LO := [o 35 (mv 0), o 36 (mv 1), o 37 (.idxS (T 35) (T 36)), o 38 (.call (cf 363) [(T 37)]), o 6 (mv 38)]
def k353_1 : ACode := .seq (.region r353_21) (.cond (T 22) (.seq (.region r353_22) .ret) .skip)
def k353_2 : ACode := .seq (.region r353_17) (.cond (T 19) (.seq (.region r353_18) .ret) k353_1)
def k353_3 : ACode := .seq (.region r353_13) (.cond (T 16) (.seq (.region r353_14) .ret) k353_2)
def k353_4 : ACode := .seq (.region r353_9) (.cond (T 13) (.seq (.region r353_10) .ret) k353_3)
def k353_5 : ACode := .seq (.region r353_5) (.cond (T 10) (.seq (.region r353_6) .ret) k353_4)
def k353_6 : ACode := .seq (.region r353_1) (.cond (T 7) (.seq (.region r353_2) .ret) k353_5)
def r353_39 : LO := [o 39 (mv 2), o 40 (.conv .chr (T 39)), o 6 (mv 40)]
def k353_7 : ACode := .seq (.region r353_0) (.seq (.block 0 k353_6) (.seq (.region r353_39) .ret))
theorem fn353 : getFn Tryz.prog 353 = some (41, k353_7, [.tmp 6]) := by kernel_rfl
def r355_0 : LO := [o 2 (bx 0), o 3 (mb false)]
def r355_1 : LO := [o 4 (fa 1 2), o 5 (ld 4), o 6 (ld 1), o 7 (.bin .eql (T 5) (T 6)), o 3 (mv 7)]
def k355_1 : ACode := .seq (.region r355_0) (.seq (.region r355_1) .ret)
theorem fn355 : getFn Tryz.prog 355 = some (8, k355_1, [.tmp 3]) := by kernel_rfl
def r357_0 : LO := [o 2 (.mv (.c aE)), o 3 (mi 0), o 4 (mi 0)]
def r357_1 : LO := [o 10 (mv 0), o 11 (.bin .eql (T 10) (.c aE)), o 12 (mv 11), og 13 (mv 0) 12 false, og 14 (.idxS (T 13) (ci 0)) 12 false, og 15 (.bin .neq (T 14) (.c (aC 34))) 12 false, o 16 (.pick (T 12) (cb true) (T 15))]
def r357_2 : LO := [o 2 (.mv (.c aE)), o 3 (mi 0), o 4 (mi 2)]
def k357_1 : ACode := .seq (.region r357_1) (.cond (T 16) (.seq (.region r357_2) .ret) .skip)
def r357_8 : LO := [o 5 (.mv (.c .nil))]
def r357_9 : LO := [o 6 (mi 1)]
def r357_10 : LO := [o 17 (mv 6), o 18 (mv 0), o 19 (.len true (T 18)), o 20 (.bin .lss (T 17) (T 19)), o 21 (mv 20), og 22 (mv 0) 21 true, og 23 (mv 6) 21 true, og 24 (.idxS (T 22) (T 23)) 21 true, og 25 (.bin .neq (T 24) (.c (aC 34))) 21 true, o 26 (.pick (T 21) (T 25) (cb false))]
def r357_15 : LO := [o 27 (mv 0), o 28 (mv 6), o 29 (.idxS (T 27) (T 28)), o 7 (mv 29), o 8 (mi 1)]
def r357_16 : LO := [o 30 (mv 7), o 31 (.bin .eql (T 30) (.c (aC 92)))]
def r357_17 : LO := [o 33 (mv 0), o 34 (mv 6), o 35 (.call (cf 368) [(T 33), (T 34)]), o 32 (mv 35), o 36 (.extract 0 (T 32)), o 37 (.extract 1 (T 32)), o 7 (mv 36), o 8 (mv 37)]
def k357_2 : ACode := .seq (.region r357_16) (.cond (T 31) (.region r357_17) .skip)
def r357_21 : LO := [o 38 (mv 8), o 39 (.bin .eql (T 38) (ci 0))]
def r357_22 : LO := [o 2 (.mv (.c aE)), o 3 (mi 0), o 4 (mi 2)]
def k357_3 : ACode := .seq (.region r357_21) (.cond (T 39) (.seq (.region r357_22) .ret) .skip)
def r357_28 : LO := [o 40 (mv 5), o 41 (mv 7), o 42 (.sliceLit 1 1 [(aC 0)] [((0, 1), (T 41))]), o 43 (.append 5 1 1 (T 40) (T 42)), o 5 (mv 43)]
def r357_29 : LO := [o 44 (mv 6), o 45 (mv 8), o 46 (.bin .add (T 44) (T 45)), o 6 (mv 46)]
def k357_4 : ACode := .seq k357_2 (.seq k357_3 (.seq (.region r357_28) (.region r357_29)))
def k357_5 : ACode := .seq (.seq (.region r357_10) (.cond (T 26) .skip (.exit 0))) (.block 1 (.seq (.region r357_15) k357_4))
def r357_38 : LO := [o 47 (mv 5), o 48 (.conv .str (T 47)), o 9 (mv 48)]
def r357_39 : LO := [o 49 (mv 6), o 50 (mv 0), o 51 (.len true (T 50)), o 52 (.bin .geq (T 49) (T 51)), o 53 (mv 52), og 54 (mv 9) 53 false, og 55 (.call (cf 342) [(T 54)]) 53 false, og 56 (mv 0) 53 false, og 57 (mv 6) 53 false, og 58 (.bin .add (T 57) (ci 1)) 53 false, og 59 (.sliceS (T 56) none (some (T 58))) 53 false]
def r357_39t : LO := [og 60 (.bin .neq (T 55) (T 59)) 53 false, o 61 (.pick (T 53) (cb true) (T 60))]
def r357_39o : LN := [[], [], [1], [0, 2], [3], [4], [4, 5], [4], [4], [4, 8], [4, 7, 9]]
def r357_40 : LO := [o 2 (.mv (.c aE)), o 3 (mi 0), o 4 (mi 2)]
def k357_6 : ACode := .seq (.drawn r357_39o r357_39 r357_39t) (.cond (T 61) (.seq (.region r357_40) .ret) .skip)
def r357_46 : LO := [o 62 (mv 9), o 63 (mv 6), o 64 (.bin .add (T 63) (ci 1)), o 2 (mv 62), o 3 (mv 64), o 4 (mi 0)]
def k357_7 : ACode := .seq (.region r357_38) (.seq k357_6 (.seq (.region r357_46) .ret))
def k357_8 : ACode := .seq (.region r357_9) (.seq (.block 0 (.loop k357_5)) k357_7)
def k357_9 : ACode := .seq (.region r357_0) (.seq k357_1 (.seq (.region r357_8) k357_8))
theorem fn357 : getFn Tryz.prog 357 = some (65, k357_9, [.tmp 2, .tmp 3, .tmp 4]) := by kernel_rfl
def r360_0 : LO := [o 4 (.alloc zV), o 5 (mi 0)]
def r360_1 : LO := [o 12 (mv 1), o 6 (mv 12), o 7 (mb true)]
def r360_2 : LO := [o 13 (mv 0), o 14 (.bin .eql (T 13) (ci 8))]
def r360_3 : LO := [o 16 (mv 1), o 17 (.call (cf 325) [(T 16), (.c (aS ⟨#[120]⟩))]), o 15 (mv 17), o 18 (.extract 0 (T 15)), o 19 (.extract 1 (T 15)), o 6 (mv 18), o 7 (mv 19)]
def r360_7 : LO := [o 21 (mv 6), o 22 (.call (cf 371) [(T 21)]), o 20 (mv 22), o 23 (.extract 0 (T 20)), o 24 (.extract 1 (T 20)), o 8 (mv 23), o 9 (mv 24)]
def r360_8 : LO := [o 25 (mv 7), o 26 (.un .not (T 25)), o 27 (mv 26), og 28 (mv 9) 27 false, og 29 (.un .not (T 28)) 27 false, o 30 (.pick (T 27) (cb true) (T 29))]
def r360_9 : LO := [o 31 (.build zV []), on (st 7 4 31), o 5 (mi 2)]
def k360_1 : ACode := .seq (.region r360_8) (.cond (T 30) (.seq (.region r360_9) .ret) .skip)
def r360_15 : LO := [o 32 (mv 0), o 33 (.bin .eql (T 32) (ci 8))]
def r360_16 : LO := [o 35 (mv 8), o 36 (.call (cf 372) [(T 35)]), o 34 (mv 36), o 37 (.extract 0 (T 34)), o 38 (.extract 1 (T 34)), o 10 (mv 37), o 11 (mv 38)]
def r360_17 : LO := [o 39 (mv 11), o 40 (.bin .neq (T 39) (ci 0))]
def r360_18 : LO := [o 41 (.build zV []), o 42 (mv 11), on (st 7 4 41), o 5 (mv 42)]
def k360_2 : ACode := .seq (.region r360_17) (.cond (T 40) (.seq (.region r360_18) .ret) .skip)
def r360_24 : LO := [o 43 (mv 10), o 8 (mv 43)]
def k360_3 : ACode := .cond (T 33) (.seq (.region r360_16) (.seq k360_2 (.region r360_24))) .skip
def r360_30 : LO := [o 45 (mv 0), o 46 (.bin .eql (T 45) (ci 7)), o 47 (mv 46), og 48 (mv 8) 47 true, og 49 (.call (cf 168) [(T 48)]) 47 true, og 50 (.un .not (T 49)) 47 true, o 51 (.pick (T 47) (T 50) (cb false)), o 44 (mv 51)]
def r360_31 : LO := [o 52 (.build zV []), on (st 7 4 52), o 5 (mi 7)]
def r360_34 : LO := [o 54 (mv 8), o 55 (.len true (T 54)), o 56 (.bin .gtr (T 55) (ci 4096)), o 53 (mv 56)]
def r360_35 : LO := [o 57 (.build zV []), on (st 7 4 57), o 5 (mi 3)]
def k360_4 : ACode := .seq (.region r360_34) (.cond (T 53) (.seq (.region r360_35) .ret) .skip)
def k360_5 : ACode := .seq (.region r360_30) (.cond (T 44) (.seq (.region r360_31) .ret) k360_4)
def r360_44 : LO := [o 58 (mv 0), o 59 (mv 8), o 60 (.build zV [((0, 1), (T 58)), ((2, 1), (T 59))]), on (st 7 4 60), o 5 (mi 0)]
def k360_6 : ACode := .seq (.seq (.region r360_15) k360_3) (.seq (.block 0 k360_5) (.seq (.region r360_44) .ret))
def k360_7 : ACode := .seq (.seq (.region r360_2) (.cond (T 14) (.region r360_3) .skip)) (.seq (.region r360_7) (.seq k360_1 k360_6))
def k360_8 : ACode := .seq (.region r360_0) (.seq (.region r360_1) k360_7)
theorem fn360 : getFn Tryz.prog 360 = some (61, k360_8, [.cell 4 (some 7), .tmp 5]) := by kernel_rfl
def r371_0 : LO := [o 2 (.mv (.c aE)), o 3 (mb false)]
def r371_1 : LO := [o 8 (mv 0), o 9 (.call (cf 357) [(T 8)]), o 7 (mv 9), o 10 (.extract 0 (T 7)), o 11 (.extract 1 (T 7)), o 12 (.extract 2 (T 7)), o 4 (mv 10), o 5 (mv 11), o 6 (mv 12)]
def r371_2 : LO := [o 13 (mv 4), o 14 (mv 6), o 15 (.bin .eql (T 14) (ci 0)), o 16 (mv 15), og 17 (mv 5) 16 true, og 18 (mv 0) 16 true, og 19 (.len true (T 18)) 16 true, og 20 (.bin .eql (T 17) (T 19)) 16 true, o 21 (.pick (T 16) (T 20) (cb false)), o 2 (mv 13), o 3 (mv 21)]
def k371_1 : ACode := .seq (.region r371_0) (.seq (.region r371_1) (.seq (.region r371_2) .ret))
theorem fn371 : getFn Tryz.prog 371 = some (22, k371_1, [.tmp 2, .tmp 3]) := by kernel_rfl
set_option maxHeartbeats 1000000 in
set_option maxRecDepth 100000 in
theorem cc_used (b : Nat) (w : World) (h0 : w.cell? ⟨b, 0, none⟩ = some (.pointer (some ⟨b, 0, none⟩))) :
  Calls Tryz.prog 184 #[.pointer (some ⟨b, 0, none⟩)] w fun e w' => e = .returned (.tuple #[]) /\ w' = w := by
 obtain ⟨j, hj, _⟩ := Option.map_eq_some_iff.1 (show ((Tryz.prog).info? 174).map (·.size) = some 2 by kernel_rfl)
 go_enter Tryz.func184, Tryz.ntmps184
 go_wp2
 rw [Lib.run_neq_ptr_same w _ Tryz.underlying171 hj]
 go_wp2
 go_end0
 exact ⟨rfl, rfl⟩
set_option maxHeartbeats 1000000 in
set_option maxRecDepth 100000 in
theorem cc_fresh (b : Nat) (w : World) (h0 : w.cell? ⟨b, 0, none⟩ = some (.pointer none)) (hsh : w.shape? b = some (174, 2)) (hfz : w.frozen? ⟨b, 0, none⟩ = false) :
  Calls Tryz.prog 184 #[.pointer (some ⟨b, 0, none⟩)] w fun e w' => e = .returned (.tuple #[]) /\ w' = w.setCell ⟨b, 0, none⟩ (.pointer (some ⟨b, 0, none⟩)) := by
 obtain ⟨j, hj, hjs⟩ := Option.map_eq_some_iff.1 (show ((Tryz.prog).info? 174).map (·.size) = some 2 by kernel_rfl)
 have hlies : liesAt Tryz.prog (Tryz.prog).depth 174 (2 / (Tryz.prog).cellsOf 174) 0 174 1 = true := by kernel_rfl
 go_enter Tryz.func184, Tryz.ntmps184
 go_wp2
 rw [Lib.run_to_unsafe w ⟨b, 0, none⟩ Tryz.underlying171 Tryz.underlying263 hj (by rw [hjs]; decide) hsh (Nat.zero_lt_succ 1)]
 simp only [Result.andThen]
 rw [Oper.upon_value]
 go_wp2
 rw [run_callFunc_extern Tryz.func230 (by kernel_rfl) (by kernel_rfl) (by kernel_rfl) (e := Extern.AbiNoEscape.same) (by kernel_rfl)]
 rw [Lib.run_noEscape]
 simp only [Result.andThen]
 rw [Oper.upon_value]
 go_wp2
 rw [Lib.run_from_unsafe w ⟨b, 0, none⟩ Tryz.underlying263 Tryz.underlying171 hj hsh hlies]
 simp only [Result.andThen]
 rw [Oper.upon_value]
 go_wp2
 go_end0
 exact ⟨rfl, rfl⟩
theorem cc_ok : CCOK Tryz.prog 184 174 := by
 intro h n r hb K hk
 refine ⟨⟨_, Tryz.func184, by kernel_rfl, by kernel_rfl⟩, fun σ cargs hi hr => ?_⟩
 obtain ⟨hl, hx⟩ := hr
 obtain ⟨x0, h0, r0⟩ := hx 0 _ rfl
 obtain ⟨b, k1, k2⟩ := hi.blk n _ hb
 cases r0 with
 | ptr _ _ b' hb' =>
 rw [k1] at hb'; cases hb'
 obtain rfl : cargs = #[.pointer (some ⟨b, 0, none⟩)] := by
  apply Array.ext'
  match hc : cargs.toList, hl, h0 with
  | [a], _, h0 => simp at h0; simp [h0]
 obtain ⟨cs, rest, elem, hh, hc⟩ := k2.plain rfl
 obtain ⟨_, x, hx0, hrx⟩ := hc.2 0 _ rfl
 have hcell : σ.w.cell? ⟨b, 0, none⟩ = some x := by
  rw [blk_cell hh, ← Array.getElem?_toList, List.toList_toArray, List.getElem?_append_left (List.getElem?_eq_some_iff.1 hx0).1]
  exact hx0
 cases hrx with
 | ps _ _ b2 p hb2 hs hp =>
 rw [k1] at hb2; cases hb2
 rcases hp with rfl | rfl
 ·refine (cc_fresh b σ.w hcell hs (frozen_blk hh 0)).mono fun e w' ⟨he, hw⟩ => ?_
  subst he hw
  have hlt : b < σ.w.heap.size := heap_lt hh
  obtain ⟨q1, q2, q3, q4, q5⟩ := setCells_past b [.pointer (some ⟨b, 0, none⟩)] 0 σ.w
  have q6 := setCells_heap b elem (0, 0) [.pointer (some ⟨b, 0, none⟩)] 0 σ.w (cs ++ rest) hh (by have := (List.getElem?_eq_some_iff.1 hx0).1; simp; omega)
  have hw : σ.w.setCells b 0 [.pointer (some ⟨b, 0, none⟩)] = σ.w.setCell ⟨b, 0, none⟩ (.pointer (some ⟨b, 0, none⟩)) := rfl
  obtain ⟨c0, cs, rfl⟩ : ∃ c0 cs', cs = c0 :: cs' := by
   cases cs with
   | nil => simp at hx0
   | cons c0 cs' => exact ⟨c0, cs', rfl⟩
  obtain ⟨hle, hinv⟩ := put_ok (w' := σ.w.setCells b 0 [.pointer (some ⟨b, 0, none⟩)]) (cells' := .ps n 174 :: r) hi k1 hb (by simp) q1 q2 q3 q4 q5 (fun o ho => setCells_some b _ 0 σ.w _ ho) (fun hle => by
   refine .cells _ (.pointer (some ⟨b, 0, none⟩) :: cs) rest elem (by rw [q6]; simp) ⟨by simpa using hc.1, fun i av hi => ?_⟩
   cases i with
   | zero => simp at hi; subst hi; exact ⟨rfl, _, rfl, .ps _ _ b _ k1 (setCells_shape b _ 0 _ b hs) (.inr rfl)⟩
   | succ i =>
    obtain ⟨g1, y, g2, g3⟩ := hc.2 (i + 1) av (by simpa using hi)
    exact ⟨g1, y, by simpa using g2, g3.mono hle⟩) (fun _ => ⟨_, _, q6⟩) (by simp) (fun x hx => setCells_shape b _ 0 _ b hx)
  have e1 : h.blks.set n (some (.ps n 174 :: r)) = h.blks := by
   apply List.ext_getElem?
   intro i
   by_cases hni : n = i
   ·subst hni
    rw [List.getElem?_set_self (List.getElem?_eq_some_iff.1 hb).1, hb]
   ·rw [List.getElem?_set_ne hni]
  rw [e1] at hinv
  exact ⟨_, h, .tuple [], _, rfl, hw, hle, hinv, Rel.tuple_mk rfl fun i av hi => by simp at hi, hk⟩
 ·refine (cc_used b σ.w hcell).mono fun e w' ⟨he, hw⟩ => ?_
  subst he hw
  exact ⟨σ, h, .tuple [], _, rfl, rfl, Le.refl σ, hi, Rel.tuple_mk rfl fun i av hi => by simp at hi, hk⟩
theorem tok_cons {P : Program} {T : Tbl} {g : Nat} {x : Nat × ACode × List ARes} (h : getFn P g = some x) (t : TblOK P T) (hc : isCC x.2.1 = false := by rfl) (hk : isKn x.2.1 = none := by rfl) : TblOK P ((g, x) :: T) := by
 intro f y hf
 rcases List.mem_cons.1 hf with e | hf
 ·cases e; unfold EntOK; rw [hk, hc]; exact h
 ·exact t f y hf
theorem tok_nil {P : Program} : TblOK P [] := fun _ _ h => by cases h
def tblG : Tbl := [
 (5, (114, k5_4, [.tmp 0])),
 (6, (75, k6_9, [.cell 2 (some 7)])),
 (7, (174, k7_13, [.tmp 4])),
 (10, (26, k10_3, [.tmp 8, .tmp 9])),
 (11, (55, k11_5, [.tmp 12, .tmp 13])),
 (12, (30, k12_3, [.cell 10 (some 7), .tmp 11])),
 (13, (37, k13_5, [.cell 6 (some 3)])),
 (14, (46, k14_2, [.tmp 12])),
 (15, (8, k15_2, [.tmp 2])),
 (16, (8, k16_2, [.tmp 2])),
 (17, (8, k17_2, [.tmp 2])),
 (18, (17, k18_5, [.tmp 2, .tmp 3])),
 (19, (2, k19_1, [.cell 0 (some 4)])),
 (20, (9, k20_1, [.tmp 4])),
 (21, (62, k21_9, [.tmp 4])),
 (22, (20, k22_8, [.tmp 4])),
 (23, (33, k23_5, [.tmp 2])),
 (24, (62, k24_7, [.tmp 4])),
 (28, (18, k28_5, [.tmp 2])),
 (29, (39, k29_8, [.tmp 6])),
 (30, (17, k30_1, [.tmp 4])),
 (31, (39, k31_8, [.tmp 6])),
 (33, (6, k33_1, [.tmp 2])),
 (34, (9, k34_1, [.tmp 2])),
 (35, (9, k35_1, [.tmp 2])),
 (36, (20, k36_8, [.tmp 4])),
 (39, (6, k39_1, [.tmp 2])),
 (58, (19, k58_1, [.cell 10 (some 7), .tmp 11])),
 (59, (16, k59_1, [.tmp 8, .tmp 9])),
 (60, (40, k60_4, [.cell 8 (some 7), .tmp 9])),
 (61, (40, k61_7, [.tmp 6, .tmp 7])),
 (62, (74, k62_10, [.cell 10 (some 7), .tmp 11])),
 (63, (15, k63_1, [.tmp 4, .tmp 5])),
 (64, (54, k64_11, [.tmp 6])),
 (65, (19, k65_1, [.tmp 4])),
 (66, (32, k66_5, [.tmp 6])),
 (67, (57, k67_8, [.tmp 6])),
 (68, (43, k68_3, [.cell 4 (some 6), .tmp 5])),
 (69, (21, k69_2, [.tmp 4])),
 (70, (93, k70_13, [.cell 6 (some 7), .tmp 7])),
 (71, (86, k71_7, [.cell 6 (some 7)])),
 (72, (19, k72_5, [.tmp 4])),
 (73, (8, k73_1, [.tmp 3])),
 (74, (23, k74_5, [.cell 4 (some 7), .tmp 5])),
 (76, (24, k76_8, [.tmp 2])),
 (77, (77, k77_16, [.tmp 8])),
 (78, (23, k78_4, [.tmp 2])),
 (79, (30, k79_3, [.tmp 6])),
 (80, (54, k80_8, [.tmp 2])),
 (81, (22, k81_4, [.cell 4 (some 6), .tmp 5])),
 (82, (11, k82_2, [.tmp 2])),
 (83, (42, k83_5, [.tmp 2, .tmp 3, .cell 4 (some 6), .tmp 5])),
 (84, (64, k84_6, [.cell 10 (some 7), .tmp 11])),
 (87, (8, k87_2, [.tmp 2])),
 (88, (40, k88_6, [.tmp 2])),
 (89, (12, k89_1, [.cell 4 (some 8), .tmp 5])),
 (90, (67, k90_12, [.cell 6 (some 7)])),
 (92, (9, .region r92_0, [])),
 (94, (21, k94_1, [.tmp 2])),
 (95, (11, k95_1, [.tmp 2])),
 (96, (23, k96_1, [.tmp 2])),
 (97, (12, k97_1, [.tmp 2])),
 (98, (11, k98_1, [.tmp 2])),
 (99, (12, k99_1, [.tmp 2])),
 (100, (41, k100_7, [.tmp 2])),
 (101, (74, k101_1, [.tmp 2])),
 (102, (69, k102_9, [.tmp 10])),
 (103, (9, k103_1, [.tmp 4])),
 (106, (40, k106_7, [.tmp 2])),
 (107, (14, k107_4, [.tmp 2])),
 (108, (24, k108_4, [.tmp 2])),
 (109, (26, k109_2, [.tmp 4, .tmp 5])),
 (110, (19, k110_2, [.tmp 4, .tmp 5])),
 (112, (13, k112_1, [.tmp 2])),
 (113, (20, k113_3, [.tmp 2])),
 (114, (14, k114_1, [.tmp 2])),
 (115, (21, k115_1, [.tmp 2])),
 (116, (23, k116_3, [.tmp 2, .cell 3 (some 6), .tmp 4])),
 (118, (21, k118_1, [.tmp 2])),
 (120, (6, k120_1, [.tmp 2])),
 (122, (87, k122_11, [.cell 8 (some 7), .tmp 9])),
 (124, (9, .region r124_0, [])),
 (126, (8, k126_1, [.tmp 3])),
 (127, (20, k127_3, [.cell 4 (some 8), .tmp 5])),
 (128, (17, k128_2, [.cell 6 (some 7)])),
 (130, (14, k130_2, [.cell 2 (some 7)])),
 (132, (63, k132_9, [])),
 (133, (8, k133_1, [.tmp 4])),
 (134, (7, k134_1, [.tmp 2])),
 (135, (8, k135_1, [.tmp 4])),
 (137, (12, k137_1, [.tmp 2])),
 (138, (11, k138_1, [.tmp 2])),
 (139, (8, k139_1, [.tmp 4])),
 (140, (7, k140_1, [.tmp 2])),
 (141, (10, k141_1, [.tmp 2])),
 (145, (24, k145_4, [.tmp 4])),
 (147, (24, k147_4, [.tmp 4])),
 (149, (7, k149_1, [.tmp 2])),
 (150, (24, k150_4, [.tmp 4])),
 (151, (10, k151_1, [.tmp 4])),
 (155, (13, k155_1, [.tmp 3])),
 (157, (20, k157_5, [.tmp 4])),
 (158, (5, k158_1, [.tmp 2])),
 (162, (6, k162_1, [.tmp 2])),
 (163, (11, k163_1, [.tmp 2])),
 (165, (13, k165_1, [.tmp 3])),
 (166, (47, k166_6, [.tmp 2])),
 (167, (35, k167_1, [.tmp 3])),
 (168, (6, k168_1, [.tmp 2])),
 (169, (22, k169_2, [.tmp 2])),
 (170, (46, k170_4, [.tmp 4])),
 (174, (20, k174_1, [.tmp 3])),
 (175, (9, k175_1, [.tmp 4])),
 (177, (59, k177_11, [.tmp 8])),
 (178, (19, k178_5, [.tmp 4])),
 (183, (15, k183_1, [.tmp 6])),
 (185, (36, k185_8, [.tmp 2, .tmp 3, .tmp 4])),
 (186, (20, k186_2, [.tmp 4])),
 (187, (11, k187_1, [.cell 4 (some 6)])),
 (188, (30, k188_4, [.tmp 2, .tmp 3])),
 (192, (66, k192_6, [.cell 8 (some 7)])),
 (193, (16, k193_3, [.tmp 2, .cell 3 (some 6), .tmp 4])),
 (194, (27, k194_13, [.tmp 2])),
 (197, (68, k197_6, [.cell 4 (some 4), .tmp 5])),
 (198, (72, k198_10, [.cell 6 (some 7), .tmp 7])),
 (201, (63, k201_9, [])),
 (202, (19, k202_5, [.tmp 4])),
 (205, (28, k205_3, [.tmp 2])),
 (206, (53, k206_6, [])),
 (208, (9, k208_1, [.tmp 4])),
 (209, (9, k209_1, [.tmp 4])),
 (210, (19, k210_5, [.tmp 2])),
 (211, (9, k211_1, [.tmp 4])),
 (212, (8, k212_1, [.tmp 4])),
 (213, (27, k213_16, [.tmp 2])),
 (214, (9, k214_1, [.tmp 4])),
 (215, (36, k215_5, [.tmp 2])),
 (217, (12, k217_1, [.tmp 4])),
 (221, (16, k221_5, [.tmp 2])),
 (223, (19, k223_5, [.tmp 4])),
 (224, (31, k224_3, [.tmp 8])),
 (227, (8, k227_1, [.cell 4 (some 4)])),
 (228, (34, k228_10, [.cell 2 (some 4)])),
 (229, (18, k229_2, [.cell 6 (some 4)])),
 (233, (33, k233_6, [.tmp 4, .cell 5 (some 6), .tmp 6])),
 (235, (39, k235_2, [.tmp 4])),
 (237, (53, k237_6, [])),
 (241, (19, k241_5, [.tmp 4])),
 (242, (19, k242_5, [.tmp 4])),
 (243, (66, k243_10, [.tmp 8])),
 (244, (27, k244_5, [.tmp 2])),
 (248, (16, k248_1, [.tmp 6])),
 (251, (49, k251_6, [.tmp 8])),
 (255, (20, k255_1, [.tmp 4])),
 (256, (28, k256_8, [.tmp 4])),
 (262, (34, k262_7, [.tmp 4])),
 (273, (143, k273_19, [.tmp 4])),
 (274, (18, k274_1, [.tmp 4])),
 (277, (8, k277_1, [.tmp 4])),
 (283, (19, k283_1, [.cell 10 (some 7), .tmp 11])),
 (284, (16, k284_1, [.tmp 8, .tmp 9])),
 (285, (57, k285_7, [.cell 8 (some 7), .tmp 9])),
 (286, (50, k286_7, [.tmp 6, .tmp 7])),
 (287, (124, k287_16, [.cell 4 (some 7), .tmp 5])),
 (288, (45, k288_14, [.tmp 2])),
 (289, (121, k289_18, [])),
 (290, (21, k290_2, [.tmp 4])),
 (291, (45, k291_4, [.cell 4 (some 7), .tmp 5])),
 (294, (90, k294_12, [.cell 8 (some 7), .tmp 9, .tmp 10])),
 (295, (18, k295_2, [])),
 (296, (13, .region r296_0, [])),
 (297, (45, k297_9, [.tmp 2])),
 (298, (115, k298_20, [.cell 6 (some 7), .cell 7 (some 6), .tmp 8])),
 (301, (55, k301_8, [.cell 4 (some 7), .cell 5 (some 6), .tmp 6])),
 (302, (29, k302_5, [.tmp 2, .cell 3 (some 6), .tmp 4])),
 (303, (11, k303_3, [.tmp 2])),
 (304, (26, k304_1, [.cell 10 (some 7), .tmp 11])),
 (305, (16, k305_1, [.tmp 8, .tmp 9])),
 (306, (31, k306_3, [.cell 8 (some 7), .tmp 9, .tmp 10])),
 (307, (51, k307_6, [.tmp 6, .tmp 7])),
 (308, (83, k308_7, [.tmp 8, .tmp 9])),
 (309, (65, k309_10, [.cell 4 (some 7), .tmp 5, .tmp 6])),
 (310, (40, k310_6, [.tmp 6, .tmp 7])),
 (311, (59, k311_11, [.tmp 2, .tmp 3])),
 (312, (125, k312_23, [.tmp 4])),
 (313, (8, k313_2, [.tmp 2, .tmp 3])),
 (314, (13, k314_1, [.tmp 4, .tmp 5, .tmp 6])),
 (315, (62, k315_7, [.tmp 4])),
 (316, (38, k316_5, [.tmp 4])),
 (317, (15, k317_1, [.tmp 2])),
 (318, (45, k318_14, [.tmp 2])),
 (319, (86, k319_12, [])),
 (323, (23, k323_3, [.tmp 4, .tmp 5, .tmp 6])),
 (325, (11, k325_1, [.tmp 4, .tmp 5])),
 (326, (128, k326_15, [.tmp 4])),
 (327, (21, k327_5, [.tmp 4])),
 (328, (58, k328_3, [])),
 (329, (43, k329_9, [.tmp 2])),
 (333, (15, k333_2, [.tmp 4, .tmp 5])),
 (334, (67, k334_9, [.cell 4 (some 16), .tmp 5])),
 (335, (103, k335_14, [.cell 6 (some 7), .tmp 7])),
 (336, (112, k336_15, [.tmp 4, .tmp 5])),
 (337, (96, k337_9, [])),
 (338, (40, k338_5, [.tmp 6])),
 (342, (20, k342_4, [.tmp 2])),
 (346, (53, k346_3, [.tmp 2])),
 (347, (23, k347_3, [.cell 4 (some 8), .tmp 5])),
 (349, (53, k349_7, [.cell 4 (some 7), .tmp 5])),
 (353, (41, k353_7, [.tmp 6])),
 (355, (8, k355_1, [.tmp 3])),
 (357, (65, k357_9, [.tmp 2, .tmp 3, .tmp 4])),
 (360, (61, k360_8, [.cell 4 (some 7), .tmp 5])),
 (371, (22, k371_1, [.tmp 2, .tmp 3]))]
theorem tblG_ok : TblOK Tryz.prog tblG :=
 tok_cons fn5 (tok_cons fn6 (tok_cons fn7 (tok_cons fn10 (tok_cons fn11 (tok_cons fn12 (tok_cons fn13 (tok_cons fn14 (tok_cons fn15 (tok_cons fn16 (tok_cons fn17 (tok_cons fn18 (tok_cons fn19 (tok_cons fn20 (tok_cons fn21 (tok_cons fn22 (tok_cons fn23 (tok_cons fn24 (tok_cons fn28 (tok_cons fn29 (tok_cons fn30 (tok_cons fn31 (tok_cons fn33 (tok_cons fn34 (tok_cons fn35 (tok_cons fn36 (tok_cons fn39 (tok_cons fn58 (tok_cons fn59 (tok_cons fn60 (tok_cons fn61 (tok_cons fn62 (tok_cons fn63 (tok_cons fn64 (tok_cons fn65 (tok_cons fn66 (tok_cons fn67 (tok_cons fn68 (tok_cons fn69 (tok_cons fn70 (tok_cons fn71 (tok_cons fn72 (tok_cons fn73 (tok_cons fn74 (tok_cons fn76 (tok_cons fn77 (tok_cons fn78 (tok_cons fn79 (tok_cons fn80 (tok_cons fn81 (tok_cons fn82 (tok_cons fn83 (tok_cons fn84 (tok_cons fn87 (tok_cons fn88 (tok_cons fn89 (tok_cons fn90 (tok_cons fn92 (tok_cons fn94 (tok_cons fn95 (tok_cons fn96 (tok_cons fn97 (tok_cons fn98 (tok_cons fn99 (tok_cons fn100 (tok_cons fn101 (tok_cons fn102 (tok_cons fn103 (tok_cons fn106 (tok_cons fn107 (tok_cons fn108 (tok_cons fn109 (tok_cons fn110 (tok_cons fn112 (tok_cons fn113 (tok_cons fn114 (tok_cons fn115 (tok_cons fn116 (tok_cons fn118 (tok_cons fn120 (tok_cons fn122 (tok_cons fn124 (tok_cons fn126 (tok_cons fn127 (tok_cons fn128 (tok_cons fn130 (tok_cons fn132 (tok_cons fn133 (tok_cons fn134 (tok_cons fn135 (tok_cons fn137 (tok_cons fn138 (tok_cons fn139 (tok_cons fn140 (tok_cons fn141 (tok_cons fn145 (tok_cons fn147 (tok_cons fn149 (tok_cons fn150 (tok_cons fn151 (tok_cons fn155 (tok_cons fn157 (tok_cons fn158 (tok_cons fn162 (tok_cons fn163 (tok_cons fn165 (tok_cons fn166 (tok_cons fn167 (tok_cons fn168 (tok_cons fn169 (tok_cons fn170 (tok_cons fn174 (tok_cons fn175 (tok_cons fn177 (tok_cons fn178 (tok_cons fn183 (tok_cons fn185 (tok_cons fn186 (tok_cons fn187 (tok_cons fn188 (tok_cons fn192 (tok_cons fn193 (tok_cons fn194 (tok_cons fn197 (tok_cons fn198 (tok_cons fn201 (tok_cons fn202 (tok_cons fn205 (tok_cons fn206 (tok_cons fn208 (tok_cons fn209 (tok_cons fn210 (tok_cons fn211 (tok_cons fn212 (tok_cons fn213 (tok_cons fn214 (tok_cons fn215 (tok_cons fn217 (tok_cons fn221 (tok_cons fn223 (tok_cons fn224 (tok_cons fn227 (tok_cons fn228 (tok_cons fn229 (tok_cons fn233 (tok_cons fn235 (tok_cons fn237 (tok_cons fn241 (tok_cons fn242 (tok_cons fn243 (tok_cons fn244 (tok_cons fn248 (tok_cons fn251 (tok_cons fn255 (tok_cons fn256 (tok_cons fn262 (tok_cons fn273 (tok_cons fn274 (tok_cons fn277 (tok_cons fn283 (tok_cons fn284 (tok_cons fn285 (tok_cons fn286 (tok_cons fn287 (tok_cons fn288 (tok_cons fn289 (tok_cons fn290 (tok_cons fn291 (tok_cons fn294 (tok_cons fn295 (tok_cons fn296 (tok_cons fn297 (tok_cons fn298 (tok_cons fn301 (tok_cons fn302 (tok_cons fn303 (tok_cons fn304 (tok_cons fn305 (tok_cons fn306 (tok_cons fn307 (tok_cons fn308 (tok_cons fn309 (tok_cons fn310 (tok_cons fn311 (tok_cons fn312 (tok_cons fn313 (tok_cons fn314 (tok_cons fn315 (tok_cons fn316 (tok_cons fn317 (tok_cons fn318 (tok_cons fn319 (tok_cons fn323 (tok_cons fn325 (tok_cons fn326 (tok_cons fn327 (tok_cons fn328 (tok_cons fn329 (tok_cons fn333 (tok_cons fn334 (tok_cons fn335 (tok_cons fn336 (tok_cons fn337 (tok_cons fn338 (tok_cons fn342 (tok_cons fn346 (tok_cons fn347 (tok_cons fn349 (tok_cons fn353 (tok_cons fn355 (tok_cons fn357 (tok_cons fn360 (tok_cons fn371 tok_nil))))))))))))))))))))))))))))))))))))))))))))))))))))))))))))))))))))))))))))))))))))))))))))))))))))))))))))))))))))))))))))))))))))))))))))))))))))))))))))))))))))))))))))))))))))))))))))))))))))))))))))))))))))
def tbl : Tbl := (184, 174, .from_ .skip 0, []) :: tblG
theorem tbl_ok : TblOK Tryz.prog tbl := by
 intro g x hm
 rcases List.mem_cons.1 hm with h | h
 ·cases h; exact cc_ok
 ·exact tblG_ok g x h
def mode0 (f : Nat) (md : Bool) : Bool := if [337, 88, 129, 6].contains f then true else if [17, 16, 15].contains f then md else false
end Go.Proofs.YtgedjdefcmdinaaGreat.Lift
