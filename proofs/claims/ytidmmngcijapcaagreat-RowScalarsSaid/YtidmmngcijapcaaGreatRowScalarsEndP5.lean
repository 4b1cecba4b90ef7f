/- Part 6 of the texts that prove RowScalarsEnd. -/
import Derived.Test.YtidmmngcijapcaaGreatRowScalarsEndP2
import Derived.Test.YtidmmngcijapcaaGreatRowScalarsEndP3
import Derived.Test.YtidmmngcijapcaaGreatRowScalarsEndP4
import Derived.Lib.DecodeN
import Derived.Test.YtidmmngcijapcaaGreatRowScalarsEndP1
namespace Go.Proofs.YtidmmngcijapcaaGreat.Lift
open Go.RowKit
set_option linter.unusedVariables false
set_option linter.unusedSimpArgs false
set_option linter.unnecessarySimpa false
set_option linter.unusedSectionVars false
set_option maxRecDepth 100000
section
attribute [-simp] List.map_take List.map_drop List.map_append List.map_set List.map_replicate List.map_cons List.map_map
attribute [local simp] plain plainL lowE lowB keepB low lowL lowLL plm_I_i8 plm_I_i16 plm_I_i32 plm_I_i64 plm_I_u8 plm_I_u16 plm_I_u32 plm_I_u64 plm_Bool plm_Str gfn_fi gfn_cap plm_Fn pl_GOp plm_GOp pl_GProg plm_GProg pl_GRaw plm_GRaw pl_GValue plm_GValue pl_GPair plm_GPair pl_GSlot plm_GSlot pl_GNote plm_GNote pl_GItem plm_GItem pl_GSpan plm_GSpan pl_GEnum plm_GEnum pl_GPlan plm_GPlan pl_GS26 plm_GS26 pl_GCursor plm_GCursor pl_GLimits eI_i8 eI_i16 eI_i32 eI_i64 eI_u8 eI_u16 eI_u32 eI_u64 eBool eStr eFn lwr_Bool lwm_I_u8 lwm_GEnum lwc_GValue lwc_GEnum lwc_GPlan lwc_GCursor
theorem plr184 (r : Int) : plain (e184 r) = true := rfl
def r184_0 : LO := [o 1 (bx 0), o 2 (.mv (.c (aU 0)))]
def r184_1 : LO := [o 4 (fa 0 1), o 5 (ld 4), o 6 (.call (cf 213) [(T 5)]), o 3 (mv 6)]
def r184_2 : LO := [o 7 (fa 1 1), o 8 (ld 7), o 9 (.bin .add (T 8) (.c (aU 9223372036854775808))), o 2 (mv 9)]
def r184_5 : LO := [o 11 (fa 0 1), o 12 (ld 11), o 13 (.bin .neq (T 12) (ci 6)), o 10 (mv 13)]
def r184_6 : LO := [o 14 (fa 1 1), o 15 (ld 14), o 2 (mv 15)]
def r184_9 : LO := [o 17 (fa 1 1), o 18 (ld 17), o 19 (.call (cf 92) [(T 18)]), o 20 (.bin .eql (T 19) (ci 0)), o 16 (mv 20)]
def r184_10 : LO := [o 2 (.mv (.c (aU 18446744073709551615)))]
def r184_13 : LO := [o 22 (fa 1 1), o 23 (ld 22), o 24 (.bin .geq (T 23) (.c (aU 9223372036854775808))), o 21 (mv 24)]
def r184_14 : LO := [o 25 (fa 1 1), o 26 (ld 25), o 27 (.bin .sub (.c (aU 18446744073709551615)) (T 26)), o 2 (mv 27)]
def k184_1 : ACode := .cond (T 21) (.seq (.region r184_14) .ret) .skip
def k184_2 : ACode := .seq (.region r184_13) k184_1
def k184_3 : ACode := .cond (T 16) (.seq (.region r184_10) .ret) k184_2
def k184_4 : ACode := .seq (.region r184_9) k184_3
def k184_5 : ACode := .cond (T 10) (.seq (.region r184_6) .ret) k184_4
def k184_6 : ACode := .seq (.region r184_5) k184_5
def k184_7 : ACode := .cond (T 3) (.seq (.region r184_2) .ret) k184_6
def k184_8 : ACode := .seq (.region r184_1) k184_7
def r184_27 : LO := [o 28 (fa 1 1), o 29 (ld 28), o 30 (.bin .add (T 29) (.c (aU 9223372036854775808))), o 2 (mv 30)]
def k184_9 : ACode := .seq (.region r184_27) .ret
def k184_10 : ACode := .seq (.block 0 k184_8) k184_9
def k184_11 : ACode := .seq (.region r184_0) k184_10
theorem fn184 : getFn Tryz.prog 184 = some (31, k184_11, [.tmp 2]) := by kernel_rfl
theorem ref04_rank_step (v : GValue) (r : Int) (hw : ∃ y1, ref04_signed v.Kind y1 /\ ((y1 = true -> r = (wU (v.Bits + 9223372036854775808))) /\ (y1 = false -> ((v.Kind != 6) = true -> r = v.Bits) /\ ((v.Kind != 6) = false -> ∃ y2, ref04_Class v.Bits y2 /\ (((y2 == 0) = true -> r = 18446744073709551615) /\ ((y2 == 0) = false -> ((decide (9223372036854775808 <= v.Bits)) = true -> r = (wU (18446744073709551615 - v.Bits))) /\ ((decide (9223372036854775808 <= v.Bits)) = false -> r = (wU (v.Bits + 9223372036854775808))))))))) : ref04_rank v r := by
 refine f_pureD fn184 nle rfl (ds (vg 2 [(1, .ptr 0 0)] [(eGValue v)] [] (ve (d_seqQ (d_blockQ (ds (va 2 [(5, aI v.Kind)] ?_)))))))
 obtain ⟨y1, hy, hw⟩ := hw
 refine vo rfl (x_call hy pl213) rfl (va 1 [(3, aB y1)] (ve (dw hw (fun _ hw => ?_) (fun _ hw => ?_))))
 ·exact ds (va 4 [(2, aU (wU (v.Bits + 9223372036854775808)))] (ve (d_ret (rx hw (plr184 _)))))
 refine ds (va 4 [(10, aB (v.Kind != 6))] (ve (dw hw (fun _ hw => ?_) (fun _ hw => ?_))))
 ·exact ds (va 3 [(2, aU v.Bits)] (ve (d_ret (rx hw (plr184 _)))))
 refine ds (va 2 [(18, aU v.Bits)] ?_)
 obtain ⟨y2, hy, hw⟩ := hw
 refine vo rfl (x_call hy pl92) rfl (va 2 [(16, aB (y2 == 0))] (ve (dw hw (fun _ hw => ?_) (fun _ hw => ?_))))
 ·exact ds (va 1 [(2, aU 18446744073709551615)] (ve (d_ret (rx hw (plr184 _)))))
 refine ds (va 4 [(21, aB (decide (9223372036854775808 <= v.Bits)))] (ve (dw hw (fun _ hw => ?_) (fun _ hw => ?_))))
 ·exact ds (va 4 [(2, aU (wU (18446744073709551615 - v.Bits)))] (ve (d_ret (rx hw (plr184 _)))))
 exact d_skip (ds (va 4 [(2, aU (wU (v.Bits + 9223372036854775808)))] (ve (d_ret (rx hw (plr184 _))))))
def r186_0 : LO := [o 4 (bx 0), o 5 (bx 1), o 6 (bx 2), o 8 (mi 0)]
def r186_1 : LO := [o 12 (fa 3 5), o 13 (ld 12)]
def r186_2 : LO := [o 15 (.bin .eql (T 13) (ci 4)), o 14 (mv 15)]
def r186_3 : LO := [o 16 (fa 0 6), o 17 (ld 16), o 18 (.bin .neq (T 17) (ci 11)), o 19 (mv 18), og 20 (ln 7 6) 19 false, og 21 (.call (cf 152) [(T 20)]) 19 false, o 22 (.pick (T 19) (cb true) (T 21))]
def r186_4 : LO := [o 8 (mi 12)]
def k186_1 : ACode := .cond (T 22) (.seq (.region r186_4) .ret) .skip
def k186_2 : ACode := .seq (.region r186_3) k186_1
def r186_10 : LO := [o 23 (fa 3 6), o 24 (ld 23), o 25 (.len false (T 24)), o 26 (mi 0)]
def r186_11 : LO := [o 27 (.bin .lss (T 26) (T 25))]
def r186_15 : LO := [o 28 (.idxSl 7 (T 24) (T 26)), o 29 (ln 7 28), o 10 (.alloc zV), on (st 7 10 29)]
def r186_16 : LO := [o 30 (ln 2 4), o 31 (ln 8 5), o 32 (ln 7 10), o 33 (mv 3), o 34 (.call (cf 214) [(T 30), (T 31), (T 32), (T 33)]), o 11 (mv 34)]
def r186_17 : LO := [o 35 (mv 11), o 36 (.bin .neq (T 35) (ci 0))]
def r186_18 : LO := [o 37 (mv 11), o 8 (mv 37)]
def k186_3 : ACode := .cond (T 36) (.seq (.region r186_18) .ret) .skip
def k186_4 : ACode := .seq (.region r186_17) k186_3
def k186_5 : ACode := .seq (.region r186_16) k186_4
def k186_6 : ACode := .block 2 (.seq (.region r186_15) k186_5)
def r186_27 : LO := [o 38 (.bin .add (T 26) (ci 1)), o 26 (mv 38)]
def k186_7 : ACode := .seq k186_6 (.region r186_27)
def k186_8 : ACode := .seq (.cond (T 27) .skip (.exit 1)) k186_7
def k186_9 : ACode := .seq (.region r186_11) k186_8
def k186_10 : ACode := .block 1 (.loop k186_9)
def r186_34 : LO := [o 8 (mi 0)]
def k186_11 : ACode := .seq (.region r186_34) .ret
def k186_12 : ACode := .seq (.seq (.region r186_10) k186_10) k186_11
def r186_39 : LO := [o 40 (.bin .eql (T 13) (ci 5)), o 39 (mv 40)]
def r186_40 : LO := [o 41 (fa 0 6), o 42 (ld 41), o 43 (.bin .neq (T 42) (ci 12)), o 44 (mv 43), og 45 (ln 7 6) 44 false, og 46 (.call (cf 152) [(T 45)]) 44 false, o 47 (.pick (T 44) (cb true) (T 46))]
def r186_41 : LO := [o 8 (mi 12)]
def k186_13 : ACode := .cond (T 47) (.seq (.region r186_41) .ret) .skip
def k186_14 : ACode := .seq (.region r186_40) k186_13
def r186_47 : LO := [o 48 (ln 2 4), o 49 (ln 8 5), o 50 (fa 4 6), o 51 (ld 50), o 52 (mv 3), o 53 (.call (cf 215) [(T 48), (T 49), (T 51), (T 52)]), o 8 (mv 53)]
def k186_15 : ACode := .seq (.region r186_47) .ret
def k186_16 : ACode := .cond (T 39) (.seq k186_14 k186_15) .skip
def k186_17 : ACode := .cond (T 14) (.seq k186_2 k186_12) (.seq (.region r186_39) k186_16)
def k186_18 : ACode := .block 0 (.seq (.region r186_2) k186_17)
def k186_19 : ACode := .seq (.region r186_1) k186_18
def r186_58 : LO := [o 54 (ln 2 4), o 55 (ln 8 5), o 56 (ln 7 6), o 57 (mv 3), o 58 (.call (cf 214) [(T 54), (T 55), (T 56), (T 57)]), o 8 (mv 58)]
def k186_20 : ACode := .seq (.region r186_58) .ret
def k186_21 : ACode := .seq k186_19 k186_20
def k186_22 : ACode := .seq (.region r186_0) k186_21
theorem fn186 : getFn Tryz.prog 186 = some (59, k186_22, [.tmp 8]) := by kernel_rfl
def r187_0 : LO := [o 4 (mi 0)]
def r187_1 : LO := [o 6 (mv 0), o 7 (.len false (T 6)), o 8 (mi 0)]
def r187_2 : LO := [o 9 (.bin .lss (T 8) (T 7))]
def r187_6 : LO := [o 10 (mv 8), o 5 (mv 10)]
def r187_7 : LO := [o 11 (mv 1), o 12 (mv 0), o 13 (mv 5), o 14 (.idxSl 8 (T 12) (T 13)), o 15 (ln 8 14), o 16 (.call (T 11) [(T 15)])]
def r187_8 : LO := [o 17 (mv 5), o 4 (mv 17)]
def k187_1 : ACode := .cond (T 16) (.seq (.region r187_8) .ret) .skip
def k187_2 : ACode := .seq (.region r187_7) k187_1
def r187_16 : LO := [o 18 (.bin .add (T 8) (ci 1)), o 8 (mv 18)]
def k187_3 : ACode := .seq (.block 1 (.seq (.region r187_6) k187_2)) (.region r187_16)
def k187_4 : ACode := .seq (.cond (T 9) .skip (.exit 0)) k187_3
def k187_5 : ACode := .seq (.region r187_2) k187_4
def k187_6 : ACode := .block 0 (.loop k187_5)
def r187_23 : LO := [o 4 (mi (-1))]
def k187_7 : ACode := .seq (.region r187_23) .ret
def k187_8 : ACode := .seq (.seq (.region r187_1) k187_6) k187_7
def k187_9 : ACode := .seq (.region r187_0) k187_8
theorem fn187 : getFn Tryz.prog 187 = some (19, k187_9, [.tmp 4]) := by kernel_rfl
def r188_0 : LO := [o 2 (.mv (.c .nil))]
def r188_1 : LO := [o 3 (mv 0), o 4 (.eq .slice true (T 3) (.c .nil))]
def r188_2 : LO := [o 2 (.mv (.c .nil))]
def k188_1 : ACode := .cond (T 4) (.seq (.region r188_2) .ret) .skip
def k188_2 : ACode := .seq (.region r188_1) k188_1
def r188_8 : LO := [o 5 (.sliceLit 7 0 [] []), o 6 (mv 0), o 7 (.append 7 128 (T 5) (T 6)), o 2 (mv 7)]
def k188_3 : ACode := .seq (.region r188_8) .ret
def k188_4 : ACode := .seq k188_2 k188_3
def k188_5 : ACode := .seq (.region r188_0) k188_4
theorem fn188 : getFn Tryz.prog 188 = some (8, k188_5, [.tmp 2]) := by kernel_rfl
def r189_0 : LO := [o 6 (mi 20)]
def r189_1 : LO := [o 10 (mv 6), o 7 (mi 0), o 8 (mv 10)]
def r189_2 : LO := [o 11 (mv 8), o 12 (mv 1), o 13 (.bin .leq (T 11) (T 12))]
def k189_1 : ACode := .cond (T 13) .skip (.exit 0)
def r189_7 : LO := [o 14 (mv 0), o 15 (mv 7), o 16 (mv 8), o 17 (mv 2), o 18 (.call (cf 216) [(T 14), (T 15), (T 16), (T 17)])]
def r189_8 : LO := [o 19 (mv 8), o 7 (mv 19)]
def r189_9 : LO := [o 20 (mv 8), o 21 (mv 6), o 22 (.bin .add (T 20) (T 21)), o 8 (mv 22)]
def k189_2 : ACode := .seq (.region r189_8) (.region r189_9)
def k189_3 : ACode := .seq (.region r189_7) k189_2
def k189_4 : ACode := .block 1 k189_3
def k189_5 : ACode := .seq (.seq (.region r189_2) k189_1) k189_4
def r189_16 : LO := [o 23 (mv 0), o 24 (mv 7), o 25 (mv 1), o 26 (mv 2), o 27 (.call (cf 216) [(T 23), (T 24), (T 25), (T 26)])]
def r189_17 : LO := [o 28 (mv 6), o 29 (mv 1), o 30 (.bin .lss (T 28) (T 29))]
def k189_6 : ACode := .cond (T 30) .skip (.exit 2)
def r189_22 : LO := [o 31 (mv 6), o 32 (.bin .mul (ci 2) (T 31)), o 7 (mi 0), o 8 (mv 32)]
def r189_23 : LO := [o 33 (mv 8), o 34 (mv 1), o 35 (.bin .leq (T 33) (T 34))]
def k189_7 : ACode := .cond (T 35) .skip (.exit 4)
def r189_28 : LO := [o 36 (mv 0), o 37 (mv 7), o 38 (mv 7), o 39 (mv 6), o 40 (.bin .add (T 38) (T 39)), o 41 (mv 8), o 42 (mv 2), o 43 (.call (cf 217) [(T 36), (T 37), (T 40), (T 41), (T 42)])]
def r189_29 : LO := [o 44 (mv 8), o 7 (mv 44)]
def r189_30 : LO := [o 45 (mv 8), o 46 (mv 6), o 47 (.bin .mul (ci 2) (T 46)), o 48 (.bin .add (T 45) (T 47)), o 8 (mv 48)]
def k189_8 : ACode := .seq (.region r189_29) (.region r189_30)
def k189_9 : ACode := .seq (.region r189_28) k189_8
def k189_10 : ACode := .block 5 k189_9
def k189_11 : ACode := .seq (.seq (.region r189_23) k189_7) k189_10
def r189_37 : LO := [o 49 (mv 7), o 50 (mv 6), o 51 (.bin .add (T 49) (T 50)), o 9 (mv 51)]
def r189_38 : LO := [o 52 (mv 9), o 53 (mv 1), o 54 (.bin .lss (T 52) (T 53))]
def r189_39 : LO := [o 55 (mv 0), o 56 (mv 7), o 57 (mv 9), o 58 (mv 1), o 59 (mv 2), o 60 (.call (cf 217) [(T 55), (T 56), (T 57), (T 58), (T 59)])]
def k189_12 : ACode := .cond (T 54) (.region r189_39) .skip
def k189_13 : ACode := .seq (.region r189_38) k189_12
def r189_44 : LO := [o 61 (mv 6), o 62 (.bin .mul (T 61) (ci 2)), o 6 (mv 62)]
def k189_14 : ACode := .seq (.seq (.region r189_37) k189_13) (.region r189_44)
def k189_15 : ACode := .seq (.block 4 (.loop k189_11)) k189_14
def k189_16 : ACode := .block 3 (.seq (.region r189_22) k189_15)
def k189_17 : ACode := .seq (.seq (.region r189_17) k189_6) k189_16
def k189_18 : ACode := .block 2 (.loop k189_17)
def k189_19 : ACode := .seq (.region r189_16) k189_18
def k189_20 : ACode := .seq (.block 0 (.loop k189_5)) k189_19
def k189_21 : ACode := .seq (.region r189_1) k189_20
def k189_22 : ACode := .seq (.region r189_0) k189_21
theorem fn189 : getFn Tryz.prog 189 = some (63, k189_22, []) := by kernel_rfl
def r190_0 : LO := [o 4 (mi 0)]
def r190_1 : LO := [o 6 (mv 0), o 7 (.len false (T 6)), o 8 (mi 0)]
def r190_2 : LO := [o 9 (.bin .lss (T 8) (T 7))]
def r190_6 : LO := [o 10 (mv 8), o 5 (mv 10)]
def r190_7 : LO := [o 11 (mv 1), o 12 (mv 0), o 13 (mv 5), o 14 (.idxSl 8 (T 12) (T 13)), o 15 (ln 8 14), o 16 (.call (T 11) [(T 15)])]
def r190_8 : LO := [o 17 (mv 5), o 4 (mv 17)]
def k190_1 : ACode := .cond (T 16) (.seq (.region r190_8) .ret) .skip
def k190_2 : ACode := .seq (.region r190_7) k190_1
def r190_16 : LO := [o 18 (.bin .add (T 8) (ci 1)), o 8 (mv 18)]
def k190_3 : ACode := .seq (.block 1 (.seq (.region r190_6) k190_2)) (.region r190_16)
def k190_4 : ACode := .seq (.cond (T 9) .skip (.exit 0)) k190_3
def k190_5 : ACode := .seq (.region r190_2) k190_4
def k190_6 : ACode := .block 0 (.loop k190_5)
def r190_23 : LO := [o 4 (mi (-1))]
def k190_7 : ACode := .seq (.region r190_23) .ret
def k190_8 : ACode := .seq (.seq (.region r190_1) k190_6) k190_7
def k190_9 : ACode := .seq (.region r190_0) k190_8
theorem fn190 : getFn Tryz.prog 190 = some (19, k190_9, [.tmp 4]) := by kernel_rfl
theorem plr208 (r : Bool) : plain (e208 r) = true := rfl
def r208_0 : LO := [o 2 (mb false)]
def r208_1 : LO := [o 3 (mv 0), o 4 (.bin .geq (T 3) (.c (aC 97))), o 5 (mv 4), og 6 (mv 0) 5 true, og 7 (.bin .leq (T 6) (.c (aC 122))) 5 true, o 8 (.pick (T 5) (T 7) (cb false)), o 2 (mv 8)]
def k208_1 : ACode := .seq (.region r208_1) .ret
def k208_2 : ACode := .seq (.region r208_0) k208_1
theorem fn208 : getFn Tryz.prog 208 = some (9, k208_2, [.tmp 2]) := by kernel_rfl
theorem ref06_small_step (b : Int) (r : Bool) (hw : r = ((decide (97 <= b)) && (decide (b <= 122)))) : ref06_small b r := by
 refine f_pureD fn208 nle rfl (ds (va 1 [] (ve (ds (va 3 [(5, aB (decide (97 <= b)))] (vj 5 8 6 (decide (97 <= b)) (fun z => aB (z && (decide (b <= 122)))) km_d (fun _ key => ?_) (fun _ key => ?_) ?_))))))
 ·exact va 2 [(7, aB (decide (b <= 122)))] (va 1 [(8, aB (decide (b <= 122)))] (vle km_d key))
 ·exact va 2 [(7, .tuple [])] (va 1 [(8, aB false)] (vle km_d key))
 exact va 1 [(2, aB ((decide (97 <= b)) && (decide (b <= 122))))] (ve (d_ret (rx hw (plr208 _))))
theorem plr209 (r : Bool) : plain (e209 r) = true := rfl
def r209_0 : LO := [o 2 (mb false)]
def r209_1 : LO := [o 3 (mv 0), o 4 (.bin .geq (T 3) (.c (aC 65))), o 5 (mv 4), og 6 (mv 0) 5 true, og 7 (.bin .leq (T 6) (.c (aC 90))) 5 true, o 8 (.pick (T 5) (T 7) (cb false)), o 2 (mv 8)]
def k209_1 : ACode := .seq (.region r209_1) .ret
def k209_2 : ACode := .seq (.region r209_0) k209_1
theorem fn209 : getFn Tryz.prog 209 = some (9, k209_2, [.tmp 2]) := by kernel_rfl
theorem ref06_capital_step (b : Int) (r : Bool) (hw : r = ((decide (65 <= b)) && (decide (b <= 90)))) : ref06_capital b r := by
 refine f_pureD fn209 nle rfl (ds (va 1 [] (ve (ds (va 3 [(5, aB (decide (65 <= b)))] (vj 5 8 6 (decide (65 <= b)) (fun z => aB (z && (decide (b <= 90)))) km_d (fun _ key => ?_) (fun _ key => ?_) ?_))))))
 ·exact va 2 [(7, aB (decide (b <= 90)))] (va 1 [(8, aB (decide (b <= 90)))] (vle km_d key))
 ·exact va 2 [(7, .tuple [])] (va 1 [(8, aB false)] (vle km_d key))
 exact va 1 [(2, aB ((decide (65 <= b)) && (decide (b <= 90))))] (ve (d_ret (rx hw (plr209 _))))
theorem plr210 (r : Bool) : plain (e210 r) = true := rfl
def r210_0 : LO := [o 4 (mb false)]
def r210_1 : LO := [o 5 (mv 0), o 6 (mv 1), o 7 (.call (cf 223) [(T 5), (T 6)]), o 4 (mv 7)]
def k210_1 : ACode := .seq (.region r210_1) .ret
def k210_2 : ACode := .seq (.region r210_0) k210_1
theorem fn210 : getFn Tryz.prog 210 = some (8, k210_2, [.tmp 4]) := by kernel_rfl
theorem strings_HasPrefix_step (s : ByteArray) (prefix_ : ByteArray) (r : Bool) (hw : ∃ y1, internal_stringslite_HasPrefix s prefix_ y1 /\ (r = y1)) : strings_HasPrefix s prefix_ r := by
 refine f_pureD fn210 nle rfl (ds (va 1 [] (ve (ds (va 2 [(6, aS prefix_), (5, aS s)] ?_)))))
 obtain ⟨y1, hy, hw⟩ := hw
 exact vo rfl (x_call hy pl223) rfl (va 1 [(4, aB y1)] (ve (d_ret (rx hw (plr210 _)))))
theorem plr211 (r : Bool) : plain (e211 r) = true := rfl
def r211_0 : LO := [o 6 (mb false)]
def r211_1 : LO := [o 7 (mi 0)]
def r211_2 : LO := [o 8 (mv 7), o 9 (mv 2), o 10 (.bin .lss (T 8) (T 9))]
def k211_1 : ACode := .cond (T 10) .skip (.exit 0)
def r211_7 : LO := [o 13 (mv 0), o 14 (mv 1), o 15 (mv 7), o 16 (.bin .add (T 14) (T 15)), o 17 (.call (cf 212) [(T 13), (T 16), (.c (aC 128)), (.c (aC 191))]), o 18 (.un .not (T 17))]
def r211_8 : LO := [o 6 (mb false)]
def k211_2 : ACode := .cond (T 18) (.seq (.region r211_8) .ret) .skip
def k211_3 : ACode := .seq (.region r211_7) k211_2
def r211_15 : LO := [o 11 (mv 7), o 12 (.bin .add (T 11) (ci 1)), o 7 (mv 12)]
def k211_4 : ACode := .seq (.block 1 k211_3) (.region r211_15)
def k211_5 : ACode := .seq (.seq (.region r211_2) k211_1) k211_4
def k211_6 : ACode := .block 0 (.loop k211_5)
def r211_21 : LO := [o 6 (mb true)]
def k211_7 : ACode := .seq (.region r211_21) .ret
def k211_8 : ACode := .seq (.seq (.region r211_1) k211_6) k211_7
def k211_9 : ACode := .seq (.region r211_0) k211_8
theorem fn211 : getFn Tryz.prog 211 = some (19, k211_9, [.tmp 6]) := by kernel_rfl
def q211_0 (r : Bool) : QP := qret [.tmp 6] (e211 r)
def q211_2 (r : Bool) : QP := tq Tryz.prog 19 k211_7 (q211_0 r)
def q211_4 (r : Bool) : QP := inBlockA 0 (q211_2 r)
def ref03_tail_j2 (ij1 : Int) (s : ByteArray) (i : Int) (n : Int) (r : Bool) : Prop := DL Tryz.prog 19 0 0 k211_5 (q211_4 r) [(7, aI ij1), (0, aS s), (1, aI i), (2, aI n)] ⟨[], [], []⟩
theorem ref03_tail_j2_step (ij1 : Int) (s : ByteArray) (i : Int) (n : Int) (r : Bool) (hw : ((decide (ij1 < n)) = true -> ∃ y2, ref03_between s (wI (i + ij1)) 128 191 y2 /\ (((!y2) = true -> r = false) /\ ((!y2) = false -> ref03_tail_j2 (wI (ij1 + 1)) s i n r))) /\ ((decide (ij1 < n)) = false -> r = true)) : ref03_tail_j2 ij1 s i n r := by
 refine dl_unroll (d_seqQ (ds (va 3 [(10, aB (decide (ij1 < n)))] (ve (dw hw (fun _ hw => ?_) (fun _ hw => ?_))))))
 ·refine d_skip (d_seqQ (d_blockQ (ds (va 4 [(16, aI (wI (i + ij1))), (13, aS s)] ?_))))
  obtain ⟨y2, hy, hw⟩ := hw
  refine vo rfl (x_call hy pl212) rfl (va 1 [(18, aB (!y2))] (ve (dw hw (fun _ hw => ?_) (fun _ hw => ?_))))
  ·exact ds (va 1 [(6, aB false)] (ve (d_ret (rx hw (plr211 _)))))
  exact d_skip (dr (va 3 [(7, aI (wI (ij1 + 1)))] (ve (jl0 hw))))
 exact d_exit (ds (va 1 [(6, aB true)] (ve (d_ret (rx hw (plr211 _))))))
theorem ref03_tail_step (s : ByteArray) (i : Int) (n : Int) (r : Bool) (hw : ref03_tail_j2 0 s i n r) : ref03_tail s i n r := by
 exact f_pureD fn211 nle rfl (ds (va 1 [] (ve (d_seqQ (ds (va 1 [(7, aI 0)] (ve (d_blockQ (d_loopQ (jl0 hw))))))))))
theorem plr212 (r : Bool) : plain (e212 r) = true := rfl
def r212_0 : LO := [o 8 (mb false)]
def r212_1 : LO := [o 9 (mv 1), o 10 (mv 0), o 11 (.len true (T 10)), o 12 (.bin .lss (T 9) (T 11)), o 13 (mv 12), og 14 (mv 0) 13 true, og 15 (mv 1) 13 true, og 16 (.idxS (T 14) (T 15)) 13 true, og 17 (mv 2) 13 true, og 18 (.bin .geq (T 16) (T 17)) 13 true, o 19 (.pick (T 13) (T 18) (cb false)), o 20 (mv 19), og 21 (mv 0) 20 true, og 22 (mv 1) 20 true, og 23 (.idxS (T 21) (T 22)) 20 true, og 24 (mv 3) 20 true, og 25 (.bin .leq (T 23) (T 24)) 20 true, o 26 (.pick (T 20) (T 25) (cb false)), o 8 (mv 26)]
def k212_1 : ACode := .seq (.region r212_1) .ret
def k212_2 : ACode := .seq (.region r212_0) k212_1
theorem fn212 : getFn Tryz.prog 212 = some (27, k212_2, [.tmp 8]) := by kernel_rfl
theorem ref03_between_step (s : ByteArray) (i : Int) (lo : Int) (hi : Int) (r : Bool) (hw : ∃ R1 : Bool -> Prop, (∀ bz1 : Bool, R1 bz1 -> ((bz1 = true -> (0 <= i /\ i < (s.size : Int)) /\ (r = (decide ((byteAt s i.toNat) <= hi)))) /\ (bz1 = false -> r = false))) /\ (((decide (i < (s.size : Int))) = true -> (0 <= i /\ i < (s.size : Int)) /\ (R1 (decide (lo <= (byteAt s i.toNat))))) /\ ((decide (i < (s.size : Int))) = false -> R1 false))) : ref03_between s i lo hi r := by
 refine f_pureD fn212 nle rfl (ds (va 1 [] (ve (ds (va 2 [(10, aS s), (9, aI i)] (vo rfl (x_lenS s) rfl (va 2 [(13, aB (decide (i < (s.size : Int))))] ?_)))))))
 obtain ⟨R1, hR, hw⟩ := hw
 refine vr 13 19 11 (decide (i < (s.size : Int))) R1 (fun bz1 => aB bz1) km_d (fun bz1 hz => ?_) (fun key => ⟨fun hb2 => ?_, fun hb2 => ?_⟩)
 ·have hw := hR bz1 hz
  refine va 1 [(20, aB bz1)] (vw2 20 hw (fun _ hw => ?_) (fun _ hw => ?_))
  ·refine va 2 [(22, aI i), (21, aS s)] ?_
   obtain ⟨h0, hw⟩ := hw
   exact vo rfl (x_idxS h0) rfl (va 4 [(8, aB (decide ((byteAt s i.toNat) <= hi)))] (ve (d_ret (rx hw (plr212 _)))))
  exact va 7 [(8, aB false)] (ve (d_ret (rx hw (plr212 _))))
 ·have hw := hw.1 hb2
  refine va 2 [(15, aI i), (14, aS s)] ?_
  obtain ⟨h0, hw⟩ := hw
  exact vo rfl (x_idxS h0) rfl (va 2 [(18, aB (decide (lo <= (byteAt s i.toNat))))] (va 1 [(19, aB (decide (lo <= (byteAt s i.toNat))))] (vle km_d (key _ hw))))
 ·have hw := hw.2 hb2
  exact va 5 [(18, .tuple [])] (va 1 [(19, aB false)] (vle km_d (key _ hw)))
theorem plr213 (r : Bool) : plain (e213 r) = true := rfl
def r213_0 : LO := [o 2 (mb false)]
def r213_1 : LO := [o 3 (mv 0), o 4 (.bin .eql (T 3) (ci 2)), o 5 (mv 4), og 6 (mv 0) 5 false, og 7 (.bin .eql (T 6) (ci 3)) 5 false, o 8 (.pick (T 5) (cb true) (T 7)), o 2 (mv 8)]
def k213_1 : ACode := .seq (.region r213_1) .ret
def k213_2 : ACode := .seq (.region r213_0) k213_1
theorem fn213 : getFn Tryz.prog 213 = some (9, k213_2, [.tmp 2]) := by kernel_rfl
theorem ref04_signed_step (kind : Int) (r : Bool) (hw : r = ((kind == 2) || (kind == 3))) : ref04_signed kind r := by
 refine f_pureD fn213 nle rfl (ds (va 1 [] (ve (ds (va 3 [(5, aB (kind == 2))] (vj 5 8 6 (kind == 2) (fun z => aB (z || (kind == 3))) km_d (fun _ key => ?_) (fun _ key => ?_) ?_))))))
 ·exact va 2 [(7, .tuple [])] (va 1 [(8, aB true)] (vle km_d key))
 ·exact va 2 [(7, aB (kind == 3))] (va 1 [(8, aB (kind == 3))] (vle km_d key))
 exact va 1 [(2, aB ((kind == 2) || (kind == 3)))] (ve (d_ret (rx hw (plr213 _))))
def r214_0 : LO := [o 4 (bx 0), o 5 (bx 1), o 6 (bx 2), o 8 (mi 0)]
def r214_1 : LO := [o 9 (fa 5 5), o 10 (ld 9), o 11 (.bin .eql (T 10) (ci 10))]
def r214_2 : LO := [o 12 (ln 2 4), o 13 (fa 0 4), o 14 (fa 0 13), o 15 (ld 14), o 16 (fa 6 5), o 17 (ld 16), o 18 (.idxSl 3 (T 15) (T 17)), o 19 (ln 3 18), o 20 (ln 7 6), o 21 (mv 3), o 22 (.bin .add (T 21) (ci 1)), o 23 (.call (cf 101) [(T 12), (T 19), (T 20), (T 22)])]
def r214_2t : LO := [o 8 (mv 23)]
def r214_2o : LN := [[], [], [1], [2], [], [4], [3, 5], [6], [], [], [9], [0, 7, 8, 10]]
def k214_1 : ACode := .cond (T 11) (.seq (.drawn r214_2o r214_2 r214_2t) .ret) .skip
def r214_8 : LO := [o 24 (ln 2 4), o 25 (fa 5 5), o 26 (ld 25), o 27 (fa 6 5), o 28 (ld 27), o 29 (ln 7 6), o 30 (.call (cf 224) [(T 24), (T 26), (T 28), (T 29)]), o 8 (mv 30)]
def k214_2 : ACode := .seq (.region r214_8) .ret
def k214_3 : ACode := .seq (.seq (.region r214_1) k214_1) k214_2
def k214_4 : ACode := .seq (.region r214_0) k214_3
theorem fn214 : getFn Tryz.prog 214 = some (31, k214_4, [.tmp 8]) := by kernel_rfl
end
section
attribute [-simp] List.map_take List.map_drop List.map_append List.map_set List.map_replicate List.map_cons List.map_map
attribute [local simp] plain plainL lowE lowB keepB low lowL lowLL plm_I_i8 plm_I_i16 plm_I_i32 plm_I_i64 plm_I_u8 plm_I_u16 plm_I_u32 plm_I_u64 plm_Bool plm_Str gfn_fi gfn_cap plm_Fn pl_GOp plm_GOp pl_GProg plm_GProg pl_GRaw plm_GRaw pl_GValue plm_GValue pl_GPair plm_GPair pl_GSlot plm_GSlot pl_GNote plm_GNote pl_GItem plm_GItem pl_GSpan plm_GSpan pl_GEnum plm_GEnum pl_GPlan plm_GPlan pl_GS26 plm_GS26 pl_GCursor plm_GCursor pl_GLimits eI_i8 eI_i16 eI_i32 eI_i64 eI_u8 eI_u16 eI_u32 eI_u64 eBool eStr eFn lwr_Bool lwm_I_u8 lwm_GEnum lwc_GValue lwc_GEnum lwc_GPlan lwc_GCursor
theorem plr223 (r : Bool) : plain (e223 r) = true := rfl
def r223_0 : LO := [o 4 (mb false)]
def r223_1 : LO := [o 5 (mv 0), o 6 (.len true (T 5)), o 7 (mv 1), o 8 (.len true (T 7)), o 9 (.bin .geq (T 6) (T 8)), o 10 (mv 9), og 11 (mv 0) 10 true, og 12 (mv 1) 10 true, og 13 (.len true (T 12)) 10 true, og 14 (.sliceS (T 11) none (some (T 13))) 10 true, og 15 (mv 1) 10 true, og 16 (.bin .eql (T 14) (T 15)) 10 true, o 17 (.pick (T 10) (T 16) (cb false)), o 4 (mv 17)]
def k223_1 : ACode := .seq (.region r223_1) .ret
def k223_2 : ACode := .seq (.region r223_0) k223_1
theorem fn223 : getFn Tryz.prog 223 = some (18, k223_2, [.tmp 4]) := by kernel_rfl
theorem internal_stringslite_HasPrefix_step (s : ByteArray) (prefix_ : ByteArray) (r : Bool) (hw : ((decide ((prefix_.size : Int) <= (s.size : Int))) = true -> (0 <= (0 : Int) /\ (0 : Int) <= (prefix_.size : Int) /\ (prefix_.size : Int) <= (s.size : Int)) /\ (r = (decide ((s.extract (0 : Int).toNat (prefix_.size : Int).toNat) = prefix_)))) /\ ((decide ((prefix_.size : Int) <= (s.size : Int))) = false -> r = false)) : internal_stringslite_HasPrefix s prefix_ r := by
 refine f_pureD fn223 nle rfl (ds (va 1 [] (ve (ds (va 1 [(5, aS s)] (vo rfl (x_lenS s) rfl (va 1 [(7, aS prefix_)] (vo rfl (x_lenS prefix_) rfl (va 2 [(10, aB (decide ((prefix_.size : Int) <= (s.size : Int))))] (vw2 10 hw (fun _ hw => ?_) (fun _ hw => ?_)))))))))))
 ·refine va 2 [(12, aS prefix_), (11, aS s)] (vo rfl (x_lenS prefix_) rfl ?_)
  obtain ⟨h0, hw⟩ := hw
  exact vo rfl (x_sliceS h0) rfl (va 1 [(15, aS prefix_)] (vo rfl (x_eqS (s.extract (0 : Int).toNat (prefix_.size : Int).toNat) prefix_) rfl (va 2 [(4, aB (decide ((s.extract (0 : Int).toNat (prefix_.size : Int).toNat) = prefix_)))] (ve (d_ret (rx hw (plr223 _)))))))
 exact va 8 [(4, aB false)] (ve (d_ret (rx hw (plr223 _))))
def r224_0 : LO := [o 4 (bx 0), o 7 (bx 3), o 8 (mi 0)]
def r224_1 : LO := [o 10 (fa 0 7), o 11 (ld 10), o 12 (mv 1), o 13 (.bin .neq (T 11) (T 12)), o 14 (mv 13), og 15 (ln 7 7) 14 false, og 16 (.call (cf 152) [(T 15)]) 14 false, o 17 (.pick (T 14) (cb true) (T 16)), o 9 (mv 17)]
def r224_2 : LO := [o 8 (mi 12)]
def r224_5 : LO := [o 19 (fa 2 7), o 20 (ld 19), o 21 (.len true (T 20)), o 22 (.bin .gtr (T 21) (ci 4096)), o 18 (mv 22)]
def r224_6 : LO := [o 8 (mi 3)]
def r224_9 : LO := [o 24 (mv 1), o 25 (.bin .eql (T 24) (ci 7)), o 26 (mv 25), og 27 (fa 2 7) 26 true, og 28 (ld 27) 26 true, og 29 (.call (cf 79) [(T 28)]) 26 true, og 30 (.un .not (T 29)) 26 true, o 31 (.pick (T 26) (T 30) (cb false)), o 23 (mv 31)]
def r224_10 : LO := [o 8 (mi 7)]
def r224_13 : LO := [o 33 (mv 1), o 34 (ln 7 7), o 35 (.call (cf 36) [(T 33), (T 34)]), o 36 (.un .not (T 35)), o 32 (mv 36)]
def r224_14 : LO := [o 8 (mi 12)]
def r224_17 : LO := [o 38 (mv 1), o 39 (.bin .eql (T 38) (ci 9)), o 40 (mv 39), og 41 (fa 0 4) 40 true, og 42 (ln 2 41) 40 true, og 43 (mv 2) 40 true, og 44 (fa 1 7) 40 true, og 45 (ld 44) 40 true, og 46 (.call (cf 37) [(T 42), (T 43), (T 45)]) 40 true, og 47 (.un .not (T 46)) 40 true, o 48 (.pick (T 40) (T 47) (cb false)), o 37 (mv 48)]
def r224_18 : LO := [o 8 (mi 16)]
def k224_1 : ACode := .cond (T 37) (.seq (.region r224_18) .ret) .skip
def k224_2 : ACode := .seq (.region r224_17) k224_1
def k224_3 : ACode := .cond (T 32) (.seq (.region r224_14) .ret) k224_2
def k224_4 : ACode := .seq (.region r224_13) k224_3
def k224_5 : ACode := .cond (T 23) (.seq (.region r224_10) .ret) k224_4
def k224_6 : ACode := .seq (.region r224_9) k224_5
def k224_7 : ACode := .cond (T 18) (.seq (.region r224_6) .ret) k224_6
def k224_8 : ACode := .seq (.region r224_5) k224_7
def k224_9 : ACode := .cond (T 9) (.seq (.region r224_2) .ret) k224_8
def k224_10 : ACode := .seq (.region r224_1) k224_9
def r224_33 : LO := [o 8 (mi 0)]
def k224_11 : ACode := .seq (.region r224_33) .ret
def k224_12 : ACode := .seq (.block 0 k224_10) k224_11
def k224_13 : ACode := .seq (.region r224_0) k224_12
theorem fn224 : getFn Tryz.prog 224 = some (49, k224_13, [.tmp 8]) := by kernel_rfl
theorem plr86 (r : Bool) : plain (e86 r) = true := rfl
def r86_0 : LO := [o 2 (bx 0), o 3 (mb false)]
def r86_1 : LO := [o 4 (fa 1 2), o 5 (ld 4), o 6 (.conv (.num .u64) (T 5)), o 7 (ld 1), o 8 (.bin .eql (T 6) (T 7)), o 3 (mv 8)]
def k86_1 : ACode := .seq (.region r86_1) .ret
def k86_2 : ACode := .seq (.region r86_0) k86_1
theorem fn86 : getFn Tryz.prog 86 = some (9, k86_2, [.tmp 3]) := by kernel_rfl
theorem plan_Accepts_1_step (it : GItem) (c1_ : Int) (r : Bool) (hw : r = ((wU it.Num) == c1_)) : plan_Accepts_1 it c1_ r := by
 exact f_pureD fn86 nle rfl (ds (vg 2 [(2, .ptr 0 0)] [(eGItem it)] [] (ve (ds (va 6 [(3, aB ((wU it.Num) == c1_))] (ve (d_ret (rx hw (plr86 _)))))))))
theorem plan_Accepts_1_clo (it : GItem) (c1_ : Int) (r : Bool) (h : plan_Accepts_1 it c1_ r) : FCall Tryz.prog [] (.clo (.func 86) [] [.elt (eI_u64 c1_) 0]) [.agg (eGItem it)] (aB r) := ⟨86, [], [.elt (eI_u64 c1_) 0], rfl, (show plainL [.agg (eGItem it), .elt (eI_u64 c1_) 0] = true by simp), h⟩
def r100_0 : LO := [o 2 (bx 0), o 3 (mb false)]
def r100_1 : LO := [o 4 (fa 0 2), o 5 (ld 4), o 6 (ld 1), o 7 (.bin .eql (T 5) (T 6)), o 3 (mv 7)]
def k100_1 : ACode := .seq (.region r100_1) .ret
def k100_2 : ACode := .seq (.region r100_0) k100_1
theorem fn100 : getFn Tryz.prog 100 = some (8, k100_2, [.tmp 3]) := by kernel_rfl
def r161_0 : LO := [o 2 (bx 0), o 3 (mb false)]
def r161_1 : LO := [o 4 (fa 0 2), o 5 (ld 4), o 6 (ld 1), o 7 (.bin .eql (T 5) (T 6)), o 3 (mv 7)]
def k161_1 : ACode := .seq (.region r161_1) .ret
def k161_2 : ACode := .seq (.region r161_0) k161_1
theorem fn161 : getFn Tryz.prog 161 = some (8, k161_2, [.tmp 3]) := by kernel_rfl
end
theorem and_u8 (c : Nat) (h : c < 256) : bitsOf .and .u8 (c : Int) 127 = ((c % 128 : Nat) : Int) := by
 have : ∀ c : Fin 256, bitsOf .and .u8 ((c.val : Nat) : Int) 127 = ((c.val % 128 : Nat) : Int) := by decide +kernel
 exact this ⟨c, h⟩
theorem bits_or_u64 (a b : Nat) (ha : a < 18446744073709551616) (hb : b < 18446744073709551616) : bitsOf .or .u64 (a : Int) (b : Int) = ((a ||| b : Nat) : Int) := by
 have h := Nat.or_lt_two_pow (n := 64) (x := a) (y := b) (by simpa using ha) (by simpa using hb)
 have e1 : ((a : Int) % (2 ^ 64 : Nat)).toNat = a := by omega
 have e2 : ((b : Int) % (2 ^ 64 : Nat)).toNat = b := by omega
 have e3 : bitsOf .or .u64 (a : Int) (b : Int) = IntKind.u64.wrap (((BitVec.ofInt 64 (a : Int) ||| BitVec.ofInt 64 (b : Int)).toNat : Nat) : Int) := rfl
 rw [e3, BitVec.toNat_or, BitVec.toNat_ofInt, BitVec.toNat_ofInt, e1, e2]
 simp only [IntKind.wrap, IntKind.signed, IntKind.bits, Bool.false_and, Bool.false_eq_true, if_false]
 omega
theorem or_add (u x k : Nat) (hu : u < 2 ^ k) : u ||| x * 2 ^ k = u + x * 2 ^ k := by
 have := Nat.two_pow_add_eq_or_of_lt (i := k) (b := u) hu x
 rw [Nat.or_comm, Nat.add_comm, Nat.mul_comm]; exact this.symm
theorem wrapI {n : Int} (h : -9223372036854775808 <= n /\ n <= 9223372036854775807) : IntKind.i64.wrap n = n := by simp [IntKind.wrap, IntKind.signed, IntKind.bits]; omega
def soundB (data : ByteArray) (at_ end_ : Int) : Bool := decide (0 <= at_ /\ at_ <= end_ /\ end_ <= (data.size : Int))
def leftI (data : ByteArray) (at_ end_ : Int) : Int := if soundB data at_ end_ = true then end_ - at_ else 0
theorem leftI_pos {data : ByteArray} {at_ end_ : Int} (h : 0 < leftI data at_ end_) : 0 <= at_ /\ at_ < end_ /\ end_ <= (data.size : Int) /\ leftI data at_ end_ = end_ - at_ := by
 unfold leftI at h ⊢
 split at h
 ·rename_i hs
  rw [if_pos hs]
  simp only [soundB, decide_eq_true_eq] at hs
  omega
 ·omega
def byteN (s : ByteArray) (i : Nat) : Nat := (byteAt s i).toNat
theorem byteN_eq (s : ByteArray) (i : Nat) : byteAt s i = (byteN s i : Int) /\ byteN s i < 256 := by
 have h : 0 <= byteAt s i /\ byteAt s i < 256 := by
  unfold byteAt
  have := (s.data.toList.getD i 0).toNat_lt
  omega
 unfold byteN
 omega
def takeS (s : ByteArray) (i u : Nat) : Nat × Nat × Nat :=
 if 10 <= i then (0, 0, 6) else if s.size <= i then (0, 0, 4) else if i = 9 /\ 1 < byteN s i then (0, 0, 6) else if byteN s i < 128 then (u + byteN s i * 128 ^ i, i + 1, 0) else takeS s (i + 1) (u + byteN s i % 128 * 128 ^ i)
 termination_by 10 - i
theorem wrapU {n : Int} (h : 0 <= n /\ n <= 18446744073709551615) : IntKind.u64.wrap n = n := by simp [IntKind.wrap, IntKind.signed, IntKind.bits]; omega
theorem pow128 {i : Nat} (h : i <= 9) : 128 ^ i <= 9223372036854775808 /\ 1 <= 128 ^ i /\ (i <= 8 -> 128 ^ (i + 1) <= 9223372036854775808) := by
 have : i = 0 ∨ i = 1 ∨ i = 2 ∨ i = 3 ∨ i = 4 ∨ i = 5 ∨ i = 6 ∨ i = 7 ∨ i = 8 ∨ i = 9 := by omega
 rcases this with rfl | rfl | rfl | rfl | rfl | rfl | rfl | rfl | rfl | rfl <;> decide
theorem byteN_cut (s : ByteArray) {l u i : Nat} (h : l + i < u) : byteN (s.extract l u) i = byteN s (l + i) := by
 unfold byteN byteAt
 rw [cut_same]
 simp only [List.getD_eq_getElem?_getD, List.getElem?_drop, List.getElem?_take, if_pos h]
theorem size_cut (s : ByteArray) {l u : Nat} (h : u <= s.size) : (s.extract l u).size = u - l := by
 rw [ByteArray.size_extract]; omega
theorem cut_none (s : ByteArray) (l : Nat) : s.extract l l = ⟨#[]⟩ := by
 rw [cut_same]
 congr 2
 apply List.drop_eq_nil_of_le
 simp
 omega
theorem takeS_congr (s t : ByteArray) (h1 : ∀ i, i < 10 -> (s.size <= i ↔ t.size <= i)) (h2 : ∀ i, i < 10 -> i < s.size -> byteN s i = byteN t i) (n : Nat) : ∀ i u, 10 - i = n -> takeS s i u = takeS t i u := by
 induction n with
 | zero =>
  intro i u h
  rw [takeS.eq_def, takeS.eq_def t, if_pos (show 10 <= i by omega), if_pos (show 10 <= i by omega)]
 | succ n ih =>
  intro i u h
  have a1 := h1 i (by omega)
  rw [takeS.eq_def, takeS.eq_def t, if_neg (show ¬ 10 <= i by omega), if_neg (show ¬ 10 <= i by omega)]
  by_cases hs : s.size <= i
  ·rw [if_pos hs, if_pos (a1.1 hs)]
  ·have a2 := h2 i (by omega) (by omega)
   rw [if_neg hs, if_neg (fun h => hs (a1.2 h)), a2]
   split
   ·rfl
   split
   ·rfl
   exact ih _ _ (by omega)
theorem takeS_room (s : ByteArray) (n : Nat) : ∀ i u, 10 - i = n -> (takeS s i u).2.1 <= s.size /\ ((takeS s i u).2.2 ≠ 0 -> (takeS s i u).1 = 0 /\ (takeS s i u).2.1 = 0) /\ ((takeS s i u).2.2 = 0 -> 0 < (takeS s i u).2.1) := by
 induction n with
 | zero =>
  intro i u h
  rw [takeS.eq_def, if_pos (by omega)]
  simp
 | succ n ih =>
  intro i u h
  rw [takeS.eq_def, if_neg (by omega)]
  split
  ·simp
  split
  ·simp
  split
  ·simp; omega
  exact ih _ _ (by omega)
def leS (s : ByteArray) : Nat -> Nat
 | 0 => 0
 | i + 1 => leS s i + byteN s i * 256 ^ i
theorem pow256 {i : Nat} (h : i <= 7) : 256 ^ i <= 72057594037927936 /\ 1 <= 256 ^ i /\ 256 ^ i = 2 ^ (8 * i) := by
 have : i = 0 ∨ i = 1 ∨ i = 2 ∨ i = 3 ∨ i = 4 ∨ i = 5 ∨ i = 6 ∨ i = 7 := by omega
 rcases this with rfl | rfl | rfl | rfl | rfl | rfl | rfl | rfl <;> decide
theorem leS_lt (s : ByteArray) : ∀ i, leS s i < 256 ^ i
 | 0 => by simp [leS]
 | i + 1 => by
  have h1 := leS_lt s i
  have h2 := (byteN_eq s i).2
  have h3 : (byteN s i + 1) * 256 ^ i <= 256 * 256 ^ i := Nat.mul_le_mul_right _ (by omega)
  rw [Nat.add_mul] at h3
  rw [Nat.pow_succ]
  simp only [leS]
  omega
theorem leS_congr (s t : ByteArray) : ∀ n, (∀ i, i < n -> byteN s i = byteN t i) -> leS s n = leS t n
 | 0, _ => rfl
 | n + 1, h => by simp only [leS]; rw [leS_congr s t n (fun i hi => h i (by omega)), h n (by omega)]
def fixS (s : ByteArray) : Nat × Nat := if s.size < 8 then (0, 4) else (leS s 8, 0)
theorem and_exp (a : Nat) : a &&& 9218868437227405312 = a % 9223372036854775808 / 4503599627370496 * 4503599627370496 := by
 apply Nat.eq_of_testBit_eq
 intro i
 have e : (9223372036854775808 : Nat) = 2 ^ 63 := by decide
 have e2 : (4503599627370496 : Nat) = 2 ^ 52 := by decide
 have e3 : (9218868437227405312 : Nat) = (2^11 - 1) * 2 ^ 52 := by decide
 rw [e3, e, e2, Nat.testBit_and, Nat.testBit_mul_two_pow, Nat.testBit_mul_two_pow, Nat.testBit_two_pow_sub_one, Nat.testBit_div_two_pow, Nat.testBit_mod_two_pow]
 by_cases h2 : 52 <= i
 ·rw [show i - 52 + 52 = i by omega]
  by_cases h3 : i < 63
  ·have : i - 52 < 11 := by omega
   simp [h2, h3, this]
  ·have : ¬ i - 52 < 11 := by omega
   simp [h3, this]
 ·simp [h2]
theorem bits_and_u64 (a b : Nat) (ha : a < 18446744073709551616) (hb : b < 18446744073709551616) : bitsOf .and .u64 (a : Int) (b : Int) = ((a &&& b : Nat) : Int) := by
 have h : a &&& b <= a := Nat.and_le_left
 have e1 : ((a : Int) % (2 ^ 64 : Nat)).toNat = a := by omega
 have e2 : ((b : Int) % (2 ^ 64 : Nat)).toNat = b := by omega
 have e3 : bitsOf .and .u64 (a : Int) (b : Int) = IntKind.u64.wrap (((BitVec.ofInt 64 (a : Int) &&& BitVec.ofInt 64 (b : Int)).toNat : Nat) : Int) := rfl
 rw [e3, BitVec.toNat_and, BitVec.toNat_ofInt, BitVec.toNat_ofInt, e1, e2]
 simp only [IntKind.wrap, IntKind.signed, IntKind.bits, Bool.false_and, Bool.false_eq_true, if_false]
 omega
def clsS (z : Nat) : Nat := if 9218868437227405312 < z % 9223372036854775808 then 0 else if z % 9223372036854775808 = 9218868437227405312 then 1 else if z % 9223372036854775808 = 0 then 2 else if z % 9223372036854775808 < 4503599627370496 then 3 else 4
structure OkC (c : GCursor) : Prop where
 sz : c.Data.size <= 140737488351232
 a0 : -9223372036854775808 <= c.At
 a1 : c.At <= 9223372036854775807
theorem sound_is (c : GCursor) : cursor_Sound c (soundB c.Data c.At c.End) := cursor_Sound_step _ _ (by simp only [soundB, Bool.decide_and, Bool.and_assoc])
theorem rsound_is (c : GCursor) : ref02_Sound c (soundB c.Data c.At c.End) := ref02_Sound_step _ _ (by simp only [soundB, Bool.decide_and, Bool.and_assoc])
theorem left_is (c : GCursor) (hc : OkC c) : cursor_Left c (leftI c.Data c.At c.End) := by
 refine cursor_Left_step _ _ ⟨_, sound_is c, fun h => ?_, fun h => ?_⟩
 ·rw [leftI, if_neg (by simpa using h)]
 ·have h1 : soundB c.Data c.At c.End = true := by simpa using h
  rw [leftI, if_pos h1]
  simp only [soundB, decide_eq_true_eq] at h1
  have := hc.sz
  rw [wI, wrapI (by omega)]
def restS (c : GCursor) : ByteArray := c.Data.extract c.At.toNat (c.At.toNat + (leftI c.Data c.At c.End).toNat)
theorem leftI_nonneg (c : GCursor) : 0 <= leftI c.Data c.At c.End := by
 unfold leftI
 split
 ·rename_i h; simp only [soundB, decide_eq_true_eq] at h; omega
 ·exact Int.le_refl _
theorem rest_size (c : GCursor) : ((restS c).size : Int) = leftI c.Data c.At c.End := by
 unfold restS
 unfold leftI
 split
 ·rename_i h; simp only [soundB, decide_eq_true_eq] at h
  rw [size_cut _ (by omega)]; omega
 ·rw [show c.At.toNat + (0 : Int).toNat = c.At.toNat from rfl, cut_none]; rfl
theorem rest_is (c : GCursor) : ref02_rest c (restS c) := by
 refine ref02_rest_step _ _ ⟨_, rsound_is c, fun h => ?_, fun h => ?_⟩
 ·rw [restS, leftI, if_neg (by simpa using h)]
  exact cut_none _ _
 ·have h1 : soundB c.Data c.At c.End = true := by simpa using h
  rw [restS, leftI, if_pos h1]
  simp only [soundB, decide_eq_true_eq] at h1
  exact ⟨h1, by congr 1; omega⟩
theorem rleft_is (c : GCursor) : ref02_Left c (leftI c.Data c.At c.End) := ref02_Left_step _ _ ⟨_, rest_is c, (rest_size c).symm⟩
def behindC (c : GCursor) (n : Int) : GCursor := ⟨c.Data, c.At + n, c.End, c.Depth, c.Nodes, c.Text⟩
theorem ahead_is (c : GCursor) (n : Int) (h : -9223372036854775808 <= c.At + n /\ c.At + n <= 9223372036854775807) : cursor_ahead c n (behindC c n) := cursor_ahead_step _ _ _ (by rw [wI, wrapI h]; rfl)
theorem behind_is (c : GCursor) (n : Int) (h : -9223372036854775808 <= c.At + n /\ c.At + n <= 9223372036854775807) : ref02_behind c n (behindC c n) := ref02_behind_step _ _ _ (by rw [wI, wrapI h]; rfl)
def byteR (c : GCursor) : Int × GCursor × Int := if 0 < leftI c.Data c.At c.End then (byteAt c.Data c.At.toNat, behindC c 1, 0) else (0, c, 4)
theorem byte_is (c : GCursor) (hc : OkC c) : cursor_Byte c (byteR c) := by
 refine cursor_Byte_step _ _ ⟨_, left_is c hc, fun h => ?_, fun h => ?_⟩
 ·rw [byteR, if_neg (by simp at h; omega)]
 ·have h0 : 0 < leftI c.Data c.At c.End := by simp at h; omega
  obtain ⟨h1, h2, h3, h4⟩ := leftI_pos h0
  have := hc.sz
  refine ⟨⟨h1, by omega⟩, _, ahead_is c 1 (by omega), ?_⟩
  rw [byteR, if_pos h0]
theorem rbyte_is (c : GCursor) (hc : OkC c) : ref02_Byte c (byteR c) := by
 have hs := rest_size c
 refine ref02_Byte_step _ _ ⟨_, rest_is c, fun h => ?_, fun h => ?_⟩
 ·simp only [decide_eq_true_eq] at h
  rw [byteR, if_neg]
  rw [← hs, h]; decide
 ·have h0 : 0 < leftI c.Data c.At c.End := by
   have := leftI_nonneg c
   have : leftI c.Data c.At c.End ≠ 0 := by
    intro h1
    rw [h1] at hs
    have : restS c = ⟨#[]⟩ := by
     have : (restS c).size = 0 := by omega
     exact ByteArray.ext (Array.eq_empty_of_size_eq_zero this)
    simp [this] at h
   omega
  obtain ⟨h1, h2, h3, h4⟩ := leftI_pos h0
  have := hc.sz
  refine ⟨⟨Int.le_refl _, by rw [hs]; exact h0⟩, _, behind_is c 1 (by omega), ?_⟩
  rw [byteR, if_pos h0]
  congr 1
  have e1 := byteN_cut c.Data (l := c.At.toNat) (u := c.At.toNat + (leftI c.Data c.At c.End).toNat) (i := 0) (by omega)
  rw [(byteN_eq c.Data _).1, (byteN_eq (restS c) _).1]
  exact congrArg _ e1.symm
def tk (x : Nat × Nat × Nat) : Int × Int × Int := (x.1, x.2.1, x.2.2)
theorem pow7 {i : Nat} (h : i <= 9) : (2 : Int) ^ min (wI (7 * (i : Int))).toNat IntKind.u64.bits = ((128 ^ i : Nat) : Int) /\ 0 <= wI (7 * (i : Int)) /\ 128 ^ i = 2 ^ (7 * i) := by
 have : i = 0 ∨ i = 1 ∨ i = 2 ∨ i = 3 ∨ i = 4 ∨ i = 5 ∨ i = 6 ∨ i = 7 ∨ i = 8 ∨ i = 9 := by omega
 rcases this with rfl | rfl | rfl | rfl | rfl | rfl | rfl | rfl | rfl | rfl <;> decide +kernel
theorem take_num {c i u : Nat} (hi : i <= 9) (hc : c < 256) (h9 : i = 9 -> c <= 1) (hu : u < 128 ^ i) :
  bitsOf .or .u64 (u : Int) (wU ((wU (bitsOf .and .u8 (c : Int) 127)) * 2 ^ min (wI (7 * (i : Int))).toNat IntKind.u64.bits)) = ((u + c % 128 * 128 ^ i : Nat) : Int) /\ (i <= 8 -> u + c % 128 * 128 ^ i < 128 ^ (i + 1)) := by
 obtain ⟨hp, _, hq⟩ := pow7 hi
 obtain ⟨p1, p2, p3⟩ := pow128 hi
 have hm : c % 128 * 128 ^ i <= 127 * 128 ^ i := Nat.mul_le_mul_right _ (by omega)
 have hb : c % 128 * 128 ^ i <= 9223372036854775808 /\ (i <= 8 -> u + c % 128 * 128 ^ i < 128 ^ (i + 1)) := by
  rcases Nat.lt_or_ge i 9 with h | h
  ·have := p3 (by omega)
   rw [Nat.pow_succ] at this ⊢
   omega
  ·have h' : i = 9 := by omega
   have := h9 h'
   subst h'
   have : c % 128 <= 1 := by omega
   have : c % 128 * 128 ^ 9 <= 1 * 128 ^ 9 := Nat.mul_le_mul_right _ this
   exact ⟨by omega, by omega⟩
 refine ⟨?_, hb.2⟩
 have e1 : wU ((c % 128 : Nat) : Int) = ((c % 128 : Nat) : Int) := wrapU (by omega)
 have e2 : wU ((c % 128 * 128 ^ i : Nat) : Int) = ((c % 128 * 128 ^ i : Nat) : Int) := wrapU (by omega)
 rw [and_u8 c hc, hp, e1, ← Int.natCast_mul, e2, bits_or_u64 _ _ (by omega) (by omega), hq, or_add _ _ _ (by rw [← hq]; exact hu)]
theorem take_j (s : ByteArray) (hz : s.size <= 140737488351232) : ∀ n i u : Nat, 10 - i = n -> i <= 9 -> i <= s.size -> u < 128 ^ i -> varint_Take_j2 i u s (tk (takeS s i u)) := by
 intro n
 induction n with
 | zero => intro i u h1 h2 h3; omega
 | succ n ih =>
  intro i u h1 h2 h3 hu
  have hb := byteN_eq s i
  rw [takeS.eq_def, if_neg (by omega)]
  have hn : ((i : Int)).toNat = i := by omega
  refine varint_Take_j2_step _ _ _ _ ⟨fun h => ?_, fun h => ?_⟩
  ·have : (i : Int) = s.size := by simpa using h
   rw [if_pos (by omega)]; rfl
  have hne : ¬ (i : Int) = s.size := by simpa using h
  rcases Nat.lt_or_ge i s.size with hlt | hge
  ·rw [if_neg (by omega)]
   rw [hn, hb.1]
   refine ⟨⟨by omega, by omega⟩, fun h => ?_, fun h => ?_⟩
   ·simp only [Bool.and_eq_true, beq_iff_eq, decide_eq_true_eq] at h
    rw [if_pos (by omega)]; rfl
   ·have h9 : ¬ (i = 9 /\ 1 < byteN s i) := by
     simp only [Bool.and_eq_false_iff, beq_eq_false_iff_ne, decide_eq_false_iff_not] at h
     omega
    rw [if_neg h9]
    obtain ⟨e1, e2⟩ := take_num (c := byteN s i) (u := u) h2 hb.2 (by omega) hu
    refine ⟨(pow7 h2).2.1, fun h => ?_, fun h => ?_⟩
    ·simp only [decide_eq_true_eq] at h
     rw [if_pos (by omega), e1, wI, wrapI (by omega)]
     have : byteN s i % 128 = byteN s i := by omega
     rw [this]; rfl
    ·simp only [decide_eq_false_iff_not] at h
     rw [if_neg (by omega), e1, wI, wrapI (by omega)]
     have : i <= 8 := by omega
     exact ih (i + 1) _ (by omega) (by omega) (by omega) (e2 this)
  ·omega
theorem take_is (s : ByteArray) (hz : s.size <= 140737488351232) : varint_Take s (tk (takeS s 0 0)) := varint_Take_step _ _ (take_j s hz 10 0 0 rfl (by omega) (by omega) (by decide))
theorem rtake_num {c i u : Nat} (hi : i <= 9) (hc : c < 256) (h9 : i = 9 -> c <= 1) (hu : u < 128 ^ i) :
  wU (c : Int) = c /\ wU ((u : Int) + wU ((c : Int).tmod 128 * ((128 ^ i : Nat) : Int))) = ((u + c % 128 * 128 ^ i : Nat) : Int) /\ (i <= 8 -> u + c % 128 * 128 ^ i < 128 ^ (i + 1) /\ wU (((128 ^ i : Nat) : Int) * 128) = ((128 ^ (i + 1) : Nat) : Int)) := by
 obtain ⟨e1, e2⟩ := take_num hi hc h9 hu
 obtain ⟨p1, p2, p3⟩ := pow128 hi
 have hm : c % 128 * 128 ^ i <= 127 * 128 ^ i := Nat.mul_le_mul_right _ (by omega)
 have hb : c % 128 * 128 ^ i <= 9223372036854775808 := by
  rcases Nat.lt_or_ge i 9 with h | h
  ·have := p3 (by omega)
   rw [Nat.pow_succ] at this
   omega
  ·have h' : i = 9 := by omega
   have := h9 h'
   subst h'
   have : c % 128 <= 1 := by omega
   have : c % 128 * 128 ^ 9 <= 1 * 128 ^ 9 := Nat.mul_le_mul_right _ this
   omega
 have e3 : (c : Int).tmod 128 * ((128 ^ i : Nat) : Int) = ((c % 128 * 128 ^ i : Nat) : Int) := by
  rw [Int.natCast_mul]; congr 1
 have e4 : wU ((c % 128 * 128 ^ i : Nat) : Int) = ((c % 128 * 128 ^ i : Nat) : Int) := wrapU (by omega)
 refine ⟨wrapU (by omega), ?_, fun h => ⟨e2 h, ?_⟩⟩
 ·rw [e3, e4, ← Int.natCast_add]
  exact wrapU (by omega)
 ·have := p3 h
  have e5 : ((128 ^ i : Nat) : Int) * 128 = ((128 ^ (i + 1) : Nat) : Int) := by rw [Nat.pow_succ, Int.natCast_mul]; rfl
  rw [e5]
  exact wrapU (by omega)
theorem rtake_j (s : ByteArray) (hz : s.size <= 140737488351232) : ∀ n i u : Nat, 10 - i = n -> i <= 10 -> u < 128 ^ i -> (i = 10 -> 10 <= s.size) -> ref01_Take_j2 i (if i = 10 then 0 else ((128 ^ i : Nat) : Int)) u s (tk (takeS s i u)) := by
 intro n
 induction n with
 | zero =>
  intro i u h1 h2 hu _
  have : i = 10 := by omega
  subst this
  rw [takeS.eq_def, if_pos (by omega)]
  exact ref01_Take_j2_step _ _ _ _ _ ⟨fun h => by simp at h, fun _ => rfl⟩
 | succ n ih =>
  intro i u h1 h2 hu _
  have hb := byteN_eq s i
  rw [takeS.eq_def, if_neg (show ¬ i = 10 by omega), if_neg (show ¬ 10 <= i by omega)]
  have hn : ((i : Int)).toNat = i := by omega
  refine ref01_Take_j2_step _ _ _ _ _ ⟨fun _ => ⟨fun h => ?_, fun h => ?_⟩, fun h => ?_⟩
  ·simp only [decide_eq_true_eq] at h
   rw [if_pos (by omega)]; rfl
  ·simp only [decide_eq_false_iff_not] at h
   rw [if_neg (by omega), hn, hb.1]
   have hw : wU ((byteN s i : Nat) : Int) = (byteN s i : Int) := wrapU (by omega)
   rw [hw]
   refine ⟨⟨by omega, by omega⟩, fun h => ?_, fun h => ?_⟩
   ·simp only [Bool.and_eq_true, beq_iff_eq, decide_eq_true_eq] at h
    rw [if_pos (by omega)]; rfl
   ·have h9 : ¬ (i = 9 /\ 1 < byteN s i) := by
     simp only [Bool.and_eq_false_iff, beq_eq_false_iff_ne, decide_eq_false_iff_not] at h
     omega
    rw [if_neg h9]
    obtain ⟨_, e1, e2⟩ := rtake_num (c := byteN s i) (u := u) (by omega) hb.2 (by omega) hu
    refine ⟨fun h => ?_, fun h => ?_⟩
    ·simp only [decide_eq_true_eq] at h
     rw [if_pos (by omega), e1, wI, wrapI (by omega)]
     have : byteN s i % 128 = byteN s i := by omega
     rw [this]; rfl
    ·simp only [decide_eq_false_iff_not] at h
     rw [if_neg (by omega), e1, wI, wrapI (by omega)]
     have h8 : i <= 8 := by omega
     obtain ⟨e3, e4⟩ := e2 h8
     rw [e4]
     have := ih (i + 1) _ (by omega) (by omega) e3 (by omega)
     rw [if_neg (by omega)] at this
     exact this
  ·simp at h; omega
theorem rtake_is (s : ByteArray) (hz : s.size <= 140737488351232) : ref01_Take s (tk (takeS s 0 0)) := ref01_Take_step _ _ (rtake_j s hz 10 0 0 rfl (by omega) (by decide) (by omega))
def headS (c : GCursor) (n : Nat) : ByteArray := c.Data.extract c.At.toNat (c.At.toNat + min (leftI c.Data c.At c.End).toNat n)
theorem head_is (c : GCursor) (hc : OkC c) (n : Nat) (hn : n <= 1000) : cursor_head c n (headS c n) := by
 refine cursor_head_step _ _ _ ⟨_, sound_is c, fun h => ?_, fun h => ?_⟩
 ·rw [headS, leftI, if_neg (by simpa using h)]
  rw [show (0 : Int).toNat = 0 from rfl, Nat.zero_min]
  exact cut_none _ _
 ·have h1 : soundB c.Data c.At c.End = true := by simpa using h
  rw [headS, leftI, if_pos h1]
  simp only [soundB, decide_eq_true_eq] at h1
  have := hc.sz
  rw [wI, wrapI (by omega)]
  exact ⟨by omega, by congr 1; omega⟩
theorem head_size (c : GCursor) (n : Nat) : (headS c n).size = min (leftI c.Data c.At c.End).toNat n := by
 have := rest_size c
 unfold headS
 rcases Int.lt_or_le 0 (leftI c.Data c.At c.End) with h | h
 ·obtain ⟨h1, h2, h3, h4⟩ := leftI_pos h
  rw [size_cut _ (by omega)]; omega
 ·have : leftI c.Data c.At c.End = 0 := by have := leftI_nonneg c; omega
  rw [this, show (0 : Int).toNat = 0 from rfl, Nat.zero_min]
  rw [Nat.add_zero, cut_none]; rfl
theorem head_byte (c : GCursor) (n i : Nat) (hi : i < n) (h : i < (restS c).size) : byteN (headS c n) i = byteN (restS c) i := by
 have := rest_size c
 unfold headS restS
 rw [byteN_cut _ (by omega), byteN_cut _ (by omega)]
theorem take_head (c : GCursor) : takeS (headS c 10) 0 0 = takeS (restS c) 0 0 := by
 have hs := rest_size c
 have hh := head_size c 10
 refine takeS_congr _ _ (fun i hi => by omega) (fun i hi h => head_byte c 10 i (by omega) (by omega)) 10 0 0 rfl
theorem OkC.rest {c : GCursor} (hc : OkC c) : (restS c).size <= 140737488351232 := by
 have h1 := rest_size c
 have := hc.sz
 rcases Int.lt_or_le 0 (leftI c.Data c.At c.End) with h | h
 ·obtain ⟨h1, h2, h3, h4⟩ := leftI_pos h; omega
 ·omega
def varR (c : GCursor) : Int × GCursor × Int := if (takeS (restS c) 0 0).2.2 = 0 then ((takeS (restS c) 0 0).1, behindC c (takeS (restS c) 0 0).2.1, 0) else (0, c, (takeS (restS c) 0 0).2.2)
theorem spent_le (c : GCursor) (hc : OkC c) : -9223372036854775808 <= c.At + (takeS (restS c) 0 0).2.1 /\ c.At + (takeS (restS c) 0 0).2.1 <= 9223372036854775807 := by
 have h1 := (takeS_room (restS c) 10 0 0 rfl).1
 have h2 := rest_size c
 have := hc.sz; have := hc.a0; have := hc.a1
 rcases Int.lt_or_le 0 (leftI c.Data c.At c.End) with h | h
 ·obtain ⟨h1, h2, h3, h4⟩ := leftI_pos h; omega
 ·omega
theorem varint_is (c : GCursor) (hc : OkC c) : cursor_Varint c (varR c) := by
 have hs := spent_le c hc
 have ht := take_is (headS c 10) (by rw [head_size]; omega)
 rw [take_head] at ht
 refine cursor_Varint_step _ _ ⟨_, head_is c hc 10 (by omega), _, ht, fun h => ?_, fun h => ?_⟩
 ·rw [varR, if_neg]
  ·rfl
  ·intro h0; simp [tk, h0] at h
 ·have h0 : (takeS (restS c) 0 0).2.2 = 0 := by simpa [tk] using h
  exact ⟨_, ahead_is c _ hs, by rw [varR, if_pos h0]; rfl⟩
theorem rvarint_is (c : GCursor) (hc : OkC c) : ref02_Varint c (varR c) := by
 have hs := spent_le c hc
 refine ref02_Varint_step _ _ ⟨_, rest_is c, _, rtake_is _ hc.rest, fun h => ?_, fun h => ?_⟩
 ·rw [varR, if_neg]
  ·rfl
  ·intro h0; simp [tk, h0] at h
 ·have h0 : (takeS (restS c) 0 0).2.2 = 0 := by simpa [tk] using h
  exact ⟨_, behind_is c _ hs, by rw [varR, if_pos h0]; rfl⟩
theorem pow8 {i : Nat} (h : i <= 7) : (2 : Int) ^ min (wI (8 * (i : Int))).toNat IntKind.u64.bits = ((256 ^ i : Nat) : Int) /\ 0 <= wI (8 * (i : Int)) := by
 have : i = 0 ∨ i = 1 ∨ i = 2 ∨ i = 3 ∨ i = 4 ∨ i = 5 ∨ i = 6 ∨ i = 7 := by omega
 rcases this with rfl | rfl | rfl | rfl | rfl | rfl | rfl | rfl <;> decide +kernel
theorem takefix_j (s : ByteArray) (h8 : 8 <= s.size) : ∀ n i : Nat, 8 - i = n -> i <= 8 -> varint_TakeFixed_j2 i (leS s i) s (leS s 8, 0) := by
 intro n
 induction n with
 | zero =>
  intro i h1 h2
  have : i = 8 := by omega
  subst this
  exact varint_TakeFixed_j2_step _ _ _ _ ⟨fun h => by simp at h, fun _ => rfl⟩
 | succ n ih =>
  intro i h1 h2
  have hi : i <= 7 := by omega
  obtain ⟨hp, h0⟩ := pow8 hi
  obtain ⟨p1, p2, p3⟩ := pow256 hi
  have hb := byteN_eq s i
  have hl := leS_lt s i
  have hn : ((i : Int)).toNat = i := by omega
  refine varint_TakeFixed_j2_step _ _ _ _ ⟨fun _ => ⟨⟨by omega, by omega⟩, h0, ?_⟩, fun h => by simp at h; omega⟩
  have hm : byteN s i * 256 ^ i <= 255 * 256 ^ i := Nat.mul_le_mul_right _ (by omega)
  have e1 : wU ((byteN s i : Nat) : Int) = (byteN s i : Int) := wrapU (by omega)
  have e2 : wU ((byteN s i * 256 ^ i : Nat) : Int) = ((byteN s i * 256 ^ i : Nat) : Int) := wrapU (by omega)
  rw [hn, hb.1, e1, hp, ← Int.natCast_mul, e2, bits_or_u64 _ _ (by omega) (by omega), p3, or_add _ _ _ (by rw [← p3]; exact hl), wI, wrapI (by omega)]
  have := ih (i + 1) (by omega) (by omega)
  rw [leS, p3] at this
  exact this
theorem takefix_is (s : ByteArray) : varint_TakeFixed s ((fixS s).1, (fixS s).2) := by
 refine varint_TakeFixed_step _ _ ⟨fun h => ?_, fun h => ?_⟩
 ·simp only [decide_eq_true_eq] at h
  rw [fixS, if_pos (by omega)]; rfl
 ·simp only [decide_eq_false_iff_not] at h
  have h8 : ¬ s.size < 8 := by omega
  rw [fixS, if_neg h8]
  exact takefix_j s (by omega) 8 0 rfl (by omega)
def fixR (c : GCursor) : Int × GCursor × Int := if 8 <= (restS c).size then ((leS (restS c) 8 : Nat), behindC c 8, 0) else (0, c, 4)
theorem fixed_is (c : GCursor) (hc : OkC c) : cursor_Fixed c (fixR c) := by
 have hs := rest_size c
 have hh := head_size c 8
 have := hc.sz; have := hc.a0; have := hc.a1
 refine cursor_Fixed_step _ _ ⟨_, head_is c hc 8 (by omega), _, takefix_is _, fun h => ?_, fun h => ?_⟩
 ·have : (headS c 8).size < 8 := by
   rcases Nat.lt_or_ge (headS c 8).size 8 with h1 | h1
   ·exact h1
   ·simp [fixS, Nat.not_lt.2 h1] at h
  rw [fixR, if_neg (by omega), fixS, if_pos this]; rfl
 ·have h1 : 8 <= (headS c 8).size := by
   rcases Nat.lt_or_ge (headS c 8).size 8 with h1 | h1
   ·simp [fixS, h1] at h
   ·exact h1
  have h0 : 0 < leftI c.Data c.At c.End := by omega
  obtain ⟨k1, k2, k3, k4⟩ := leftI_pos h0
  refine ⟨_, ahead_is c 8 (by omega), ?_⟩
  rw [fixR, if_pos (by omega), fixS, if_neg (by omega), leS_congr (headS c 8) (restS c) 8 fun i hi => head_byte c 8 i hi (by omega)]
def beS (s : ByteArray) : Nat -> Nat
 | 0 => 0
 | k + 1 => beS s k * 256 + byteN s (7 - k)
theorem beS_le (s : ByteArray) : ∀ k, k <= 8 -> beS s k * 256 ^ (8 - k) + leS s (8 - k) = leS s 8 /\ beS s k < 256 ^ k
 | 0, _ => by simp [beS]
 | k + 1, h => by
  obtain ⟨h1, h2⟩ := beS_le s k (by omega)
  have hb := (byteN_eq s (7 - k)).2
  refine ⟨?_, ?_⟩
  ·rw [← h1]
   have e : 8 - k = (7 - k) + 1 := by omega
   have e2 : 8 - (k + 1) = 7 - k := by omega
   rw [e2, e, leS, beS, Nat.pow_succ, Nat.add_mul, Nat.mul_assoc, Nat.mul_comm 256]
   omega
  ·rw [beS, Nat.pow_succ]; omega
theorem rfixed_j (c : GCursor) (hc : OkC c) (s : ByteArray) (h8 : 8 <= s.size) (hat : -9223372036854775808 <= c.At + 8 /\ c.At + 8 <= 9223372036854775807) : ∀ n k : Nat, 8 - k = n -> k <= 8 -> ref02_Fixed_j2 (7 - (k : Int)) (beS s k) s c ((leS s 8 : Nat), behindC c 8, 0) := by
 intro n
 induction n with
 | zero =>
  intro k h1 h2
  have : k = 8 := by omega
  subst this
  refine ref02_Fixed_j2_step _ _ _ _ _ ⟨fun h => by simp at h, fun _ => ⟨_, behind_is c 8 hat, ?_⟩⟩
  have h3 := (beS_le s 8 (by omega)).1
  rw [show 8 - 8 = 0 from rfl, show leS s 0 = 0 from rfl, Nat.pow_zero, Nat.mul_one, Nat.add_zero] at h3
  rw [h3]
 | succ n ih =>
  intro k h1 h2
  have hb := byteN_eq s (7 - k)
  have hl := (beS_le s k (by omega)).2
  have hl2 := (beS_le s (k + 1) (by omega)).2
  have hk : k <= 7 := by omega
  obtain ⟨p1, p2, p3⟩ := pow256 hk
  have hn : (7 - (k : Int)).toNat = 7 - k := by omega
  refine ref02_Fixed_j2_step _ _ _ _ _ ⟨fun _ => ⟨⟨by omega, by omega⟩, ?_⟩, fun h => by simp at h; omega⟩
  have hp : 256 ^ (k + 1) <= 18446744073709551616 := by rw [Nat.pow_succ]; omega
  rw [beS] at hl2
  have e1 : wU ((byteN s (7 - k) : Nat) : Int) = (byteN s (7 - k) : Int) := wrapU (by omega)
  have e2 : wU ((beS s k : Int) * 256) = ((beS s k * 256 : Nat) : Int) := by rw [wU, wrapU (by omega)]; omega
  rw [hn, hb.1, e1, e2, ← Int.natCast_add, wU, wrapU (by omega), wI, wrapI (by omega)]
  have := ih (k + 1) (by omega) (by omega)
  rw [beS] at this
  have e3 : (7 : Int) - ((k + 1 : Nat) : Int) = 7 - (k : Int) - 1 := by omega
  rw [e3] at this
  exact this
theorem rfixed_is (c : GCursor) (hc : OkC c) : ref02_Fixed c (fixR c) := by
 have hs := rest_size c
 have := hc.sz; have := hc.a0; have := hc.a1
 refine ref02_Fixed_step _ _ ⟨_, rest_is c, fun h => ?_, fun h => ?_⟩
 ·simp only [decide_eq_true_eq] at h
  rw [fixR, if_neg (by omega)]
 ·simp only [decide_eq_false_iff_not] at h
  have h0 : 0 < leftI c.Data c.At c.End := by omega
  obtain ⟨k1, k2, k3, k4⟩ := leftI_pos h0
  rw [fixR, if_pos (by omega)]
  exact rfixed_j c hc (restS c) (by omega) (by omega) 8 0 rfl (by omega)
theorem bI_size (s : ByteArray) : (bI s).length = s.size := by simp [bI]
def textR (c : GCursor) (n : Int) : ByteArray × GCursor × Int := if n < 0 then (⟨#[]⟩, c, 1) else if leftI c.Data c.At c.End < n then (⟨#[]⟩, c, 4) else if c.Text < n then (⟨#[]⟩, c, 3) else (c.Data.extract c.At.toNat (c.At.toNat + n.toNat), behindC c n, 0)
theorem behindC_zero (c : GCursor) : behindC c 0 = c := by cases c; simp [behindC]
theorem text_is (c : GCursor) (hc : OkC c) (n : Int) : cursor_Text c n (textR c n) := by
 have := hc.sz
 refine cursor_Text_step _ _ _ ⟨fun h => ?_, fun h => ⟨_, left_is c hc, fun h2 => ?_, fun h2 => ⟨fun h3 => ?_, fun h3 => ⟨fun h4 => ?_, fun h4 => ?_⟩⟩⟩⟩
 ·rw [textR, if_pos (by simpa using h)]
 all_goals simp only [decide_eq_false_iff_not, decide_eq_true_eq, beq_iff_eq, beq_eq_false_iff_ne] at *
 ·rw [textR, if_neg h, if_pos h2]
 ·rw [textR, if_neg h, if_neg h2, if_pos h3]
 ·subst h4
  rw [textR, if_neg h, if_neg h2, if_neg h3, behindC_zero, show (0 : Int).toNat = 0 from rfl, Nat.add_zero, cut_none]
 ·have h0 : 0 < leftI c.Data c.At c.End := by omega
  obtain ⟨k1, k2, k3, k4⟩ := leftI_pos h0
  have hw : wI (c.At + n) = c.At + n := wrapI (by omega)
  have hx : (wI (c.At + n)).toNat = c.At.toNat + n.toNat := by rw [hw]; omega
  have hl : (bI (c.Data.extract c.At.toNat (wI (c.At + n)).toNat)).length = n.toNat := by rw [bI_size, hx, size_cut _ (by omega)]; omega
  refine ⟨_, cursor_piece_step _ _ _ ⟨⟨k1, by rw [hw]; omega, by rw [hw]; omega⟩, ⟨Int.le_refl _, by omega, by rw [hl]; omega⟩, rfl⟩, c.Data.extract c.At.toNat (c.At.toNat + n.toNat), ?_, _, ahead_is c n (by omega), ?_⟩
  ·rw [show (0 : Int).toNat = 0 from rfl, List.drop_zero, List.take_of_length_le (by omega), hx]
  ·rw [textR, if_neg h, if_neg h2, if_neg h3]
theorem rtext_is (c : GCursor) (hc : OkC c) (n : Int) : ref02_Text c n (textR c n) := by
 have := hc.sz; have := hc.a0; have := hc.a1
 have hs := rest_size c
 refine ref02_Text_step _ _ _ ⟨_, rest_is c, fun h => ?_, fun h => ⟨fun h2 => ?_, fun h2 => ⟨fun h3 => ?_, fun h3 => ?_⟩⟩⟩
 ·rw [textR, if_pos (by simpa using h)]
 all_goals simp only [decide_eq_false_iff_not, decide_eq_true_eq, beq_iff_eq, beq_eq_false_iff_ne] at *
 ·rw [textR, if_neg h, if_pos (by omega)]
 ·rw [textR, if_neg h, if_neg (by omega), if_pos h3]
 ·have hle : c.At + n <= 9223372036854775807 := by
   rcases Int.lt_or_le 0 (leftI c.Data c.At c.End) with h0 | h0
   ·obtain ⟨k1, k2, k3, k4⟩ := leftI_pos h0; omega
   ·omega
  refine ⟨⟨Int.le_refl _, by omega, by omega⟩, _, behind_is c n (by omega), ?_⟩
  rw [textR, if_neg h, if_neg (by omega), if_neg h3]
  congr 1
  rw [restS, show (0 : Int).toNat = 0 from rfl]
  rcases Int.lt_or_le 0 (leftI c.Data c.At c.End) with h0 | h0
  ·obtain ⟨k1, k2, k3, k4⟩ := leftI_pos h0
   rw [cut_same, cut_same, cut_same]
   congr 2
   simp only [Nat.zero_add, List.drop_zero, List.take_drop]
   rw [List.take_take]
   congr 2
   omega
  ·have : n.toNat = 0 := by omega
   rw [this, Nat.add_zero, cut_none, cut_none]
def ofI (l : List Int) : ByteArray := ⟨(l.map fun n => UInt8.ofNat n.toNat).toArray⟩
def bytesL (l : List Int) : Prop := ∀ x ∈ l, 0 <= x /\ x < 256
theorem bI_ofI {l : List Int} (h : bytesL l) : l = bI (ofI l) := by
 simp only [bI, ofI, List.map_map]
 symm
 conv => rhs; rw [← List.map_id l]
 refine List.map_congr_left fun x hx => ?_
 have := h x hx
 simp only [Function.comp, id]
 rw [UInt8.toNat_ofNat_of_lt' (show x.toNat < UInt8.size by simp [UInt8.size]; omega)]
 omega
theorem bytesL_app {a b : List Int} (ha : bytesL a) (hb : bytesL b) : bytesL (a ++ b) := fun x hx => (List.mem_append.1 hx).elim (ha x) (hb x)
theorem bytesL_one {x : Int} (h : 0 <= x /\ x < 256) : bytesL [x] := fun y hy => by simp at hy; subst hy; exact h
def putL (u : Nat) : List Int := if u < 128 then [(u : Int)] else ((u % 128 + 128 : Nat) : Int) :: putL (u / 128)
 termination_by u
theorem putL_bytes (u : Nat) : bytesL (putL u) := by
 induction u using Nat.strongRecOn with
 | _ u ih =>
  rw [putL]
  split
  ·exact bytesL_one (by omega)
  ·exact bytesL_app (bytesL_one (by omega)) (ih (u / 128) (by omega))
def putS (u : Nat) : ByteArray := ofI (putL u)
theorem or_u8 (c : Nat) (h : c < 256) : bitsOf .or .u8 (c : Int) 128 = ((c % 128 + 128 : Nat) : Int) := by
 have : ∀ c : Fin 256, bitsOf .or .u8 ((c.val : Nat) : Int) 128 = ((c.val % 128 + 128 : Nat) : Int) := by decide +kernel
 exact this ⟨c, h⟩
theorem wrap8 (u : Nat) : IntKind.u8.wrap (u : Int) = ((u % 256 : Nat) : Int) := by simp [IntKind.wrap, IntKind.signed, IntKind.bits]
theorem shr7 (u : Nat) : (u : Int).fdiv (2 ^ min (7 : Int).toNat IntKind.u64.bits) = ((u / 128 : Nat) : Int) := by
 rw [show (2 : Int) ^ min (7 : Int).toNat IntKind.u64.bits = ((128 : Nat) : Int) by decide +kernel]
 rw [Int.fdiv_eq_ediv_of_nonneg _ (by omega)]; rfl
theorem put_j : ∀ (k u : Nat) (l : List Int), u < 128 ^ k -> bytesL l -> l.length + k <= 1000 -> varint_Put_j2 l u (ofI (l ++ putL u)) := by
 intro k
 induction k with
 | zero =>
  intro u l hu hl hk
  have : u = 0 := by simpa using hu
  subst this
  refine varint_Put_j2_step _ _ _ ⟨fun h => by simp at h, fun _ => ⟨by simp; omega, _, ?_, rfl⟩⟩
  rw [wrap8, putL, if_pos (by omega)]
  exact bI_ofI (bytesL_app hl (bytesL_one (by omega)))
 | succ k ih =>
  intro u l hu hl hk
  refine varint_Put_j2_step _ _ _ ⟨fun h => ⟨by simp; omega, ?_⟩, fun h => ⟨by simp; omega, _, ?_, rfl⟩⟩
  ·simp only [decide_eq_true_eq] at h
   rw [wrap8, or_u8 _ (by omega), shr7]
   have := ih (u / 128) (l ++ [((u % 128 + 128 : Nat) : Int)]) (by rw [Nat.pow_succ] at hu; omega) (bytesL_app hl (bytesL_one (by omega))) (by simp; omega)
   rw [List.append_assoc] at this
   rw [putL, if_neg (by omega)]
   have e : u % 256 % 128 = u % 128 := by omega
   rw [e]
   exact this
  ·simp only [decide_eq_false_iff_not] at h
   rw [wrap8, putL, if_pos (by omega)]
   have e : u % 256 = u := by omega
   rw [e]
   exact bI_ofI (bytesL_app hl (bytesL_one (by omega)))
theorem put_is (u : Nat) (hu : u < 18446744073709551616) : varint_Put u (putS u) := varint_Put_step _ _ (put_j 10 u [] (by omega) (fun x hx => by cases hx) (by decide))
theorem rput_j : ∀ (k u : Nat) (l : List Int), u < 18446744073709551616 -> u < 128 ^ k -> bytesL l -> l.length + k <= 1000 -> ref01_Put_j2 l u (ofI (l ++ putL u)) := by
 intro k
 induction k with
 | zero =>
  intro u l h64 hu hl hk
  have : u = 0 := by simpa using hu
  subst this
  refine ref01_Put_j2_step _ _ _ ⟨fun h => by simp at h, fun _ => ⟨by simp; omega, _, ?_, rfl⟩⟩
  rw [wrap8, putL, if_pos (by omega)]
  exact bI_ofI (bytesL_app hl (bytesL_one (by omega)))
 | succ k ih =>
  intro u l h64 hu hl hk
  refine ref01_Put_j2_step _ _ _ ⟨fun h => ⟨by simp; omega, ?_⟩, fun h => ⟨by simp; omega, _, ?_, rfl⟩⟩
  ·simp only [decide_eq_true_eq] at h
   have e1 : wU ((u : Int).tmod 128 + 128) = ((u % 128 + 128 : Nat) : Int) := by
    have : (u : Int).tmod 128 = ((u % 128 : Nat) : Int) := rfl
    rw [this, wU, wrapU (by omega)]; omega
   have e2 : wU ((u : Int).tdiv 128) = ((u / 128 : Nat) : Int) := by
    have : (u : Int).tdiv 128 = ((u / 128 : Nat) : Int) := rfl
    rw [this, wU, wrapU (by omega)]
   rw [e1, e2, wrap8]
   have := ih (u / 128) (l ++ [((u % 128 + 128 : Nat) : Int)]) (by omega) (by rw [Nat.pow_succ] at hu; omega) (bytesL_app hl (bytesL_one (by omega))) (by simp; omega)
   rw [List.append_assoc] at this
   rw [putL, if_neg (by omega)]
   have e : (u % 128 + 128) % 256 = u % 128 + 128 := by omega
   rw [e]
   exact this
  ·simp only [decide_eq_false_iff_not] at h
   rw [wrap8, putL, if_pos (by omega)]
   have e : u % 256 = u := by omega
   rw [e]
   exact bI_ofI (bytesL_app hl (bytesL_one (by omega)))
theorem rput_is (u : Nat) (hu : u < 18446744073709551616) : ref01_Put u (putS u) := ref01_Put_step _ _ (rput_j 10 u [] hu (by omega) (fun x hx => by cases hx) (by decide))
theorem ofI_size (l : List Int) : (ofI l).size = l.length := by simp [ofI, ByteArray.size]
theorem putL_len (u : Nat) : 0 < (putL u).length := by rw [putL]; split <;> simp
theorem len_j : ∀ (k u : Nat) (n : Nat), u < 128 ^ k -> n + k <= 1000 -> 1 <= n -> varint_Len_j2 n u ((n : Int) + (putL u).length - 1) := by
 intro k
 induction k with
 | zero =>
  intro u n hu hk h1
  have : u = 0 := by simpa using hu
  subst this
  refine varint_Len_j2_step _ _ _ ⟨fun h => by simp at h, fun _ => ?_⟩
  rw [putL, if_pos (by omega)]; simp
 | succ k ih =>
  intro u n hu hk h1
  refine varint_Len_j2_step _ _ _ ⟨fun h => ?_, fun h => ?_⟩
  ·simp only [decide_eq_true_eq] at h
   rw [shr7, wI, wrapI (by omega)]
   have := ih (u / 128) (n + 1) (by rw [Nat.pow_succ] at hu; omega) (by omega) (by omega)
   rw [putL, if_neg (by omega), List.length_cons]
   have e : (((n + 1 : Nat) : Int) + (putL (u / 128)).length - 1) = (n : Int) + (((putL (u / 128)).length + 1 : Nat) : Int) - 1 := by omega
   rw [e] at this
   exact this
  ·simp only [decide_eq_false_iff_not] at h
   rw [putL, if_pos (by omega)]; simp
theorem len_is (u : Nat) (hu : u < 18446744073709551616) : varint_Len u ((putS u).size : Int) := by
 have := len_j 10 u 1 (by omega) (by omega) (by omega)
 have e : ((1 : Nat) : Int) + (putL u).length - 1 = ((putS u).size : Int) := by rw [putS, ofI_size]; omega
 rw [e] at this
 exact varint_Len_step _ _ this
theorem rlen_is (u : Nat) (hu : u < 18446744073709551616) : ref01_Len u ((putS u).size : Int) := ref01_Len_step _ _ ⟨_, rput_is u hu, rfl⟩
theorem xor_u64_zero (a : Nat) (h : a < 18446744073709551616) : bitsOf .xor .u64 (a : Int) 0 = a := by
 have e3 : bitsOf .xor .u64 (a : Int) 0 = IntKind.u64.wrap (((BitVec.ofInt 64 (a : Int) ^^^ 0#64).toNat : Nat) : Int) := rfl
 have e1 : ((a : Int) % (2 ^ 64 : Nat)).toNat = a := by omega
 rw [e3, BitVec.xor_zero, BitVec.toNat_ofInt, e1, wrapU (by omega)]
theorem xor_u64_ones (a : Nat) (h : a < 18446744073709551616) : bitsOf .xor .u64 (a : Int) 18446744073709551615 = ((18446744073709551615 - a : Nat) : Int) := by
 have e3 : bitsOf .xor .u64 (a : Int) 18446744073709551615 = IntKind.u64.wrap (((BitVec.ofInt 64 (a : Int) ^^^ BitVec.allOnes 64).toNat : Nat) : Int) := rfl
 have e1 : ((a : Int) % (2 ^ 64 : Nat)).toNat = a := by omega
 rw [e3, BitVec.xor_allOnes, BitVec.toNat_not, BitVec.toNat_ofInt, e1, wrapU (by omega)]
theorem xor_i64_zero (a : Nat) (h : a < 9223372036854775808) : bitsOf .xor .i64 (a : Int) 0 = a := by
 have e3 : bitsOf .xor .i64 (a : Int) 0 = IntKind.i64.wrap (((BitVec.ofInt 64 (a : Int) ^^^ 0#64).toNat : Nat) : Int) := rfl
 have e1 : ((a : Int) % (2 ^ 64 : Nat)).toNat = a := by omega
 rw [e3, BitVec.xor_zero, BitVec.toNat_ofInt, e1, wrapI (by omega)]
theorem xor_i64_ones (a : Nat) (h : a < 9223372036854775808) : bitsOf .xor .i64 (a : Int) (-1) = -(a : Int) - 1 := by
 have e3 : bitsOf .xor .i64 (a : Int) (-1) = IntKind.i64.wrap (((BitVec.ofInt 64 (a : Int) ^^^ BitVec.allOnes 64).toNat : Nat) : Int) := rfl
 have e1 : ((a : Int) % (2 ^ 64 : Nat)).toNat = a := by omega
 rw [e3, BitVec.xor_allOnes, BitVec.toNat_not, BitVec.toNat_ofInt, e1]
 simp [IntKind.wrap, IntKind.signed, IntKind.bits]
 omega
def zigN (n : Int) : Nat := if 0 <= n then (2 * n).toNat else (-2 * n - 1).toNat
def zagI (u : Nat) : Int := if u % 2 = 0 then (u / 2 : Nat) else -((u / 2 : Nat) : Int) - 1
theorem zag_zig (n : Int) : zagI (zigN n) = n := by unfold zagI zigN; split <;> split <;> omega
theorem wU_neg {n : Int} (h : -9223372036854775808 <= n /\ n < 0) : wU n = n + 18446744073709551616 := by simp [wU, IntKind.wrap, IntKind.signed, IntKind.bits]; omega
theorem zig_is (n : Int) (h : -9223372036854775808 <= n /\ n <= 9223372036854775807) : varint_Zig n (zigN n) := by
 refine varint_Zig_step _ _ ?_
 rw [show (2 : Int) ^ min (1 : Int).toNat IntKind.u64.bits = 2 by decide +kernel, show (2 : Int) ^ min (63 : Int).toNat IntKind.i64.bits = 9223372036854775808 by decide +kernel, Int.fdiv_eq_ediv_of_nonneg _ (by omega)]
 unfold zigN
 rcases Int.lt_or_le n 0 with hn | hn
 ·rw [if_neg (by omega)]
  have e1 : n / 9223372036854775808 = -1 := by omega
  have e2 : wU (-1) = 18446744073709551615 := by decide +kernel
  have e3 : wU n = n + 18446744073709551616 := wU_neg ⟨h.1, hn⟩
  have e4 : wU ((n + 18446744073709551616) * 2) = (((n + 9223372036854775808) * 2).toNat : Int) := by
   simp [wU, IntKind.wrap, IntKind.signed, IntKind.bits]; omega
  rw [e1, e2, e3, e4, xor_u64_ones _ (by omega)]
  omega
 ·rw [if_pos hn]
  have e1 : n / 9223372036854775808 = 0 := by omega
  have e2 : wU 0 = 0 := by decide +kernel
  have e3 : wU n = n := wrapU (by omega)
  have e4 : wU (n * 2) = ((2 * n).toNat : Int) := by rw [wU, wrapU (by omega)]; omega
  rw [e1, e2, e3, e4, xor_u64_zero _ (by omega)]
theorem rzig_is (n : Int) (h : -9223372036854775808 <= n /\ n <= 9223372036854775807) : ref01_Zig n (zigN n) := by
 refine ref01_Zig_step _ _ ⟨fun hh => ?_, fun hh => ?_⟩
 ·simp only [decide_eq_true_eq] at hh
  have e3 : wU n = n := wrapU (by omega)
  rw [zigN, if_pos hh, e3, wU, wrapU (by omega)]; omega
 ·simp only [decide_eq_false_iff_not] at hh
  have e1 : wI (n + 1) = n + 1 := wrapI (by omega)
  have e2 : wI (0 - (n + 1)) = 0 - (n + 1) := wrapI (by omega)
  have e3 : wU (0 - (n + 1)) = 0 - (n + 1) := wrapU (by omega)
  have e4 : wU (2 * (0 - (n + 1))) = 2 * (0 - (n + 1)) := wrapU (by omega)
  rw [zigN, if_neg hh, e1, e2, e3, e4, wU, wrapU (by omega)]; omega
theorem zag_is (u : Nat) (h : u < 18446744073709551616) : varint_Zag u (zagI u) := by
 refine varint_Zag_step _ _ ?_
 have e0 : (u : Int).fdiv (2 ^ min (1 : Int).toNat IntKind.u64.bits) = ((u / 2 : Nat) : Int) := by
  rw [show (2 : Int) ^ min (1 : Int).toNat IntKind.u64.bits = ((2 : Nat) : Int) by decide +kernel, Int.fdiv_eq_ediv_of_nonneg _ (by omega)]; rfl
 have e1 : bitsOf .and .u64 (u : Int) 1 = ((u % 2 : Nat) : Int) := by
  have := bits_and_u64 u 1 h (by omega)
  rw [Nat.and_one_is_mod] at this
  exact this
 have e2 : wI ((u / 2 : Nat) : Int) = ((u / 2 : Nat) : Int) := wrapI (by omega)
 rw [e0, e1, e2]
 have e3 : wI ((u % 2 : Nat) : Int) = ((u % 2 : Nat) : Int) := wrapI (by omega)
 rw [e3]
 unfold zagI
 rcases Nat.mod_two_eq_zero_or_one u with h2 | h2
 ·rw [h2, if_pos rfl, show wI (0 - ((0 : Nat) : Int)) = 0 by decide +kernel, xor_i64_zero _ (by omega)]
 ·rw [h2, if_neg (by omega), show wI (0 - ((1 : Nat) : Int)) = -1 by decide +kernel, xor_i64_ones _ (by omega)]
theorem rzag_is (u : Nat) (h : u < 18446744073709551616) : ref01_Zag u (zagI u) := by
 have e1 : (u : Int).tdiv 2 = ((u / 2 : Nat) : Int) := rfl
 have e2 : (u : Int).tmod 2 = ((u % 2 : Nat) : Int) := rfl
 have e3 : wU ((u / 2 : Nat) : Int) = ((u / 2 : Nat) : Int) := wrapU (by omega)
 have e4 : wI ((u / 2 : Nat) : Int) = ((u / 2 : Nat) : Int) := wrapI (by omega)
 refine ref01_Zag_step _ _ ⟨fun hh => ?_, fun hh => ?_⟩
 ·rw [e2] at hh
  simp only [beq_iff_eq] at hh
  rw [e1, e3, e4, zagI, if_pos (by omega)]
 ·rw [e2] at hh
  simp only [beq_eq_false_iff_ne] at hh
  have e5 : wI (0 - ((u / 2 : Nat) : Int)) = 0 - ((u / 2 : Nat) : Int) := wrapI (by omega)
  rw [e1, e3, e4, e5, zagI, if_neg (by omega), wI, wrapI (by omega)]; omega
theorem takeS_lt (s : ByteArray) : ∀ n i u : Nat, 10 - i = n -> i <= 9 -> u < 128 ^ i -> (takeS s i u).1 < 18446744073709551616 := by
 intro n
 induction n with
 | zero => intro i u h1 h2; omega
 | succ n ih =>
  intro i u h1 h2 hu
  have hb := byteN_eq s i
  rw [takeS.eq_def, if_neg (by omega)]
  split
  ·decide
  split
  ·decide
  rename_i h9
  obtain ⟨p1, p2, p3⟩ := pow128 h2
  split
  ·rename_i hlt
   rcases Nat.lt_or_ge i 9 with h | h
   ·have := p3 (by omega)
    have hm : byteN s i * 128 ^ i <= 127 * 128 ^ i := Nat.mul_le_mul_right _ (by omega)
    rw [Nat.pow_succ] at this
    simp only; omega
   ·have h' : i = 9 := by omega
    subst h'
    have : byteN s 9 <= 1 := by omega
    have hm : byteN s 9 * 128 ^ 9 <= 1 * 128 ^ 9 := Nat.mul_le_mul_right _ this
    simp only; omega
  ·rename_i hge
   have h8 : i <= 8 := by
    rcases Nat.lt_or_ge i 9 with h | h
    ·omega
    ·exact (h9 ⟨by omega, by omega⟩).elim
   have hm : byteN s i % 128 * 128 ^ i <= 127 * 128 ^ i := Nat.mul_le_mul_right _ (by omega)
   exact ih (i + 1) _ (by omega) (by omega) (by rw [Nat.pow_succ]; omega)
def numR (c : GCursor) : Int × GCursor × Int :=
 if (takeS (restS c) 0 0).2.2 = 0 then if (takeS (restS c) 0 0).2.1 = (putS (takeS (restS c) 0 0).1).size then ((takeS (restS c) 0 0).1, behindC c (takeS (restS c) 0 0).2.1, 0) else (0, c, 5) else (0, c, (takeS (restS c) 0 0).2.2)
theorem number_is (c : GCursor) (hc : OkC c) : row_number c (numR c) := by
 have hl := takeS_lt (restS c) 10 0 0 rfl (by omega) (by decide)
 have hr := (takeS_room (restS c) 10 0 0 rfl).1
 have hz := hc.rest
 have hs := spent_le c hc
 refine row_number_step _ _ ⟨_, varint_is c hc, fun h => ?_, fun h => ?_⟩
 ·have h0 : (takeS (restS c) 0 0).2.2 ≠ 0 := by
   intro h0
   simp [varR, h0] at h
  rw [numR, if_neg h0]
  simp only [varR, if_neg h0]
 ·have h0 : (takeS (restS c) 0 0).2.2 = 0 := by
   rcases Nat.eq_zero_or_pos (takeS (restS c) 0 0).2.2 with h0 | h0
   ·exact h0
   ·have : ¬ (takeS (restS c) 0 0).2.2 = 0 := by omega
    simp only [varR, if_neg this] at h
    simp at h
    omega
  simp only [varR, if_pos h0, numR]
  refine ⟨_, len_is _ hl, fun h1 => ?_, fun h1 => ?_⟩
  ·rw [if_neg]
   intro h2
   rw [← h2] at h1
   have e : wI ((behindC c (takeS (restS c) 0 0).2.1).At - c.At) = ((takeS (restS c) 0 0).2.1 : Int) := by
    show wI (c.At + _ - c.At) = _
    rw [wI, wrapI (by omega)]; omega
   rw [e] at h1
   simp at h1
  ·have e : wI ((behindC c (takeS (restS c) 0 0).2.1).At - c.At) = ((takeS (restS c) 0 0).2.1 : Int) := by
    show wI (c.At + _ - c.At) = _
    rw [wI, wrapI (by omega)]; omega
   rw [e] at h1
   simp only [bne_eq_false_iff_eq] at h1
   rw [if_pos (by omega)]
theorem rnumber_is (c : GCursor) (hc : OkC c) : ref28_number c (numR c) := by
 have hl := takeS_lt (restS c) 10 0 0 rfl (by omega) (by decide)
 have hr := (takeS_room (restS c) 10 0 0 rfl).1
 have hz := hc.rest
 have hs := spent_le c hc
 refine ref28_number_step _ _ ⟨_, rvarint_is c hc, fun h => ?_, fun h => ?_⟩
 ·have h0 : (takeS (restS c) 0 0).2.2 ≠ 0 := by
   intro h0
   simp [varR, h0] at h
  rw [numR, if_neg h0]
  simp only [varR, if_neg h0]
 ·have h0 : (takeS (restS c) 0 0).2.2 = 0 := by
   rcases Nat.eq_zero_or_pos (takeS (restS c) 0 0).2.2 with h0 | h0
   ·exact h0
   ·have : ¬ (takeS (restS c) 0 0).2.2 = 0 := by omega
    simp only [varR, if_neg this] at h
    simp at h
    omega
  simp only [varR, if_pos h0, numR]
  refine ⟨_, rlen_is _ hl, fun h1 => ?_, fun h1 => ?_⟩
  ·rw [if_neg]
   intro h2
   rw [← h2] at h1
   have e : wI ((behindC c (takeS (restS c) 0 0).2.1).At - c.At) = ((takeS (restS c) 0 0).2.1 : Int) := by
    show wI (c.At + _ - c.At) = _
    rw [wI, wrapI (by omega)]; omega
   rw [e] at h1
   simp at h1
  ·have e : wI ((behindC c (takeS (restS c) 0 0).2.1).At - c.At) = ((takeS (restS c) 0 0).2.1 : Int) := by
    show wI (c.At + _ - c.At) = _
    rw [wI, wrapI (by omega)]; omega
   rw [e] at h1
   simp only [bne_eq_false_iff_eq] at h1
   rw [if_pos (by omega)]
theorem and_mant (a : Nat) : a &&& 4503599627370495 = a % 4503599627370496 := Nat.and_two_pow_sub_one_eq_mod a 52
theorem class_is (z : Nat) (hz : z < 18446744073709551616) : scalar_Class z (clsS z) := by
 have e1 : bitsOf .and .u64 (z : Int) 9218868437227405312 = ((z % 9223372036854775808 / 4503599627370496 * 4503599627370496 : Nat) : Int) := by
  have := bits_and_u64 z 9218868437227405312 hz (by omega)
  rw [and_exp] at this
  exact this
 have e2 : bitsOf .and .u64 (z : Int) 4503599627370495 = ((z % 4503599627370496 : Nat) : Int) := by
  have := bits_and_u64 z 4503599627370495 hz (by omega)
  rw [and_mant] at this
  exact this
 refine scalar_Class_step _ _ ?_
 rw [e1, e2]
 simp only [Bool.and_eq_true, Bool.and_eq_false_iff, beq_iff_eq, beq_eq_false_iff_ne, bne_iff_ne, bne_eq_false_iff_eq]
 unfold clsS
 refine ⟨fun h => ?_, fun h => ⟨fun h2 => ?_, fun h2 => ⟨fun h3 => ?_, fun h3 => ⟨fun h4 => ?_, fun h4 => ?_⟩⟩⟩⟩
 all_goals (repeat' split) <;> first | rfl | (exfalso; omega)
theorem rclass_is (z : Nat) (hz : z < 18446744073709551616) : ref04_Class z (clsS z) := by
 have e : (z : Int).tmod 9223372036854775808 = ((z % 9223372036854775808 : Nat) : Int) := rfl
 refine ref04_Class_step _ _ ?_
 rw [e]
 simp only [decide_eq_true_eq, decide_eq_false_iff_not, beq_iff_eq, beq_eq_false_iff_ne]
 unfold clsS
 refine ⟨fun h => ?_, fun h => ⟨fun h2 => ?_, fun h2 => ⟨fun h3 => ?_, fun h3 => ⟨fun h4 => ?_, fun h4 => ?_⟩⟩⟩⟩
 all_goals (repeat' split) <;> first | rfl | (exfalso; omega)
def normV (v : GValue) : GValue := if v.Kind = 6 /\ clsS v.Bits.toNat = 0 then ⟨v.Kind, 9221120237041090560, v.Text, v.List_, v.Pairs, v.Slots, v.Raws⟩ else v
theorem norm_is (v : GValue) (hb : 0 <= v.Bits /\ v.Bits < 18446744073709551616) : scalar_Norm v (normV v) := by
 have hz : v.Bits = (v.Bits.toNat : Int) := by omega
 have hc := class_is v.Bits.toNat (by omega)
 rw [← hz] at hc
 refine scalar_Norm_step _ _ ⟨fun h => ⟨_, hc, fun h2 => ?_, fun h2 => ?_⟩, fun h => ?_⟩
 all_goals simp only [beq_iff_eq, beq_eq_false_iff_ne] at *
 ·rw [normV, if_pos ⟨h, by omega⟩]
 ·rw [normV, if_neg (by omega)]
 ·rw [normV, if_neg (by omega)]
theorem rnorm_is (v : GValue) (hb : 0 <= v.Bits /\ v.Bits < 18446744073709551616) : ref04_Norm v (normV v) := by
 have hz : v.Bits = (v.Bits.toNat : Int) := by omega
 have hc := rclass_is v.Bits.toNat (by omega)
 rw [← hz] at hc
 refine ref04_Norm_step _ _ ⟨fun h => ⟨_, hc, fun h2 => ?_, fun h2 => ?_⟩, fun h => ?_⟩
 all_goals simp only [beq_iff_eq, beq_eq_false_iff_ne] at *
 ·rw [normV, if_pos ⟨h, by omega⟩]
 ·rw [normV, if_neg (by omega)]
 ·rw [normV, if_neg (by omega)]
def fixL (u : Nat) (n : Nat) : List Int := (List.range n).map fun i => ((u / 256 ^ i % 256 : Nat) : Int)
theorem fixL_bytes (u n : Nat) : bytesL (fixL u n) := fun x hx => by
 obtain ⟨i, _, rfl⟩ := List.mem_map.1 hx
 omega
theorem fixL_succ (u n : Nat) : fixL u (n + 1) = fixL u n ++ [((u / 256 ^ n % 256 : Nat) : Int)] := by simp [fixL, List.range_succ]
def fixW (u : Nat) : ByteArray := ofI (fixL u 8)
theorem fixedw_j (u : Nat) : ∀ n i : Nat, 8 - i = n -> i <= 8 -> varint_Fixed_j2 i u (fixL u i ++ List.replicate (8 - i) 0) (fixW u) := by
 intro n
 induction n with
 | zero =>
  intro i h1 h2
  have : i = 8 := by omega
  subst this
  refine varint_Fixed_j2_step _ _ _ _ ⟨fun h => by simp at h, fun _ => ⟨by simp [fixL], _, ?_, rfl⟩⟩
  simp only [Nat.sub_self, List.replicate_zero, List.append_nil]
  exact bI_ofI (fixL_bytes u 8)
 | succ n ih =>
  intro i h1 h2
  obtain ⟨hp, h0⟩ := pow8 (show i <= 7 by omega)
  have hn : ((i : Int)).toNat = i := by omega
  have hl : (fixL u i).length = i := by simp [fixL]
  refine varint_Fixed_j2_step _ _ _ _ ⟨fun _ => ⟨h0, ⟨by omega, by omega⟩, by simp [hl]; omega, ?_⟩, fun h => by simp at h; omega⟩
  have e1 : (u : Int).fdiv ((256 ^ i : Nat) : Int) = ((u / 256 ^ i : Nat) : Int) := by
   rw [Int.fdiv_eq_ediv_of_nonneg _ (Int.natCast_nonneg _)]; rfl
  rw [hp, e1, wrap8, hn, wI, wrapI (by omega)]
  have := ih (i + 1) (by omega) (by omega)
  rw [fixL_succ] at this
  have e2 : (fixL u i ++ List.replicate (8 - i) (0 : Int)).set i ((u / 256 ^ i % 256 : Nat) : Int) = fixL u i ++ [((u / 256 ^ i % 256 : Nat) : Int)] ++ List.replicate (8 - (i + 1)) 0 := by
   rw [List.set_append_right _ _ (by omega), hl, Nat.sub_self, show 8 - i = (8 - (i + 1)) + 1 by omega, List.replicate_succ, List.set_cons_zero, List.append_assoc]
   rfl
  rw [e2]
  exact this
theorem fixedw_is (u : Nat) : varint_Fixed u (fixW u) := varint_Fixed_step _ _ ⟨by omega, fixedw_j u 8 0 rfl (by omega)⟩
theorem rfixedw_j (u : Nat) (hu : u < 18446744073709551616) : ∀ n i : Nat, 8 - i = n -> i <= 8 -> ref01_Fixed_j2 i (fixL u i) ((u / 256 ^ i : Nat) : Int) (fixW u) := by
 intro n
 induction n with
 | zero =>
  intro i h1 h2
  have : i = 8 := by omega
  subst this
  exact ref01_Fixed_j2_step _ _ _ _ ⟨fun h => by simp at h, fun _ => ⟨_, bI_ofI (fixL_bytes u 8), rfl⟩⟩
 | succ n ih =>
  intro i h1 h2
  have hl : (fixL u i).length = i := by simp [fixL]
  refine ref01_Fixed_j2_step _ _ _ _ ⟨fun _ => ⟨by simp [hl]; omega, ?_⟩, fun h => by simp at h; omega⟩
  have e1 : (((u / 256 ^ i : Nat) : Int)).tmod 256 = ((u / 256 ^ i % 256 : Nat) : Int) := rfl
  have e2 : (((u / 256 ^ i : Nat) : Int)).tdiv 256 = ((u / 256 ^ i / 256 : Nat) : Int) := rfl
  have hle : u / 256 ^ i <= u := Nat.div_le_self _ _
  have e3 : u / 256 ^ i / 256 = u / 256 ^ (i + 1) := by rw [Nat.div_div_eq_div_mul, Nat.pow_succ]
  have e4 : wU ((u / 256 ^ (i + 1) : Nat) : Int) = ((u / 256 ^ (i + 1) : Nat) : Int) := by
   have h5 := Nat.div_le_self u (256 ^ (i + 1))
   generalize u / 256 ^ (i + 1) = q at h5
   exact wrapU (by omega)
  rw [e1, e2, e3, e4, wrap8, Nat.mod_mod, wI, wrapI (by omega)]
  have := ih (i + 1) (by omega) (by omega)
  rw [fixL_succ] at this
  exact this
theorem rfixedw_is (u : Nat) (hu : u < 18446744073709551616) : ref01_Fixed u (fixW u) := by
 have := rfixedw_j u hu 8 0 rfl (by omega)
 simp only [Nat.pow_zero, Nat.div_one] at this
 exact ref01_Fixed_step _ _ this
def sizeN (n b0 b1 b2 b3 : Nat) : Nat :=
 if b0 < 128 then 1
 else if (194 <= b0 /\ b0 <= 223) /\ (1 < n /\ 128 <= b1 /\ b1 <= 191) then 2
 else if b0 = 224 /\ (1 < n /\ 160 <= b1 /\ b1 <= 191) /\ (2 < n /\ 128 <= b2 /\ b2 <= 191) then 3
 else if b0 = 237 /\ (1 < n /\ 128 <= b1 /\ b1 <= 159) /\ (2 < n /\ 128 <= b2 /\ b2 <= 191) then 3
 else if (225 <= b0 /\ b0 <= 239 /\ b0 ≠ 237) /\ (1 < n /\ 128 <= b1 /\ b1 <= 191) /\ (2 < n /\ 128 <= b2 /\ b2 <= 191) then 3
 else if b0 = 240 /\ (1 < n /\ 144 <= b1 /\ b1 <= 191) /\ (2 < n /\ 128 <= b2 /\ b2 <= 191) /\ (3 < n /\ 128 <= b3 /\ b3 <= 191) then 4
 else if (241 <= b0 /\ b0 <= 243) /\ (1 < n /\ 128 <= b1 /\ b1 <= 191) /\ (2 < n /\ 128 <= b2 /\ b2 <= 191) /\ (3 < n /\ 128 <= b3 /\ b3 <= 191) then 4
 else if b0 = 244 /\ (1 < n /\ 128 <= b1 /\ b1 <= 143) /\ (2 < n /\ 128 <= b2 /\ b2 <= 191) /\ (3 < n /\ 128 <= b3 /\ b3 <= 191) then 4
 else 0
theorem sizeN_le (n b0 b1 b2 b3 : Nat) (hn : 1 <= n) : sizeN n b0 b1 b2 b3 <= n := by
 unfold sizeN
 repeat' split
 all_goals omega
def okN (n b0 b1 b2 : Nat) (x : Nat × Nat) : Nat := if x.1 = 65533 /\ ¬ (2 < n /\ b0 = 239 /\ b1 = 191 /\ b2 = 189) then 0 else x.2
theorem okN_bad {n b0 b1 b2 k : Nat} (h : ¬ (2 < n /\ b0 = 239 /\ b1 = 191 /\ b2 = 189)) : okN n b0 b1 b2 (65533, k) = 0 := by unfold okN; rw [if_pos ⟨rfl, h⟩]
theorem okN_good {n b0 b1 b2 c k : Nat} (h : c ≠ 65533 ∨ (2 < n /\ b0 = 239 /\ b1 = 191 /\ b2 = 189)) : okN n b0 b1 b2 (c, k) = k := by
 unfold okN; rw [if_neg]; intro ⟨h1, h2⟩; rcases h with h | h
 ·exact h h1
 ·exact h2 h
theorem utf_2 (n b0 b1 b2 b3 : Nat) (hb : 194 <= b0 /\ b0 <= 223) (h1 : b1 < 256) : sizeN n b0 b1 b2 b3 = okN n b0 b1 b2 (Lib.decodeN n b0 b1 b2 b3) := by
 by_cases h : 1 < n /\ 128 <= b1 /\ b1 <= 191
 ·have e1 : sizeN n b0 b1 b2 b3 = 2 := by unfold sizeN; rw [if_neg (by omega), if_pos (by omega)]
  have e2 : Lib.decodeN n b0 b1 b2 b3 = (b0 % 32 * 64 + b1 % 64, 2) := by unfold Lib.decodeN; rw [if_neg (by omega), if_pos (by omega), if_pos (by omega)]
  rw [e1, e2, okN_good (by omega)]
 ·have e1 : sizeN n b0 b1 b2 b3 = 0 := by unfold sizeN; rw [if_neg (by omega), if_neg (by omega), if_neg (by omega), if_neg (by omega), if_neg (by omega), if_neg (by omega), if_neg (by omega), if_neg (by omega)]
  have e2 : Lib.decodeN n b0 b1 b2 b3 = (65533, 1) := by unfold Lib.decodeN; rw [if_neg (by omega), if_neg (by omega), if_neg (by omega), if_neg (by omega)]
  rw [e1, e2, okN_bad (by omega)]
theorem utf_0 (n b0 b1 b2 b3 : Nat) (hb : (128 <= b0 /\ b0 < 194) ∨ 245 <= b0) (h0 : b0 < 256) : sizeN n b0 b1 b2 b3 = okN n b0 b1 b2 (Lib.decodeN n b0 b1 b2 b3) := by
 have e : Lib.decodeN n b0 b1 b2 b3 = (65533, 1) := by
  unfold Lib.decodeN
  rw [if_neg (by omega)]
  by_cases c1 : b0 / 32 = 6 /\ (1 < n /\ b1 / 64 = 2)
  ·rw [if_pos c1, if_neg (by omega)]
  ·rw [if_neg c1, if_neg (by omega)]
   by_cases c2 : b0 / 8 = 30 /\ (1 < n /\ b1 / 64 = 2) /\ (2 < n /\ b2 / 64 = 2) /\ (3 < n /\ b3 / 64 = 2)
   ·rw [if_pos c2, if_neg (by omega)]
   ·rw [if_neg c2]
 rw [e, okN_bad (by omega)]
 unfold sizeN
 rw [if_neg (by omega), if_neg (by omega), if_neg (by omega), if_neg (by omega), if_neg (by omega), if_neg (by omega), if_neg (by omega), if_neg (by omega)]
theorem utf_3 (n b0 b1 b2 b3 : Nat) (hb : 224 <= b0 /\ b0 <= 239) (h1 : b1 < 256) (h2 : b2 < 256) : sizeN n b0 b1 b2 b3 = okN n b0 b1 b2 (Lib.decodeN n b0 b1 b2 b3) := by
 by_cases c : (1 < n /\ b1 / 64 = 2) /\ (2 < n /\ b2 / 64 = 2)
 ·by_cases d0 : b0 = 224
  ·by_cases d1 : 160 <= b1
   ·have e1 : sizeN n b0 b1 b2 b3 = 3 := by unfold sizeN; rw [if_neg (by omega), if_neg (by omega), if_pos (by omega)]
    have e2 : Lib.decodeN n b0 b1 b2 b3 = (b0 % 16 * 4096 + b1 % 64 * 64 + b2 % 64, 3) := by unfold Lib.decodeN; rw [if_neg (by omega), if_neg (by omega), if_pos (by omega), if_pos (by omega)]
    rw [e1, e2, okN_good (by omega)]
   ·have e1 : sizeN n b0 b1 b2 b3 = 0 := by unfold sizeN; rw [if_neg (by omega), if_neg (by omega), if_neg (by omega), if_neg (by omega), if_neg (by omega), if_neg (by omega), if_neg (by omega), if_neg (by omega)]
    have e2 : Lib.decodeN n b0 b1 b2 b3 = (65533, 1) := by unfold Lib.decodeN; rw [if_neg (by omega), if_neg (by omega), if_pos (by omega), if_neg (by omega)]
    rw [e1, e2, okN_bad (by omega)]
  ·by_cases d2 : b0 = 237
   ·by_cases d3 : b1 <= 159
    ·have e1 : sizeN n b0 b1 b2 b3 = 3 := by unfold sizeN; rw [if_neg (by omega), if_neg (by omega), if_neg (by omega), if_pos (by omega)]
     have e2 : Lib.decodeN n b0 b1 b2 b3 = (b0 % 16 * 4096 + b1 % 64 * 64 + b2 % 64, 3) := by unfold Lib.decodeN; rw [if_neg (by omega), if_neg (by omega), if_pos (by omega), if_pos (by omega)]
     rw [e1, e2, okN_good (by omega)]
    ·have e1 : sizeN n b0 b1 b2 b3 = 0 := by unfold sizeN; rw [if_neg (by omega), if_neg (by omega), if_neg (by omega), if_neg (by omega), if_neg (by omega), if_neg (by omega), if_neg (by omega), if_neg (by omega)]
     have e2 : Lib.decodeN n b0 b1 b2 b3 = (65533, 1) := by unfold Lib.decodeN; rw [if_neg (by omega), if_neg (by omega), if_pos (by omega), if_neg (by omega)]
     rw [e1, e2, okN_bad (by omega)]
   ·have e1 : sizeN n b0 b1 b2 b3 = 3 := by unfold sizeN; rw [if_neg (by omega), if_neg (by omega), if_neg (by omega), if_neg (by omega), if_pos (by omega)]
    have e2 : Lib.decodeN n b0 b1 b2 b3 = (b0 % 16 * 4096 + b1 % 64 * 64 + b2 % 64, 3) := by unfold Lib.decodeN; rw [if_neg (by omega), if_neg (by omega), if_pos (by omega), if_pos (by omega)]
    rw [e1, e2, okN_good (by omega)]
 ·have e1 : sizeN n b0 b1 b2 b3 = 0 := by unfold sizeN; rw [if_neg (by omega), if_neg (by omega), if_neg (by omega), if_neg (by omega), if_neg (by omega), if_neg (by omega), if_neg (by omega), if_neg (by omega)]
  have e2 : Lib.decodeN n b0 b1 b2 b3 = (65533, 1) := by unfold Lib.decodeN; rw [if_neg (by omega), if_neg (by omega), if_neg (by omega), if_neg (by omega)]
  rw [e1, e2, okN_bad (by omega)]
theorem utf_4 (n b0 b1 b2 b3 : Nat) (hb : 240 <= b0 /\ b0 <= 244) (h1 : b1 < 256) (h2 : b2 < 256) (h3 : b3 < 256) : sizeN n b0 b1 b2 b3 = okN n b0 b1 b2 (Lib.decodeN n b0 b1 b2 b3) := by
 by_cases c : (1 < n /\ b1 / 64 = 2) /\ (2 < n /\ b2 / 64 = 2) /\ (3 < n /\ b3 / 64 = 2)
 ·by_cases d0 : b0 = 240
  ·by_cases d1 : 144 <= b1
   ·have e1 : sizeN n b0 b1 b2 b3 = 4 := by unfold sizeN; rw [if_neg (by omega), if_neg (by omega), if_neg (by omega), if_neg (by omega), if_neg (by omega), if_pos (by omega)]
    have e2 : Lib.decodeN n b0 b1 b2 b3 = (b0 % 8 * 262144 + b1 % 64 * 4096 + b2 % 64 * 64 + b3 % 64, 4) := by unfold Lib.decodeN; rw [if_neg (by omega), if_neg (by omega), if_neg (by omega), if_pos (by omega), if_pos (by omega)]
    rw [e1, e2, okN_good (by omega)]
   ·have e1 : sizeN n b0 b1 b2 b3 = 0 := by unfold sizeN; rw [if_neg (by omega), if_neg (by omega), if_neg (by omega), if_neg (by omega), if_neg (by omega), if_neg (by omega), if_neg (by omega), if_neg (by omega)]
    have e2 : Lib.decodeN n b0 b1 b2 b3 = (65533, 1) := by unfold Lib.decodeN; rw [if_neg (by omega), if_neg (by omega), if_neg (by omega), if_pos (by omega), if_neg (by omega)]
    rw [e1, e2, okN_bad (by omega)]
  ·by_cases d2 : b0 = 244
   ·by_cases d3 : b1 <= 143
    ·have e1 : sizeN n b0 b1 b2 b3 = 4 := by unfold sizeN; rw [if_neg (by omega), if_neg (by omega), if_neg (by omega), if_neg (by omega), if_neg (by omega), if_neg (by omega), if_neg (by omega), if_pos (by omega)]
     have e2 : Lib.decodeN n b0 b1 b2 b3 = (b0 % 8 * 262144 + b1 % 64 * 4096 + b2 % 64 * 64 + b3 % 64, 4) := by unfold Lib.decodeN; rw [if_neg (by omega), if_neg (by omega), if_neg (by omega), if_pos (by omega), if_pos (by omega)]
     rw [e1, e2, okN_good (by omega)]
    ·have e1 : sizeN n b0 b1 b2 b3 = 0 := by unfold sizeN; rw [if_neg (by omega), if_neg (by omega), if_neg (by omega), if_neg (by omega), if_neg (by omega), if_neg (by omega), if_neg (by omega), if_neg (by omega)]
     have e2 : Lib.decodeN n b0 b1 b2 b3 = (65533, 1) := by unfold Lib.decodeN; rw [if_neg (by omega), if_neg (by omega), if_neg (by omega), if_pos (by omega), if_neg (by omega)]
     rw [e1, e2, okN_bad (by omega)]
   ·have e1 : sizeN n b0 b1 b2 b3 = 4 := by unfold sizeN; rw [if_neg (by omega), if_neg (by omega), if_neg (by omega), if_neg (by omega), if_neg (by omega), if_neg (by omega), if_pos (by omega)]
    have e2 : Lib.decodeN n b0 b1 b2 b3 = (b0 % 8 * 262144 + b1 % 64 * 4096 + b2 % 64 * 64 + b3 % 64, 4) := by unfold Lib.decodeN; rw [if_neg (by omega), if_neg (by omega), if_neg (by omega), if_pos (by omega), if_pos (by omega)]
    rw [e1, e2, okN_good (by omega)]
 ·have e1 : sizeN n b0 b1 b2 b3 = 0 := by unfold sizeN; rw [if_neg (by omega), if_neg (by omega), if_neg (by omega), if_neg (by omega), if_neg (by omega), if_neg (by omega), if_neg (by omega), if_neg (by omega)]
  have e2 : Lib.decodeN n b0 b1 b2 b3 = (65533, 1) := by unfold Lib.decodeN; rw [if_neg (by omega), if_neg (by omega), if_neg (by omega), if_neg (by omega)]
  rw [e1, e2, okN_bad (by omega)]
theorem sizeN_decode (n b0 b1 b2 b3 : Nat) (h0 : b0 < 256) (h1 : b1 < 256) (h2 : b2 < 256) (h3 : b3 < 256) :
  sizeN n b0 b1 b2 b3 = if (Lib.decodeN n b0 b1 b2 b3).1 = 65533 /\ ¬ (2 < n /\ b0 = 239 /\ b1 = 191 /\ b2 = 189) then 0 else (Lib.decodeN n b0 b1 b2 b3).2 := by
 show _ = okN n b0 b1 b2 _
 by_cases c0 : b0 < 128
 ·unfold sizeN Lib.decodeN
  rw [if_pos c0, if_pos c0, okN_good (by omega)]
 by_cases c1 : b0 < 194
 ·exact utf_0 n b0 b1 b2 b3 (by omega) h0
 by_cases c2 : b0 < 224
 ·exact utf_2 n b0 b1 b2 b3 (by omega) h1
 by_cases c3 : b0 < 240
 ·exact utf_3 n b0 b1 b2 b3 (by omega) h1 h2
 by_cases c4 : b0 < 245
 ·exact utf_4 n b0 b1 b2 b3 (by omega) h1 h2 h3
 ·exact utf_0 n b0 b1 b2 b3 (by omega) h0
def sizeAt (s : ByteArray) (i : Nat) : Nat := sizeN (s.size - i) (s.get! i).toNat (s.get! (i + 1)).toNat (s.get! (i + 2)).toNat (s.get! (i + 3)).toNat
theorem sizeAt_le (s : ByteArray) (i : Nat) (h : i < s.size) : i + sizeAt s i <= s.size := by
 have := sizeN_le (s.size - i) (s.get! i).toNat (s.get! (i + 1)).toNat (s.get! (i + 2)).toNat (s.get! (i + 3)).toNat (by omega)
 unfold sizeAt
 omega
theorem sizeAt_decode (s : ByteArray) (i : Nat) : sizeAt s i = if (Utf8.decode s i).1 = 65533 /\ ¬ (2 < s.size - i /\ (s.get! i).toNat = 239 /\ (s.get! (i + 1)).toNat = 191 /\ (s.get! (i + 2)).toNat = 189) then 0 else (Utf8.decode s i).2 := by
 rw [Lib.decode_at]
 exact sizeN_decode _ _ _ _ _ (UInt8.toNat_lt _) (UInt8.toNat_lt _) (UInt8.toNat_lt _) (UInt8.toNat_lt _)
def badFrom (s : ByteArray) : Nat -> Nat -> Int
 | 0, _ => -1
 | f + 1, p => if p < s.size then (if sizeAt s p = 0 then p else badFrom s f (p + sizeAt s p)) else -1
def badZ (s : ByteArray) : Int := badFrom s s.size 0
theorem badFrom_more (s : ByteArray) : ∀ (f g p : Nat), s.size - p <= f -> s.size - p <= g -> badFrom s f p = badFrom s g p
 | 0, 0, _, _, _ => rfl
 | 0, g + 1, p, h, _ => by
  simp only [badFrom]; rw [if_neg (by omega)]
 | f + 1, 0, p, _, h => by
  simp only [badFrom]; rw [if_neg (by omega)]
 | f + 1, g + 1, p, h, h' => by
  simp only [badFrom]
  by_cases hp : p < s.size
  ·rw [if_pos hp, if_pos hp]
   by_cases h0 : sizeAt s p = 0
   ·rw [if_pos h0, if_pos h0]
   ·rw [if_neg h0, if_neg h0]
    exact badFrom_more s f g _ (by omega) (by omega)
  ·rw [if_neg hp, if_neg hp]
def badAt (s : ByteArray) (p : Nat) : Int := badFrom s (s.size - p) p
theorem badAt_end (s : ByteArray) (p : Nat) (h : s.size <= p) : badAt s p = -1 := by
 unfold badAt
 rw [show s.size - p = 0 by omega]; rfl
theorem badAt_bad (s : ByteArray) (p : Nat) (h : p < s.size) (h0 : sizeAt s p = 0) : badAt s p = p := by
 unfold badAt
 rw [show s.size - p = (s.size - p - 1) + 1 by omega]
 simp only [badFrom]
 rw [if_pos h, if_pos h0]
theorem badAt_on (s : ByteArray) (p : Nat) (h : p < s.size) (h0 : sizeAt s p ≠ 0) : badAt s p = badAt s (p + sizeAt s p) := by
 unfold badAt
 rw [show s.size - p = (s.size - p - 1) + 1 by omega]
 simp only [badFrom]
 rw [if_pos h, if_neg h0]
 exact badFrom_more s _ _ _ (by omega) (by omega)
def validB (s : ByteArray) : Bool := decide (badZ s < 0)
theorem byteN_get (s : ByteArray) (i : Nat) : byteN s i = (s.get! i).toNat := by
 unfold byteN byteAt
 have : s.data.toList.getD i 0 = s.get! i := by
  rw [List.getD_eq_getElem?_getD]
  show _ = s.data[i]!
  rw [getElem!_def, Array.getElem?_toList]
  cases s.data[i]? <;> rfl
 rw [this]; omega
def btw (s : ByteArray) (i lo hi : Nat) : Bool := decide (i < s.size /\ lo <= byteN s i /\ byteN s i <= hi)
theorem between_is (s : ByteArray) (i lo hi : Nat) : ref03_between s i lo hi (btw s i lo hi) := by
 have hb := byteN_eq s i
 have hn : ((i : Int)).toNat = i := by omega
 refine ref03_between_step _ _ _ _ _ ⟨fun b => b = decide (i < s.size /\ lo <= byteN s i), fun b hR => ⟨fun h => ?_, fun h => ?_⟩, fun h => ?_, fun h => ?_⟩
 ·rw [h] at hR
  have h2 := of_decide_eq_true hR.symm
  refine ⟨⟨by omega, by omega⟩, ?_⟩
  rw [hn, hb.1]
  unfold btw
  congr 1
  simp only [eq_iff_iff]
  omega
 ·rw [h] at hR
  have h2 := of_decide_eq_false hR.symm
  exact decide_eq_false (by omega)
 ·simp only [decide_eq_true_eq] at h
  refine ⟨⟨by omega, h⟩, ?_⟩
  rw [hn, hb.1]
  congr 1
  simp only [eq_iff_iff]
  omega
 ·simp only [decide_eq_false_iff_not] at h
  exact (decide_eq_false (by omega)).symm
def tailN (s : ByteArray) (i : Nat) : Nat -> Bool
 | 0 => true
 | n + 1 => btw s i 128 191 && tailN s (i + 1) n
theorem tail_j (s : ByteArray) (hz : s.size <= 140737488351232) (i : Nat) (hi : i <= 140737488351300) : ∀ m j : Nat, j <= 4 -> j + m <= 4 -> ref03_tail_j2 j s i ((j + m : Nat) : Int) (tailN s (i + j) m) := by
 intro m
 induction m with
 | zero =>
  intro j h1 h2
  exact ref03_tail_j2_step _ _ _ _ _ ⟨fun h => by simp at h, fun _ => rfl⟩
 | succ m ih =>
  intro j h1 h2
  refine ref03_tail_j2_step _ _ _ _ _ ⟨fun _ => ?_, fun h => by simp at h; omega⟩
  have e : wI ((i : Int) + j) = ((i + j : Nat) : Int) := by rw [wI, wrapI (by omega)]; omega
  rw [e]
  refine ⟨_, between_is s (i + j) 128 191, fun h => ?_, fun h => ?_⟩
  ·have : btw s (i + j) 128 191 = false := by simpa using h
   simp [tailN, this]
  ·have : btw s (i + j) 128 191 = true := by simpa using h
   rw [wI, wrapI (by omega)]
   have h3 := ih (j + 1) (by omega) (by omega)
   rw [tailN, this, Bool.true_and]
   have e2 : i + j + 1 = i + (j + 1) := by omega
   have e3 : j + (m + 1) = j + 1 + m := by omega
   rw [e2, e3]
   exact h3
theorem tail_is (s : ByteArray) (hz : s.size <= 140737488351232) (i n : Nat) (hi : i <= 140737488351300) (hn : n <= 4) : ref03_tail s i n (tailN s i n) := by
 have := tail_j s hz i hi n 0 (by omega) (by omega)
 simp only [Nat.zero_add, Nat.add_zero] at this
 exact ref03_tail_step _ _ _ _ this
def szB (s : ByteArray) (i : Nat) : Nat :=
 if byteN s i < 128 then 1
 else if (decide (194 <= byteN s i /\ byteN s i <= 223) && tailN s (i + 1) 1) = true then 2
 else if (decide (byteN s i = 224) && btw s (i + 1) 160 191 && tailN s (i + 2) 1) = true then 3
 else if (decide (byteN s i = 237) && btw s (i + 1) 128 159 && tailN s (i + 2) 1) = true then 3
 else if (decide (225 <= byteN s i /\ byteN s i <= 239 /\ byteN s i ≠ 237) && tailN s (i + 1) 2) = true then 3
 else if (decide (byteN s i = 240) && btw s (i + 1) 144 191 && tailN s (i + 2) 2) = true then 4
 else if (decide (241 <= byteN s i /\ byteN s i <= 243) && tailN s (i + 1) 3) = true then 4
 else if (decide (byteN s i = 244) && btw s (i + 1) 128 143 && tailN s (i + 2) 2) = true then 4
 else 0
theorem size_is (s : ByteArray) (hz : s.size <= 140737488351232) (i : Nat) (hi : i < s.size) : ref03_Size s i (szB s i) := by
 have hb := byteN_eq s i
 have hn : ((i : Int)).toNat = i := by omega
 have w1 : wI ((i : Int) + 1) = ((i + 1 : Nat) : Int) := by rw [wI, wrapI (by omega)]; omega
 have w2 : wI ((i : Int) + 2) = ((i + 2 : Nat) : Int) := by rw [wI, wrapI (by omega)]; omega
 have tl := fun k n (hk : k <= 4) (hn : n <= 4) => tail_is s hz (i + k) n (by omega) hn
 have bt := fun k lo hi => between_is s (i + k) lo hi
 refine ref03_Size_step _ _ _ ?_
 rw [hn, hb.1, w1, w2]
 unfold szB
 generalize hx : byteN s i = x at *
 refine ⟨⟨by omega, by omega⟩, fun h => ?_, fun h => ?_⟩
 ·rw [if_pos (by simp only [decide_eq_true_eq] at h; omega)]; rfl
 rw [if_neg (by simp only [decide_eq_false_iff_not] at h; omega)]
 refine ⟨fun b => b = (decide (194 <= x /\ x <= 223) && tailN s (i + 1) 1), fun b hR => ?_, fun h => ⟨_, tl 1 1 (by omega) (by omega), ?_⟩, fun h => ?_⟩
 rotate_left
 ·have : (194 <= x /\ x <= 223) := by simp only [Bool.and_eq_true, decide_eq_true_eq] at h; omega
  simp [this]
 ·have : ¬ (194 <= x /\ x <= 223) := by simp only [Bool.and_eq_false_iff, decide_eq_false_iff_not] at h; omega
  simp [this]
 subst hR
 refine ⟨fun h => by rw [if_pos h]; rfl, fun h => ?_⟩
 rw [if_neg (by rw [h]; decide)]
 refine ⟨fun b => b = (decide (x = 224) && btw s (i + 1) 160 191), fun b hR => ?_, fun h => ⟨_, bt 1 160 191, ?_⟩, fun h => ?_⟩
 rotate_left
 ·have : x = 224 := by simp only [beq_iff_eq] at h; omega
  simp [this]
 ·have : ¬ x = 224 := by simp only [beq_eq_false_iff_ne] at h; omega
  simp [this]
 refine ⟨fun b2 => b2 = (b && tailN s (i + 2) 1), fun b2 hR2 => ?_, fun h => ⟨_, tl 2 1 (by omega) (by omega), by rw [h]; rfl⟩, fun h => by rw [h]; rfl⟩
 subst hR2; subst hR
 refine ⟨fun h => by rw [if_pos h]; rfl, fun h => ?_⟩
 rw [if_neg (by rw [h]; decide)]
 refine ⟨fun b => b = (decide (x = 237) && btw s (i + 1) 128 159), fun b hR => ?_, fun h => ⟨_, bt 1 128 159, ?_⟩, fun h => ?_⟩
 rotate_left
 ·have : x = 237 := by simp only [beq_iff_eq] at h; omega
  simp [this]
 ·have : ¬ x = 237 := by simp only [beq_eq_false_iff_ne] at h; omega
  simp [this]
 refine ⟨fun b2 => b2 = (b && tailN s (i + 2) 1), fun b2 hR2 => ?_, fun h => ⟨_, tl 2 1 (by omega) (by omega), by rw [h]; rfl⟩, fun h => by rw [h]; rfl⟩
 subst hR2; subst hR
 refine ⟨fun h => by rw [if_pos h]; rfl, fun h => ?_⟩
 rw [if_neg (by rw [h]; decide)]
 refine ⟨fun b => b = (decide (225 <= x /\ x <= 239 /\ x ≠ 237) && tailN s (i + 1) 2), fun b hR => ?_, fun h => ⟨_, tl 1 2 (by omega) (by omega), ?_⟩, fun h => ?_⟩
 rotate_left
 ·have : (225 <= x /\ x <= 239 /\ x ≠ 237) := by simp only [Bool.and_eq_true, decide_eq_true_eq, bne_iff_ne] at h; omega
  simp [this]
 ·have : ¬ (225 <= x /\ x <= 239 /\ x ≠ 237) := by simp only [Bool.and_eq_false_iff, decide_eq_false_iff_not, bne_eq_false_iff_eq] at h; omega
  have h3 : decide (225 <= x /\ x <= 239 /\ x ≠ 237) = false := decide_eq_false this
  rw [h3]; rfl
 subst hR
 refine ⟨fun h => by rw [if_pos h]; rfl, fun h => ?_⟩
 rw [if_neg (by rw [h]; decide)]
 refine ⟨fun b => b = (decide (x = 240) && btw s (i + 1) 144 191), fun b hR => ?_, fun h => ⟨_, bt 1 144 191, ?_⟩, fun h => ?_⟩
 rotate_left
 ·have : x = 240 := by simp only [beq_iff_eq] at h; omega
  simp [this]
 ·have : ¬ x = 240 := by simp only [beq_eq_false_iff_ne] at h; omega
  simp [this]
 refine ⟨fun b2 => b2 = (b && tailN s (i + 2) 2), fun b2 hR2 => ?_, fun h => ⟨_, tl 2 2 (by omega) (by omega), by rw [h]; rfl⟩, fun h => by rw [h]; rfl⟩
 subst hR2; subst hR
 refine ⟨fun h => by rw [if_pos h]; rfl, fun h => ?_⟩
 rw [if_neg (by rw [h]; decide)]
 refine ⟨fun b => b = (decide (241 <= x /\ x <= 243) && tailN s (i + 1) 3), fun b hR => ?_, fun h => ⟨_, tl 1 3 (by omega) (by omega), ?_⟩, fun h => ?_⟩
 rotate_left
 ·have : (241 <= x /\ x <= 243) := by simp only [Bool.and_eq_true, decide_eq_true_eq] at h; omega
  simp [this]
 ·have : ¬ (241 <= x /\ x <= 243) := by simp only [Bool.and_eq_false_iff, decide_eq_false_iff_not] at h; omega
  simp [this]
 subst hR
 refine ⟨fun h => by rw [if_pos h]; rfl, fun h => ?_⟩
 rw [if_neg (by rw [h]; decide)]
 refine ⟨fun b => b = (decide (x = 244) && btw s (i + 1) 128 143), fun b hR => ?_, fun h => ⟨_, bt 1 128 143, ?_⟩, fun h => ?_⟩
 rotate_left
 ·have : x = 244 := by simp only [beq_iff_eq] at h; omega
  simp [this]
 ·have : ¬ x = 244 := by simp only [beq_eq_false_iff_ne] at h; omega
  simp [this]
 refine ⟨fun h => ⟨_, tl 2 2 (by omega) (by omega), fun h2 => ?_, fun h2 => ?_⟩, fun h => ?_⟩
 ·rw [if_pos (by rw [← hR, h, h2]; rfl)]; rfl
 ·rw [if_neg (by rw [← hR, h, h2]; decide)]; rfl
 ·rw [if_neg (by rw [← hR, h]; simp)]; rfl
theorem szB_at (s : ByteArray) (i : Nat) : szB s i = sizeAt s i := by
 unfold szB sizeAt sizeN
 simp only [← byteN_get, btw, tailN, Bool.and_eq_true, decide_eq_true_eq, Bool.and_true]
 have e1 : i + 1 + 1 = i + 2 := rfl
 have e2 : i + 1 + 1 + 1 = i + 3 := rfl
 have e3 : i + 2 + 1 = i + 3 := rfl
 simp only [e1, e2, e3]
 generalize byteN s i = a
 generalize byteN s (i + 1) = b
 generalize byteN s (i + 2) = c
 generalize byteN s (i + 3) = d
 generalize s.size = n
 by_cases h0 : a < 128
 ·rw [if_pos h0, if_pos h0]
 rw [if_neg h0, if_neg h0]
 have key : ∀ (p q : Prop) [Decidable p] [Decidable q] (x y z : Nat), (p ↔ q) -> y = z -> (if p then x else y) = (if q then x else z) := by
  intro p q _ _ x y z h1 h2
  subst h2
  by_cases hp : p
  ·rw [if_pos hp, if_pos (h1.1 hp)]
  ·rw [if_neg hp, if_neg (fun h => hp (h1.2 h))]
 refine key _ _ _ _ _ (by omega) (key _ _ _ _ _ (by omega) (key _ _ _ _ _ (by omega) (key _ _ _ _ _ (by omega) (key _ _ _ _ _ (by omega) (key _ _ _ _ _ (by omega) (key _ _ _ _ _ (by omega) rfl))))))
theorem rbad_j (s : ByteArray) (hz : s.size <= 140737488351232) : ∀ n p : Nat, s.size - p <= n -> p <= s.size -> ref03_Bad_j2 p s (badAt s p) := by
 intro n
 induction n with
 | zero =>
  intro p h1 h2
  refine ref03_Bad_j2_step _ _ _ ⟨fun h => by simp only [decide_eq_true_eq] at h; omega, fun h => badAt_end s p (by omega)⟩
 | succ n ih =>
  intro p h1 h2
  refine ref03_Bad_j2_step _ _ _ ⟨fun h => ?_, fun h => ?_⟩
  ·simp only [decide_eq_true_eq] at h
   have hp : p < s.size := by omega
   have hle := sizeAt_le s p hp
   refine ⟨_, size_is s hz p hp, fun h2 => ?_, fun h2 => ?_⟩
   ·simp only [beq_iff_eq] at h2
    exact badAt_bad s p hp (by rw [← szB_at]; omega)
   ·simp only [beq_eq_false_iff_ne] at h2
    rw [szB_at] at h2 ⊢
    have h3 : sizeAt s p ≠ 0 := by omega
    rw [badAt_on s p hp h3, wI, wrapI (by omega)]
    exact ih _ (by omega) hle
  ·simp only [decide_eq_false_iff_not] at h
   exact badAt_end s p (by omega)
theorem rvalid_is (s : ByteArray) (hz : s.size <= 140737488351232) : ref03_Valid s (validB s) :=
 ref03_Valid_step _ _ ⟨_, ref03_Bad_step _ _ (rbad_j s hz s.size 0 (by omega) (by omega)), rfl⟩
def fffd (s : ByteArray) (i : Nat) : Bool := decide (2 < s.size - i /\ byteN s i = 239 /\ byteN s (i + 1) = 191 /\ byteN s (i + 2) = 189)
theorem ba_ext {a b : ByteArray} (h : a.size = b.size) (hb : ∀ i, i < a.size -> byteN a i = byteN b i) : a = b := by
 apply ByteArray.ext
 refine Array.ext h fun i h1 h2 => ?_
 have := hb i h1
 rw [byteN_get, byteN_get] at this
 have e1 : a.get! i = a.data[i] := by show a.data[i]! = _; exact getElem!_pos a.data i h1
 have e2 : b.get! i = b.data[i] := by show b.data[i]! = _; exact getElem!_pos b.data i h2
 rw [e1, e2] at this
 exact UInt8.toNat_inj.1 this
theorem prefix_is (s : ByteArray) (i : Nat) (hi : i <= s.size) (hz : s.size <= 140737488351232) : strings_HasPrefix (s.extract i s.size) ⟨#[239, 191, 189]⟩ (fffd s i) := by
 refine strings_HasPrefix_step _ _ _ ⟨_, internal_stringslite_HasPrefix_step _ _ _ ⟨fun h => ⟨⟨by omega, by omega, by simpa using h⟩, ?_⟩, fun h => ?_⟩, rfl⟩
 ·have hs : (s.extract i s.size).size = s.size - i := size_cut s (Nat.le_refl _)
  simp only [decide_eq_true_eq, hs] at h
  have h3 : (⟨#[239, 191, 189]⟩ : ByteArray).size = 3 := rfl
  rw [h3] at h ⊢
  show fffd s i = decide ((s.extract i s.size).extract 0 3 = _)
  unfold fffd
  congr 1
  simp only [eq_iff_iff]
  have e0 := byteN_cut (s.extract i s.size) (l := 0) (u := 3) (i := 0) (by omega)
  have e1 := byteN_cut (s.extract i s.size) (l := 0) (u := 3) (i := 1) (by omega)
  have e2 := byteN_cut (s.extract i s.size) (l := 0) (u := 3) (i := 2) (by omega)
  rw [byteN_cut s (by omega)] at e0 e1 e2
  constructor
  ·rintro ⟨k1, k2, k3, k4⟩
   refine ba_ext (by rw [size_cut _ (by omega)]; rfl) fun j hj => ?_
   rw [size_cut _ (by omega)] at hj
   have : j = 0 ∨ j = 1 ∨ j = 2 := by omega
   rcases this with rfl | rfl | rfl
   ·rw [e0]; exact k2
   ·rw [e1]; exact k3
   ·rw [e2]; exact k4
  ·intro he
   rw [he] at e0 e1 e2
   refine ⟨by omega, e0.symm, e1.symm, e2.symm⟩
 ·have hs : (s.extract i s.size).size = s.size - i := size_cut s (Nat.le_refl _)
  simp only [decide_eq_false_iff_not, hs] at h
  have h3 : (⟨#[239, 191, 189]⟩ : ByteArray).size = 3 := rfl
  rw [h3] at h
  exact decide_eq_false (by omega)
theorem wrong_is (s : ByteArray) (i : Nat) (hi : i <= s.size) (hz : s.size <= 140737488351232) (c : Int) : utf_wrong s i c (decide (c = 65533) && !fffd s i) := by
 refine utf_wrong_step _ _ _ _ ⟨fun h => ⟨⟨by omega, by omega, by omega⟩, ?_⟩, fun h => ?_⟩
 ·simp only [beq_iff_eq] at h
  have e : ((s.size : Nat) : Int).toNat = s.size := by omega
  have e2 : ((i : Nat) : Int).toNat = i := by omega
  rw [e, e2]
  exact ⟨_, prefix_is s i hi hz, by simp [h]⟩
 ·simp only [beq_eq_false_iff_ne] at h
  simp [h]
theorem dec_pos (s : ByteArray) (p : Nat) : 1 <= (Utf8.decode s p).2 := by
 rw [Lib.decode_at]
 unfold Lib.decodeN
 (repeat' split) <;> simp
theorem bad_j (s : ByteArray) (hz : s.size <= 140737488351232) : ∀ n p : Nat, s.size - p <= n -> p <= s.size -> utf_Bad_j2 s p (badAt s p) := by
 intro n
 induction n with
 | zero =>
  intro p h1 h2
  exact utf_Bad_j2_step _ _ _ ⟨fun h => by omega, fun h => badAt_end s p (by omega)⟩
 | succ n ih =>
  intro p h1 h2
  refine utf_Bad_j2_step _ _ _ ⟨fun hp => ⟨_, wrong_is s p h2 hz _, fun h => ?_, fun h => ?_⟩, fun h => badAt_end s p (by omega)⟩
  ·have hd := sizeAt_decode s p
   simp only [← byteN_get] at hd
   rw [Bool.and_eq_true] at h
   have k1 := of_decide_eq_true h.1
   have k2 : fffd s p = false := by cases hf : fffd s p with
    | true => rw [hf] at h; exact absurd h.2 (by decide)
    | false => rfl
   have k3 := of_decide_eq_false k2
   rw [if_pos ⟨by omega, k3⟩] at hd
   exact badAt_bad s p hp hd
  ·have hd := sizeAt_decode s p
   simp only [← byteN_get] at hd
   have hle := sizeAt_le s p hp
   rw [if_neg] at hd
   ·have h3 : sizeAt s p ≠ 0 := by
     have := dec_pos s p
     omega
    rw [badAt_on s p hp h3, ← hd]
    exact ih _ (by omega) hle
   ·intro hc
    have k2 : fffd s p = false := decide_eq_false hc.2
    have k1 : decide (((Utf8.decode s p).1 : Int) = 65533) = true := decide_eq_true (by omega)
    rw [k1, k2] at h
    cases h
theorem valid_is (s : ByteArray) (hz : s.size <= 140737488351232) : utf_Valid s (validB s) :=
 utf_Valid_step _ _ ⟨_, utf_Bad_step _ _ (bad_j s hz s.size 0 (by omega) (by omega)), rfl⟩
structure OkV (v : GValue) : Prop where
 l : v.List_.length <= 140737488351232
 p : v.Pairs.length <= 140737488351232
 s : v.Slots.length <= 140737488351232
 r : v.Raws.length <= 140737488351232
 t : v.Text.size <= 140737488351232
 b0 : 0 <= v.Bits
 b1 : v.Bits < 18446744073709551616
def loneV (v : GValue) : Bool := decide (v.List_.length = 0 /\ v.Pairs.length = 0 /\ v.Slots.length = 0 /\ v.Raws.length = 0)
def withinB (k bits : Int) : Bool := if k = 1 then decide (bits <= 1) else if k = 2 then decide (-2147483648 <= wI bits /\ wI bits <= 2147483647) else if k = 9 then decide (bits <= 2147483647) else if k = 4 then decide (bits <= 4294967295) else true
def fitsV (k : Int) (v : GValue) : Bool :=
 decide (1 <= k /\ k <= 9 /\ v.Kind = k) && loneV v &&
  (if k = 7 ∨ k = 8 then decide (v.Bits = 0 /\ v.Text.size <= 4096) && (!decide (k = 7) || validB v.Text) else decide (v.Text = ⟨#[]⟩) && withinB k v.Bits)
theorem within_is (k bits : Int) : scalar_within k bits (withinB k bits) := by
 refine scalar_within_step _ _ _ ⟨fun h => ?_, fun h => ⟨fun h2 => ?_, fun h2 => ⟨fun h3 => ?_, fun h3 => ⟨fun h4 => ?_, fun h4 => ?_⟩⟩⟩⟩
 all_goals simp only [beq_iff_eq, beq_eq_false_iff_ne] at *
 ·rw [withinB, if_pos h]
 ·rw [withinB, if_neg h, if_pos h2, Bool.decide_and]
 ·rw [withinB, if_neg h, if_neg h2, if_pos h3]
 ·rw [withinB, if_neg h, if_neg h2, if_neg h3, if_pos h4]
 ·rw [withinB, if_neg h, if_neg h2, if_neg h3, if_neg h4]
def leanV (v : GValue) : Bool := loneV v && (if v.Kind = 7 ∨ v.Kind = 8 then decide (v.Bits = 0) else decide (v.Text = ⟨#[]⟩))
theorem lean_is (v : GValue) (hv : OkV v) : scalar_lean v (leanV v) := by
 have h1 := hv.l; have h2 := hv.p; have h3 := hv.s; have h4 := hv.r
 have e1 : wI ((v.List_.length : Int) + v.Pairs.length) = (v.List_.length : Int) + v.Pairs.length := wrapI (by omega)
 have e2 : wI ((v.List_.length : Int) + v.Pairs.length + v.Slots.length) = (v.List_.length : Int) + v.Pairs.length + v.Slots.length := wrapI (by omega)
 have e3 : wI ((v.List_.length : Int) + v.Pairs.length + v.Slots.length + v.Raws.length) = (v.List_.length : Int) + v.Pairs.length + v.Slots.length + v.Raws.length := wrapI (by omega)
 refine scalar_lean_step _ _ ?_
 rw [e1, e2, e3]
 refine ⟨fun h => ?_, fun h => ⟨_, scalar_texty_step _ _ rfl, fun h5 => ?_, fun h5 => ?_⟩⟩
 ·simp only [decide_eq_true_eq] at h
  have : loneV v = false := decide_eq_false (by omega)
  rw [leanV, this]; rfl
 all_goals
  simp only [decide_eq_false_iff_not] at h
  have : loneV v = true := decide_eq_true (by omega)
  rw [leanV, this, Bool.true_and]
 ·rw [if_pos (by simpa using h5)]; rfl
 ·rw [if_neg (by simpa using h5)]
theorem fits_is (k : Int) (v : GValue) (hv : OkV v) : scalar_Fits k v (fitsV k v) := by
 refine scalar_Fits_step _ _ _ ⟨_, scalar_Is_step _ _ rfl, fun b => b = !(decide (1 <= k /\ k <= 9 /\ v.Kind = k) && leanV v), fun b hR => ?_, fun h => ?_, fun h => ⟨_, lean_is v hv, ?_⟩⟩
 rotate_left
 ·have : decide (1 <= k /\ k <= 9 /\ v.Kind = k) = false := by
   refine decide_eq_false fun hn => ?_
   simp [hn.1, hn.2.1, hn.2.2] at h
  rw [this]; rfl
 ·have : decide (1 <= k /\ k <= 9 /\ v.Kind = k) = true := by
   refine decide_eq_true ?_
   simp at h
   omega
  rw [this]; rfl
 subst hR
 refine ⟨fun b => b = !(decide (1 <= k /\ k <= 9 /\ v.Kind = k) && leanV v && withinB k v.Bits), fun b hR => ?_, fun h => ?_, fun h => ⟨_, within_is k v.Bits, ?_⟩⟩
 rotate_left
 ·have : (decide (1 <= k /\ k <= 9 /\ v.Kind = k) && leanV v) = false := by rw [← Bool.not_eq_true']; exact h
  rw [this]; rfl
 ·have : (decide (1 <= k /\ k <= 9 /\ v.Kind = k) && leanV v) = true := by rw [← Bool.not_eq_false']; exact h
  rw [this]; rfl
 subst hR
 have main : ∀ A B C D : Bool, True := fun _ _ _ _ => trivial
 by_cases hk : 1 <= k /\ k <= 9 /\ v.Kind = k
 ·have hkd : decide (1 <= k /\ k <= 9 /\ v.Kind = k) = true := decide_eq_true hk
  unfold fitsV leanV
  rw [hkd, hk.2.2, Bool.true_and, Bool.true_and]
  cases hl : loneV v with
  | false => simp
  | true =>
   simp only [Bool.true_and]
   by_cases h78 : k = 7 ∨ k = 8
   ·rw [if_pos h78, if_pos h78]
    have hw : withinB k v.Bits = true := by rw [withinB, if_neg (by omega), if_neg (by omega), if_neg (by omega), if_neg (by omega)]
    rw [hw, Bool.and_true]
    refine ⟨fun h => ?_, fun h => ⟨fun h2 => ?_, fun h2 => ⟨_, valid_is _ hv.t, ?_⟩⟩⟩
    ·have : ¬ (v.Bits = 0 /\ v.Text.size <= 4096) := by
      simp only [Bool.or_eq_true, Bool.not_eq_true', decide_eq_false_iff_not, decide_eq_true_eq] at h
      omega
     rw [decide_eq_false this]; rfl
    ·have : v.Bits = 0 /\ v.Text.size <= 4096 := by
      simp only [Bool.or_eq_false_iff, Bool.not_eq_false', decide_eq_false_iff_not, decide_eq_true_eq] at h
      omega
     rw [decide_eq_true this]
     have : ¬ k = 7 := by simpa using h2
     rw [decide_eq_false this]; rfl
    ·have : v.Bits = 0 /\ v.Text.size <= 4096 := by
      simp only [Bool.or_eq_false_iff, Bool.not_eq_false', decide_eq_false_iff_not, decide_eq_true_eq] at h
      omega
     rw [decide_eq_true this]
     have : k = 7 := by simpa using h2
     rw [decide_eq_true this]; simp
   ·rw [if_neg h78, if_neg h78]
    refine ⟨fun h => ?_, fun h => ⟨fun h2 => ?_, fun h2 => ?_⟩⟩
    ·simp only [Bool.or_eq_true, Bool.not_eq_true', decide_eq_true_eq] at h
     rcases h with h | h
     ·rw [h]
     ·have : ¬ v.Text = ⟨#[]⟩ := by
       intro he
       rw [he] at h
       have : ((⟨#[]⟩ : ByteArray).size : Int) = 0 := rfl
       omega
      rw [decide_eq_false this]; rfl
    ·simp only [Bool.or_eq_false_iff, Bool.not_eq_false'] at h
     rw [h.1]
    ·have : k = 7 := by simpa using h2
     omega
 ·have hkd : decide (1 <= k /\ k <= 9 /\ v.Kind = k) = false := decide_eq_false hk
  unfold fitsV
  rw [hkd]
  simp
theorem rlone_is (v : GValue) : ref04_lone v (loneV v) := by
 refine ref04_lone_step _ _ ?_
 unfold loneV
 rw [Bool.eq_iff_iff]
 simp only [decide_eq_true_eq, Bool.and_eq_true, beq_iff_eq]
 omega
theorem rfits_is (k : Int) (v : GValue) (hv : OkV v) : ref04_Fits k v (fitsV k v) := by
 refine ref04_Fits_step _ _ _ ⟨_, ref04_Is_step _ _ rfl, fun b => b = !(decide (1 <= k /\ k <= 9 /\ v.Kind = k) && loneV v), fun b hR => ⟨fun h => ?_, fun h => ⟨_, ref04_texts_step _ _ rfl, fun h2 => ?_, fun h2 => ?_⟩⟩, fun h => ?_, fun h => ⟨_, rlone_is v, ?_⟩⟩
 ·have : (decide (1 <= k /\ k <= 9 /\ v.Kind = k) && loneV v) = false := by rw [← Bool.not_eq_true', ← hR]; exact h
  unfold fitsV; rw [this]; rfl
 ·have hb : (decide (1 <= k /\ k <= 9 /\ v.Kind = k) && loneV v) = true := by rw [← Bool.not_eq_false', ← hR]; exact h
  have h78 : k = 7 ∨ k = 8 := by simpa using h2
  unfold fitsV
  rw [hb, Bool.true_and, if_pos h78]
  refine ⟨fun c => c = (decide (v.Bits = 0 /\ v.Text.size <= 4096) && (!decide (k = 7) || validB v.Text)), fun c hc => hc.symm, fun h3 => ?_, fun h3 => ?_⟩
  ·have h4 : v.Bits = 0 /\ v.Text.size <= 4096 := by
    simp only [Bool.and_eq_true, beq_iff_eq, decide_eq_true_eq] at h3
    omega
   rw [decide_eq_true h4, Bool.true_and]
   refine ⟨fun c => c = (!decide (k = 7) || validB v.Text), fun c hc => hc, fun h5 => ?_, fun h5 => ⟨_, rvalid_is _ hv.t, ?_⟩⟩
   ·have : ¬ k = 7 := by simp only [beq_iff_eq] at h5; omega
    rw [decide_eq_false this]; rfl
   ·have : k = 7 := by simp only [beq_eq_false_iff_ne] at h5; omega
    rw [decide_eq_true this]; rfl
  ·have h4 : ¬ (v.Bits = 0 /\ v.Text.size <= 4096) := by
    simp only [Bool.and_eq_false_iff, beq_eq_false_iff_ne, decide_eq_false_iff_not] at h3
    omega
   rw [decide_eq_false h4]; rfl
 ·have hb : (decide (1 <= k /\ k <= 9 /\ v.Kind = k) && loneV v) = true := by rw [← Bool.not_eq_false', ← hR]; exact h
  have h78 : ¬ (k = 7 ∨ k = 8) := by simpa using h2
  unfold fitsV
  rw [hb, Bool.true_and, if_neg h78]
  refine ⟨fun h3 => ?_, fun h3 => ?_⟩
  ·have : decide (v.Text = ⟨#[]⟩) = false := by rw [← Bool.not_eq_true']; exact h3
   rw [this]; rfl
  ·have : decide (v.Text = ⟨#[]⟩) = true := by rw [← Bool.not_eq_false']; exact h3
   rw [this, Bool.true_and]
   refine ⟨fun h4 => ?_, fun h4 => ⟨fun h5 => ?_, fun h5 => ⟨fun h6 => ?_, fun h6 => ⟨fun h7 => ?_, fun h7 => ?_⟩⟩⟩⟩
   all_goals simp only [beq_iff_eq, beq_eq_false_iff_ne] at *
   ·rw [withinB, if_pos h4]
   ·rw [withinB, if_neg h4, if_pos h5, Bool.decide_and]
   ·rw [withinB, if_neg h4, if_neg h5, if_neg (by omega), if_pos h6]
    congr 1; simp only [eq_iff_iff]; omega
   ·rw [withinB, if_neg h4, if_neg h5, if_pos h7]
    congr 1; simp only [eq_iff_iff]; omega
   ·rw [withinB, if_neg h4, if_neg h5, if_neg h7, if_neg h6]
 ·have : decide (1 <= k /\ k <= 9 /\ v.Kind = k) = false := by
   refine decide_eq_false fun hn => ?_
   simp [hn.1, hn.2.1, hn.2.2] at h
  rw [this]; rfl
 ·have : decide (1 <= k /\ k <= 9 /\ v.Kind = k) = true := by
   refine decide_eq_true ?_
   simp at h
   omega
  rw [this]; rfl
theorem wI_range (n : Int) : -9223372036854775808 <= wI n /\ wI n <= 9223372036854775807 := by simp only [wI, IntKind.wrap, IntKind.signed, IntKind.bits]; simp; omega
theorem zigN_lt {n : Int} (h : -9223372036854775808 <= n /\ n <= 9223372036854775807) : zigN n < 18446744073709551616 := by unfold zigN; split <;> omega
theorem putL_lens : ∀ k u : Nat, u < 128 ^ k -> 1 <= k -> (putL u).length <= k
 | 0, u, h, h1 => by omega
 | k + 1, u, h, h1 => by
  rw [putL]
  split
  ·simp
  ·rename_i hu
   rcases Nat.eq_zero_or_pos k with h0 | h0
   ·subst h0; simp at h; omega
   ·have := putL_lens k (u / 128) (by rw [Nat.pow_succ] at h; omega) h0
    simp; omega
theorem putS_size (u : Nat) (h : u < 18446744073709551616) : (putS u).size <= 10 := by rw [putS, ofI_size]; exact putL_lens 10 u (by omega) (by omega)
def putV (v : GValue) : ByteArray :=
 if fitsV v.Kind v = true then
  if v.Kind = 1 then ofI [v.Bits % 256]
  else if v.Kind = 2 ∨ v.Kind = 3 then putS (zigN (wI v.Bits))
  else if v.Kind = 6 then fixW (normV v).Bits.toNat
  else if v.Kind = 7 ∨ v.Kind = 8 then putS v.Text.size ++ v.Text
  else putS v.Bits.toNat
 else ⟨#[]⟩
theorem normV_bits (v : GValue) (hv : OkV v) : 0 <= (normV v).Bits /\ (normV v).Bits < 18446744073709551616 := by
 unfold normV
 split
 ·exact ⟨(by decide : (0 : Int) <= 9221120237041090560), (by decide : (9221120237041090560 : Int) < 18446744073709551616)⟩
 ·exact ⟨hv.b0, hv.b1⟩
theorem u8_mod {n : Int} : IntKind.u8.wrap n = n % 256 := by simp [IntKind.wrap, IntKind.signed, IntKind.bits]
theorem rput_j6 (v : GValue) (hv : OkV v) (b : Bool) : ref28_Put_j6 b v (if b = true then putS v.Text.size ++ v.Text else putS v.Bits.toNat) := by
 have h1 := hv.t; have h2 := hv.b0; have h3 := hv.b1
 have e1 : wU (v.Text.size : Int) = (v.Text.size : Int) := wrapU (by omega)
 have hp := putS_size v.Text.size (by omega)
 refine ref28_Put_j6_step _ _ _ ⟨fun h => ⟨_, by rw [e1]; exact rput_is _ (by omega), by omega, by rw [if_pos h]⟩, fun h => ⟨putS v.Bits.toNat, ?_, by rw [h]; rfl⟩⟩
 have := rput_is v.Bits.toNat (by omega)
 rw [show ((v.Bits.toNat : Nat) : Int) = v.Bits by omega] at this
 exact this
theorem put_j6 (v : GValue) (hv : OkV v) (b : Bool) : row_Put_j6 b v (if b = true then putS v.Text.size ++ v.Text else putS v.Bits.toNat) := by
 have h1 := hv.t; have h2 := hv.b0; have h3 := hv.b1
 have e1 : wU (v.Text.size : Int) = (v.Text.size : Int) := wrapU (by omega)
 have hp := putS_size v.Text.size (by omega)
 refine row_Put_j6_step _ _ _ ⟨fun h => ⟨_, by rw [e1]; exact put_is _ (by omega), by omega, by rw [if_pos h]⟩, fun h => ⟨putS v.Bits.toNat, ?_, by rw [h]; rfl⟩⟩
 have := put_is v.Bits.toNat (by omega)
 rw [show ((v.Bits.toNat : Nat) : Int) = v.Bits by omega] at this
 exact this
def putT (b : Bool) (v : GValue) : ByteArray := if b = true then putS (zigN (wI v.Bits)) else if v.Kind = 6 then fixW (normV v).Bits.toNat else if v.Kind = 7 ∨ v.Kind = 8 then putS v.Text.size ++ v.Text else putS v.Bits.toNat
theorem put_j4 (v : GValue) (hv : OkV v) (b : Bool) : row_Put_j4 b v (putT b v) := by
 have hn := normV_bits v hv
 have hr := wI_range v.Bits
 refine row_Put_j4_step _ _ _ ⟨fun h => ⟨_, zig_is _ hr, _, put_is _ (zigN_lt hr), by rw [putT, if_pos h]⟩, fun h => ⟨fun h2 => ?_, fun h2 => ⟨fun h3 => ?_, fun h3 => ?_⟩⟩⟩
 all_goals simp only [beq_iff_eq, beq_eq_false_iff_ne] at *
 all_goals rw [putT, if_neg (by rw [h]; decide)]
 ·refine ⟨_, norm_is v ⟨hv.b0, hv.b1⟩, fixW (normV v).Bits.toNat, ?_, by rw [if_pos h2]⟩
  have := fixedw_is (normV v).Bits.toNat
  rw [show (((normV v).Bits.toNat : Nat) : Int) = (normV v).Bits by omega] at this
  exact this
 ·have := put_j6 v hv (v.Kind == 7)
  rw [if_pos (by simpa using h3)] at this
  rw [if_neg h2, if_pos (.inl h3)]; exact this
 ·have := put_j6 v hv (v.Kind == 8)
  rw [if_neg h2]
  by_cases h8 : v.Kind = 8
  ·rw [if_pos (by simpa using h8)] at this; rw [if_pos (.inr h8)]; exact this
  ·rw [if_neg (by simpa using h8)] at this; rw [if_neg (by omega)]; exact this
theorem rput_j4 (v : GValue) (hv : OkV v) (b : Bool) : ref28_Put_j4 b v (putT b v) := by
 have hn := normV_bits v hv
 have hr := wI_range v.Bits
 refine ref28_Put_j4_step _ _ _ ⟨fun h => ⟨_, rzig_is _ hr, _, rput_is _ (zigN_lt hr), by rw [putT, if_pos h]⟩, fun h => ⟨fun h2 => ?_, fun h2 => ⟨fun h3 => ?_, fun h3 => ?_⟩⟩⟩
 all_goals simp only [beq_iff_eq, beq_eq_false_iff_ne] at *
 all_goals rw [putT, if_neg (by rw [h]; decide)]
 ·refine ⟨_, rnorm_is v ⟨hv.b0, hv.b1⟩, fixW (normV v).Bits.toNat, ?_, by rw [if_pos h2]⟩
  have := rfixedw_is (normV v).Bits.toNat (by omega)
  rw [show (((normV v).Bits.toNat : Nat) : Int) = (normV v).Bits by omega] at this
  exact this
 ·have := rput_j6 v hv (v.Kind == 7)
  rw [if_pos (by simpa using h3)] at this
  rw [if_neg h2, if_pos (.inl h3)]; exact this
 ·have := rput_j6 v hv (v.Kind == 8)
  rw [if_neg h2]
  by_cases h8 : v.Kind = 8
  ·rw [if_pos (by simpa using h8)] at this; rw [if_pos (.inr h8)]; exact this
  ·rw [if_neg (by simpa using h8)] at this; rw [if_neg (by omega)]; exact this
theorem putrow_ok (v : GValue) (hv : OkV v) : row_Put v (putV v) := by
 refine row_Put_step _ _ ⟨_, fits_is v.Kind v hv, fun h => ?_, fun h => ?_⟩
 ·have : fitsV v.Kind v = false := by rw [← Bool.not_eq_true']; exact h
  rw [putV, this]; rfl
 ·have : fitsV v.Kind v = true := by rw [← Bool.not_eq_false']; exact h
  rw [putV, if_pos this]
  refine ⟨fun h1 => ⟨_, ?_, by rw [if_pos (by simpa using h1)]⟩, fun h1 => ⟨fun h2 => ?_, fun h2 => ?_⟩⟩
  ·rw [u8_mod]
   exact bI_ofI (bytesL_one (by omega))
  ·have := put_j4 v hv (v.Kind == 2)
   simp only [beq_iff_eq, beq_eq_false_iff_ne] at h1 h2
   rw [if_neg h1, if_pos (.inl h2)]
   rw [putT, if_pos (by simpa using h2)] at this
   exact this
  ·have := put_j4 v hv (v.Kind == 3)
   simp only [beq_iff_eq, beq_eq_false_iff_ne] at h1 h2
   rw [if_neg h1]
   unfold putT at this
   by_cases h3 : v.Kind = 3
   ·rw [if_pos (.inr h3)]
    rw [if_pos (by simpa using h3)] at this
    exact this
   ·rw [if_neg (by omega)]
    rw [if_neg (by simpa using h3)] at this
    exact this
theorem rputrow_ok (v : GValue) (hv : OkV v) : ref28_Put v (putV v) := by
 refine ref28_Put_step _ _ ⟨_, rfits_is v.Kind v hv, fun h => ?_, fun h => ?_⟩
 ·have : fitsV v.Kind v = false := by rw [← Bool.not_eq_true']; exact h
  rw [putV, this]; rfl
 ·have : fitsV v.Kind v = true := by rw [← Bool.not_eq_false']; exact h
  rw [putV, if_pos this]
  refine ⟨fun h1 => ⟨_, ?_, by rw [if_pos (by simpa using h1)]⟩, fun h1 => ⟨fun h2 => ?_, fun h2 => ?_⟩⟩
  ·rw [u8_mod]
   exact bI_ofI (bytesL_one (by omega))
  ·have := rput_j4 v hv (v.Kind == 2)
   simp only [beq_iff_eq, beq_eq_false_iff_ne] at h1 h2
   rw [if_neg h1, if_pos (.inl h2)]
   rw [putT, if_pos (by simpa using h2)] at this
   exact this
  ·have := rput_j4 v hv (v.Kind == 3)
   simp only [beq_iff_eq, beq_eq_false_iff_ne] at h1 h2
   rw [if_neg h1]
   unfold putT at this
   by_cases h3 : v.Kind = 3
   ·rw [if_pos (.inr h3)]
    rw [if_pos (by simpa using h3)] at this
    exact this
   ·rw [if_neg (by omega)]
    rw [if_neg (by simpa using h3)] at this
    exact this
def V0 : GValue := ⟨0, 0, ⟨#[]⟩, [], [], [], []⟩
theorem num_okC (c : GCursor) (hc : OkC c) (h : (numR c).2.2 = 0) : OkC (numR c).2.1 /\ 0 <= (numR c).1 /\ (numR c).1 < 18446744073709551616 := by
 have hs := spent_le c hc
 have hl := takeS_lt (restS c) 10 0 0 rfl (by omega) (by decide)
 unfold numR at h ⊢
 split at h
 ·split at h
  ·rename_i h1 h2
   rw [if_pos h1, if_pos h2]
   exact ⟨⟨hc.sz, hs.1, hs.2⟩, by omega, by simp only; omega⟩
  ·exact absurd h (show ¬ ((5 : Int) = 0) by decide)
 ·rename_i h1
  simp only at h
  omega
def textV (k : Int) (c : GCursor) : GValue × GCursor × Int :=
 if (numR c).2.2 ≠ 0 then (V0, c, (numR c).2.2)
 else if leftI (numR c).2.1.Data (numR c).2.1.At (numR c).2.1.End < (numR c).1 then (V0, c, 4)
 else if (textR (numR c).2.1 (numR c).1).2.2 ≠ 0 then (V0, c, (textR (numR c).2.1 (numR c).1).2.2)
 else if k = 7 /\ validB (textR (numR c).2.1 (numR c).1).1 = false then (V0, c, 7)
 else (⟨k, 0, (textR (numR c).2.1 (numR c).1).1, [], [], [], []⟩, (textR (numR c).2.1 (numR c).1).2.1, 0)
theorem textR_size (c : GCursor) (hc : OkC c) (n : Int) : (textR c n).1.size <= 140737488351232 := by
 have := hc.sz
 unfold textR
 split
 ·exact (by decide : (0 : Nat) <= 140737488351232)
 split
 ·exact (by decide : (0 : Nat) <= 140737488351232)
 split
 ·exact (by decide : (0 : Nat) <= 140737488351232)
 ·simp only [ByteArray.size_extract]; omega
theorem textrow_is (k : Int) (c : GCursor) (hc : OkC c) : row_text k c (textV k c) := by
 have hl0 := leftI_nonneg (numR c).2.1
 refine row_text_step _ _ _ ⟨_, number_is c hc, fun h => ?_, fun h => ?_⟩
 ·have h0 : (numR c).2.2 ≠ 0 := by simpa using h
  rw [textV, if_pos h0]; rfl
 have h0 : (numR c).2.2 = 0 := by simpa using h
 obtain ⟨hd, hb0, hb1⟩ := num_okC c hc h0
 have hn0 : ¬ (numR c).2.2 ≠ 0 := fun h => h h0
 refine ⟨_, left_is _ hd, fun h => ?_, fun h => ?_⟩
 all_goals
  have hlw : leftI (numR c).2.1.Data (numR c).2.1.At (numR c).2.1.End <= 140737488351232 := by
   have := hd.sz
   have h1 := rest_size (numR c).2.1
   have h2 := hd.rest
   omega
  have ew : wU (leftI (numR c).2.1.Data (numR c).2.1.At (numR c).2.1.End) = leftI (numR c).2.1.Data (numR c).2.1.At (numR c).2.1.End := wrapU (by omega)
  rw [ew] at h
 ·simp only [decide_eq_true_eq] at h
  rw [textV, if_neg hn0, if_pos h]; rfl
 simp only [decide_eq_false_iff_not] at h
 have e2 : wI (numR c).1 = (numR c).1 := wrapI (by omega)
 rw [e2]
 refine ⟨_, text_is _ hd _, fun h2 => ?_, fun h2 => ?_⟩
 ·have h3 : (textR (numR c).2.1 (numR c).1).2.2 ≠ 0 := by simpa using h2
  rw [textV, if_neg hn0, if_neg h, if_pos h3]; rfl
 have h3 : ¬ (textR (numR c).2.1 (numR c).1).2.2 ≠ 0 := by simpa using h2
 rw [textV, if_neg hn0, if_neg h, if_neg h3]
 refine ⟨fun b => b = decide (k = 7 /\ validB (textR (numR c).2.1 (numR c).1).1 = false), fun b hb => ⟨fun h4 => ?_, fun h4 => ?_⟩, fun h4 => ⟨_, valid_is _ (textR_size _ hd _), ?_⟩, fun h4 => ?_⟩
 ·rw [h4] at hb
  rw [if_pos (of_decide_eq_true hb.symm)]; rfl
 ·rw [h4] at hb
  rw [if_neg (of_decide_eq_false hb.symm)]
 ·have : k = 7 := by simpa using h4
  cases validB (textR (numR c).2.1 (numR c).1).1 <;> simp [this]
 ·have : ¬ k = 7 := by simpa using h4
  simp [this]
theorem rtextrow_is (k : Int) (c : GCursor) (hc : OkC c) : ref28_text k c (textV k c) := by
 have hl0 := leftI_nonneg (numR c).2.1
 refine ref28_text_step _ _ _ ⟨_, rnumber_is c hc, fun h => ?_, fun h => ?_⟩
 ·have h0 : (numR c).2.2 ≠ 0 := by simpa using h
  rw [textV, if_pos h0]; rfl
 have h0 : (numR c).2.2 = 0 := by simpa using h
 obtain ⟨hd, hb0, hb1⟩ := num_okC c hc h0
 have hn0 : ¬ (numR c).2.2 ≠ 0 := fun h => h h0
 refine ⟨_, rleft_is _, fun h => ?_, fun h => ?_⟩
 all_goals
  have hlw : leftI (numR c).2.1.Data (numR c).2.1.At (numR c).2.1.End <= 140737488351232 := by
   have := hd.sz
   have h1 := rest_size (numR c).2.1
   have h2 := hd.rest
   omega
  have ew : wU (leftI (numR c).2.1.Data (numR c).2.1.At (numR c).2.1.End) = leftI (numR c).2.1.Data (numR c).2.1.At (numR c).2.1.End := wrapU (by omega)
  rw [ew] at h
 ·simp only [decide_eq_true_eq] at h
  rw [textV, if_neg hn0, if_pos h]; rfl
 simp only [decide_eq_false_iff_not] at h
 have e2 : wI (numR c).1 = (numR c).1 := wrapI (by omega)
 rw [e2]
 refine ⟨_, rtext_is _ hd _, fun h2 => ?_, fun h2 => ?_⟩
 ·have h3 : (textR (numR c).2.1 (numR c).1).2.2 ≠ 0 := by simpa using h2
  rw [textV, if_neg hn0, if_neg h, if_pos h3]; rfl
 have h3 : ¬ (textR (numR c).2.1 (numR c).1).2.2 ≠ 0 := by simpa using h2
 rw [textV, if_neg hn0, if_neg h, if_neg h3]
 refine ⟨fun b => b = decide (k = 7 /\ validB (textR (numR c).2.1 (numR c).1).1 = false), fun b hb => ⟨fun h4 => ?_, fun h4 => ?_⟩, fun h4 => ⟨_, rvalid_is _ (textR_size _ hd _), ?_⟩, fun h4 => ?_⟩
 ·rw [h4] at hb
  rw [if_pos (of_decide_eq_true hb.symm)]; rfl
 ·rw [h4] at hb
  rw [if_neg (of_decide_eq_false hb.symm)]
 ·have : k = 7 := by simpa using h4
  cases validB (textR (numR c).2.1 (numR c).1).1 <;> simp [this]
 ·have : ¬ k = 7 := by simpa using h4
  simp [this]
def doubV (c : GCursor) : GValue × GCursor × Int :=
 if (fixR c).2.2 ≠ 0 then (V0, c, (fixR c).2.2)
 else if (normV ⟨6, (fixR c).1, ⟨#[]⟩, [], [], [], []⟩).Bits ≠ (fixR c).1 then (V0, c, 5) else (⟨6, (fixR c).1, ⟨#[]⟩, [], [], [], []⟩, (fixR c).2.1, 0)
theorem fixR_bits (c : GCursor) : 0 <= (fixR c).1 /\ (fixR c).1 < 18446744073709551616 := by
 unfold fixR
 split
 ·have := leS_lt (restS c) 8
  have e : 256 ^ 8 = 18446744073709551616 := rfl
  simp only
  omega
 ·exact ⟨(by decide : (0 : Int) <= 0), (by decide : (0 : Int) < 18446744073709551616)⟩
theorem double_is (c : GCursor) (hc : OkC c) : row_double c (doubV c) := by
 refine row_double_step _ _ ⟨_, fixed_is c hc, fun h => ?_, fun h => ⟨_, norm_is _ (fixR_bits c), fun h2 => ?_, fun h2 => ?_⟩⟩
 ·have h0 : (fixR c).2.2 ≠ 0 := by simpa using h
  rw [doubV, if_pos h0]; rfl
 all_goals have h0 : ¬ (fixR c).2.2 ≠ 0 := by simpa using h
 ·rw [doubV, if_neg h0, if_pos (by simpa using h2)]; rfl
 ·rw [doubV, if_neg h0, if_neg (by simpa using h2)]
def accB (p : GPlan) (enum num : Int) : Bool :=
 if enum < 0 ∨ (p.Enums.length : Int) <= enum ∨ 2147483647 < num then false else (p.Enums[enum.toNat]?).any fun y => y.Open || y.Items.any fun it => decide (it.Num = num)
structure OkE (p : GPlan) : Prop where
 n : p.Enums.length <= 140737488351232
 i : ∀ y ∈ p.Enums, y.Items.length <= 140737488351232 /\ ∀ it ∈ y.Items, -9223372036854775808 <= it.Num /\ it.Num <= 9223372036854775807
def accF (num : Int) : GFn := ⟨86, [], [.elt [.v (.int .u64 num)] 0], by simp [plainL, plain]⟩
theorem acc_index (num : Int) (hn : 0 <= num /\ num <= 2147483647) (l : List GItem) (hl : l.length <= 140737488351232) (hi : ∀ it ∈ l, -9223372036854775808 <= it.Num /\ it.Num <= 9223372036854775807) : ∀ n i : Nat, l.length - i <= n -> i <= l.length ->
  ∃ r, slices_IndexFunc_g142_j2 i l (accF num) r /\ (0 <= r ↔ ∃ it ∈ l.drop i, it.Num = num) := by
 intro n
 induction n with
 | zero =>
  intro i h1 h2
  refine ⟨-1, slices_IndexFunc_g142_j2_step _ _ _ _ ⟨fun h => by simp only [decide_eq_true_eq] at h; omega, fun _ => rfl⟩, ?_⟩
  have : l.drop i = [] := List.drop_eq_nil_of_le (by omega)
  simp [this]
 | succ n ih =>
  intro i h1 h2
  rcases Nat.lt_or_ge i l.length with hlt | hge
  ·have hy : l[i]? = some l[i] := List.getElem?_eq_getElem hlt
   have hmem : l[i] ∈ l := List.getElem_mem hlt
   have hr := hi _ hmem
   have hd : l.drop i = l[i] :: l.drop (i + 1) := List.drop_eq_getElem_cons hlt
   have ht : ((i : Int)).toNat = i := by omega
   have hw : (wU (l[i]).Num == num) = decide ((l[i]).Num = num) := by
    rw [Bool.eq_iff_iff]
    simp only [beq_iff_eq, decide_eq_true_eq]
    rcases Int.lt_or_le (l[i]).Num 0 with h0 | h0
    ·rw [wU_neg ⟨hr.1, h0⟩]; omega
    ·have : wU (l[i]).Num = (l[i]).Num := wrapU (by omega)
     rw [this]
   have hc := plan_Accepts_1_clo l[i] num _ (plan_Accepts_1_step l[i] num _ rfl)
   by_cases he : (l[i]).Num = num
   ·refine ⟨i, slices_IndexFunc_g142_j2_step _ _ _ _ ⟨fun _ => ⟨l[i], by rw [ht]; exact hy, by omega, _, hc, fun _ => rfl, fun h => ?_⟩, fun h => by simp only [decide_eq_false_iff_not] at h; omega⟩, ?_⟩
    ·rw [hw, decide_eq_true he] at h; cases h
    ·rw [hd]
     exact ⟨fun _ => ⟨_, List.mem_cons_self, he⟩, fun _ => by omega⟩
   ·obtain ⟨r, hr1, hr2⟩ := ih (i + 1) (by omega) (by omega)
    refine ⟨r, slices_IndexFunc_g142_j2_step _ _ _ _ ⟨fun _ => ⟨l[i], by rw [ht]; exact hy, by omega, _, hc, fun h => ?_, fun _ => ?_⟩, fun h => by simp only [decide_eq_false_iff_not] at h; omega⟩, ?_⟩
    ·rw [hw, decide_eq_false he] at h; cases h
    ·rw [wI, wrapI (by omega)]; exact hr1
    ·rw [hr2, hd]
     exact ⟨fun ⟨it, k1, k2⟩ => ⟨it, List.mem_cons_of_mem _ k1, k2⟩, fun ⟨it, k1, k2⟩ => (List.mem_cons.1 k1).elim (fun e => (he (by rw [← e]; exact k2)).elim) fun k1 => ⟨it, k1, k2⟩⟩
  ·refine ⟨-1, slices_IndexFunc_g142_j2_step _ _ _ _ ⟨fun h => by simp only [decide_eq_true_eq] at h; omega, fun _ => rfl⟩, ?_⟩
   have : l.drop i = [] := List.drop_eq_nil_of_le (by omega)
   simp [this]
theorem accepts_is (p : GPlan) (hp : OkE p) (enum num : Int) (hn : 0 <= num) : plan_Accepts p enum num (accB p enum num) := by
 refine plan_Accepts_step _ _ _ _ ⟨fun h => ?_, fun h => ?_⟩
 ·rw [accB, if_pos]
  simp only [Bool.or_eq_true, decide_eq_true_eq] at h
  omega
 ·simp only [Bool.or_eq_false_iff, decide_eq_false_iff_not] at h
  have hlt : enum.toNat < p.Enums.length := by omega
  have hy : p.Enums[enum.toNat]? = some p.Enums[enum.toNat] := List.getElem?_eq_getElem hlt
  obtain ⟨hl, hi⟩ := hp.i _ (List.getElem_mem hlt)
  rw [accB, if_neg (by omega), hy]
  generalize p.Enums[enum.toNat] = y at *
  refine ⟨y, rfl, by omega, fun h2 => by simp [h2], fun h2 => ?_⟩
  obtain ⟨r, hr1, hr2⟩ := acc_index num ⟨hn, by omega⟩ y.Items hl hi y.Items.length 0 (by omega) (by omega)
  refine ⟨_, slices_ContainsFunc_g85_step _ _ _ ⟨r, slices_IndexFunc_g142_step _ _ _ hr1, rfl⟩, ?_⟩
  simp only [h2, Option.any_some, Bool.false_or]
  rw [Bool.eq_iff_iff, decide_eq_true_eq, hr2, List.drop_zero, List.any_eq_true]
  simp
theorem racc_j (p : GPlan) (enum num : Int) (y : GEnum) (hy : p.Enums[enum.toNat]? = some y) (he : 0 <= enum) (hn : 0 <= num /\ num <= 2147483647) (hl : y.Items.length <= 140737488351232) : ∀ n i : Nat, ∀ b : Bool, y.Items.length - i <= n -> i <= y.Items.length -> ref22_Accepts_j2 i b enum num p (b || (y.Items.drop i).any fun it => decide (it.Num = num)) := by
 intro n
 induction n with
 | zero =>
  intro i b h1 h2
  refine ref22_Accepts_j2_step _ _ _ _ _ _ ⟨y, hy, he, fun h => by simp only [decide_eq_true_eq] at h; omega, fun _ => ?_⟩
  rw [List.drop_eq_nil_of_le (by omega)]; simp
 | succ n ih =>
  intro i b h1 h2
  refine ref22_Accepts_j2_step _ _ _ _ _ _ ⟨y, hy, he, fun h => ?_, fun h => ?_⟩
  ·simp only [decide_eq_true_eq] at h
   have hlt : i < y.Items.length := by omega
   have hd := List.drop_eq_getElem_cons hlt
   have ht : ((i : Int)).toNat = i := by omega
   have ei : wI ((i : Int) + 1) = ((i + 1 : Nat) : Int) := by rw [wI, wrapI (by omega)]; omega
   rw [ei]
   refine ⟨fun hb => ?_, fun hb => ⟨y, hy, he, y.Items[i], by rw [ht]; exact List.getElem?_eq_getElem hlt, by omega, ?_⟩⟩
   ·have := ih (i + 1) true (by omega) (by omega)
    rw [hb]; exact this
   ·have := ih (i + 1) (y.Items[i].Num == wI num) (by omega) (by omega)
    have ew : wI num = num := wrapI (by omega)
    rw [ew] at this ⊢
    rw [hb, hd]
    simp only [List.any_cons, Bool.false_or]
    exact this
  ·simp only [decide_eq_false_iff_not] at h
   rw [List.drop_eq_nil_of_le (by omega)]; simp
theorem raccepts_is (p : GPlan) (hp : OkE p) (enum num : Int) (hn : 0 <= num) : ref22_Accepts p enum num (accB p enum num) := by
 refine ref22_Accepts_step _ _ _ _ ⟨fun h => ?_, fun h => ?_⟩
 ·rw [accB, if_pos]
  simp only [Bool.or_eq_true, decide_eq_true_eq] at h
  omega
 ·simp only [Bool.or_eq_false_iff, decide_eq_false_iff_not] at h
  have hlt : enum.toNat < p.Enums.length := by omega
  have hy : p.Enums[enum.toNat]? = some p.Enums[enum.toNat] := List.getElem?_eq_getElem hlt
  obtain ⟨hl, hi⟩ := hp.i _ (List.getElem_mem hlt)
  rw [accB, if_neg (by omega), hy]
  generalize p.Enums[enum.toNat] = y at *
  have := racc_j p enum num y hy (by omega) ⟨hn, by omega⟩ hl y.Items.length 0 y.Open (by omega) (by omega)
  exact ⟨y, rfl, by omega, this⟩
def bitV (k b : Int) : GValue := ⟨k, b, ⟨#[]⟩, [], [], [], []⟩
def numV (k u : Int) : Int := if k = 2 ∨ k = 3 then wU (zagI u.toNat) else u
def scalV (p : GPlan) (k tgt : Int) (c : GCursor) : GValue × GCursor × Int :=
 if k = 1 then
  if (byteR c).2.2 ≠ 0 then (V0, c, (byteR c).2.2) else if 1 < (byteR c).1 then (V0, c, 5) else (bitV k (byteR c).1, (byteR c).2.1, 0)
 else if k = 6 then doubV c
 else if k = 7 ∨ k = 8 then textV k c
 else if k = 2 ∨ k = 3 ∨ k = 4 ∨ k = 5 ∨ k = 9 then
  if (numR c).2.2 ≠ 0 then (V0, c, (numR c).2.2)
  else if fitsV k (bitV k (numV k (numR c).1)) = false then (V0, c, 6)
  else if k = 9 /\ accB p tgt (numR c).1 = false then (V0, c, 16)
  else (bitV k (numV k (numR c).1), (numR c).2.1, 0)
 else (V0, c, 12)
theorem wU_range (n : Int) : 0 <= wU n /\ wU n < 18446744073709551616 := by simp only [wU, IntKind.wrap, IntKind.signed, IntKind.bits]; simp; omega
theorem numR_range (c : GCursor) : 0 <= (numR c).1 /\ (numR c).1 < 18446744073709551616 := by
 have hl := takeS_lt (restS c) 10 0 0 rfl (by omega) (by decide)
 unfold numR
 split
 ·split
  ·exact ⟨Int.natCast_nonneg _, by simp only; omega⟩
  ·exact ⟨(by decide : (0 : Int) <= 0), (by decide : (0 : Int) < 18446744073709551616)⟩
 ·exact ⟨(by decide : (0 : Int) <= 0), (by decide : (0 : Int) < 18446744073709551616)⟩
theorem byteR_range (c : GCursor) : 0 <= (byteR c).1 /\ (byteR c).1 < 256 := by
 unfold byteR
 split
 ·have := byteN_eq c.Data c.At.toNat; simp only; omega
 ·exact ⟨(by decide : (0 : Int) <= 0), (by decide : (0 : Int) < 256)⟩
theorem OkV.bit {k b : Int} (h : 0 <= b /\ b < 18446744073709551616) : OkV (bitV k b) := ⟨by simp [bitV], by simp [bitV], by simp [bitV], by simp [bitV], (by decide : (0 : Nat) <= 140737488351232), h.1, h.2⟩
theorem numV_range (k : Int) (c : GCursor) : 0 <= numV k (numR c).1 /\ numV k (numR c).1 < 18446744073709551616 := by
 unfold numV
 split
 ·exact wU_range _
 ·exact numR_range c
section
variable (p : GPlan) (hp : OkE p) (o : GOp) (c : GCursor) (hc : OkC c)
 include hp hc
theorem scal_j10 (hk : o.Kind = 2 ∨ o.Kind = 3 ∨ o.Kind = 4 ∨ o.Kind = 5 ∨ o.Kind = 9) (h0 : (numR c).2.2 = 0) : row_Scalar_j10 (numR c) p o c (numV o.Kind (numR c).1) (scalV p o.Kind o.Target c) := by
 have hn := numV_range o.Kind c
 have hr : scalV p o.Kind o.Target c = if fitsV o.Kind (bitV o.Kind (numV o.Kind (numR c).1)) = false then (V0, c, 6)
  else if o.Kind = 9 /\ accB p o.Target (numR c).1 = false then (V0, c, 16)
  else (bitV o.Kind (numV o.Kind (numR c).1), (numR c).2.1, 0) := by
  unfold scalV; rw [if_neg (by omega), if_neg (by omega), if_neg (by omega), if_pos hk, if_neg (by omega)]
 rw [hr]
 refine row_Scalar_j10_step _ _ _ _ _ _ ⟨_, fits_is o.Kind (bitV o.Kind (numV o.Kind (numR c).1)) (OkV.bit hn), fun h => ?_, fun h => ?_⟩
 ·rw [if_pos (by simpa using h)]; rfl
 ·rw [if_neg (by simpa using h)]
  refine ⟨fun b => b = decide (o.Kind = 9 /\ accB p o.Target (numR c).1 = false), fun b hb => ⟨fun h2 => ?_, fun h2 => ?_⟩, fun h2 => ⟨_, accepts_is p hp o.Target (numR c).1 (numR_range c).1, ?_⟩, fun h2 => ?_⟩
  ·rw [h2] at hb; rw [if_pos (of_decide_eq_true hb.symm)]; rfl
  ·rw [h2] at hb; rw [if_neg (of_decide_eq_false hb.symm)]; rfl
  ·have : o.Kind = 9 := by simpa using h2
   cases accB p o.Target (numR c).1 <;> simp [this]
  ·have : ¬ o.Kind = 9 := by simpa using h2
   simp [this]
theorem rscal_j6 (hk : o.Kind = 2 ∨ o.Kind = 3 ∨ o.Kind = 4 ∨ o.Kind = 5 ∨ o.Kind = 9) (h0 : (numR c).2.2 = 0) : ref28_Scalar_j6 (numR c) p o c (numV o.Kind (numR c).1) (scalV p o.Kind o.Target c) := by
 have hn := numV_range o.Kind c
 have hr : scalV p o.Kind o.Target c = if fitsV o.Kind (bitV o.Kind (numV o.Kind (numR c).1)) = false then (V0, c, 6)
  else if o.Kind = 9 /\ accB p o.Target (numR c).1 = false then (V0, c, 16)
  else (bitV o.Kind (numV o.Kind (numR c).1), (numR c).2.1, 0) := by
  unfold scalV; rw [if_neg (by omega), if_neg (by omega), if_neg (by omega), if_pos hk, if_neg (by omega)]
 rw [hr]
 refine ref28_Scalar_j6_step _ _ _ _ _ _ ⟨_, rfits_is o.Kind (bitV o.Kind (numV o.Kind (numR c).1)) (OkV.bit hn), fun h => ?_, fun h => ?_⟩
 ·rw [if_pos (by simpa using h)]; rfl
 ·rw [if_neg (by simpa using h)]
  refine ⟨fun b => b = decide (o.Kind = 9 /\ accB p o.Target (numR c).1 = false), fun b hb => ⟨fun h2 => ?_, fun h2 => ?_⟩, fun h2 => ⟨_, raccepts_is p hp o.Target (numR c).1 (numR_range c).1, ?_⟩, fun h2 => ?_⟩
  ·rw [h2] at hb; rw [if_pos (of_decide_eq_true hb.symm)]; rfl
  ·rw [h2] at hb; rw [if_neg (of_decide_eq_false hb.symm)]; rfl
  ·have : o.Kind = 9 := by simpa using h2
   cases accB p o.Target (numR c).1 <;> simp [this]
  ·have : ¬ o.Kind = 9 := by simpa using h2
   simp [this]
theorem zag_at : varint_Zag (numR c).1 (zagI (numR c).1.toNat) /\ ref01_Zag (numR c).1 (zagI (numR c).1.toNat) := by
 have h := numR_range c
 have e : (((numR c).1.toNat : Nat) : Int) = (numR c).1 := by omega
 have h1 := zag_is (numR c).1.toNat (by omega)
 have h2 := rzag_is (numR c).1.toNat (by omega)
 rw [e] at h1 h2
 exact ⟨h1, h2⟩
theorem scal_j8 (b : Bool) (h1 : ¬ o.Kind = 1) (h6 : ¬ o.Kind = 6) (h78 : ¬ (o.Kind = 7 ∨ o.Kind = 8)) (hb : b = true ↔ o.Kind = 2 ∨ o.Kind = 3 ∨ o.Kind = 4 ∨ o.Kind = 5 ∨ o.Kind = 9) : row_Scalar_j8 b p o c (scalV p o.Kind o.Target c) := by
 refine row_Scalar_j8_step _ _ _ _ _ ⟨fun h => ⟨_, number_is c hc, fun h2 => ?_, fun h2 => ?_⟩, fun h => ?_⟩
 ·have h3 : (numR c).2.2 ≠ 0 := by simpa using h2
  unfold scalV
  rw [if_neg h1, if_neg h6, if_neg h78, if_pos (hb.1 h), if_pos h3]; rfl
 ·have h0 : (numR c).2.2 = 0 := by simpa using h2
  refine ⟨fun h3 => ⟨_, (zag_at p hp c hc).1, ?_⟩, fun h3 => ?_⟩
  ·have h23 : o.Kind = 2 ∨ o.Kind = 3 := by simpa using h3
   have := scal_j10 p hp o c hc (hb.1 h) h0
   rwa [numV, if_pos h23] at this
  ·have h23 : ¬ (o.Kind = 2 ∨ o.Kind = 3) := by simpa using h3
   have := scal_j10 p hp o c hc (hb.1 h) h0
   rwa [numV, if_neg h23] at this
 ·unfold scalV
  rw [if_neg h1, if_neg h6, if_neg h78, if_neg (fun hn => by rw [hb.2 hn] at h; cases h)]; rfl
theorem scal_j6 (b : Bool) (h1 : ¬ o.Kind = 1) (h6 : ¬ o.Kind = 6) (hb : b = true ↔ o.Kind = 7 ∨ o.Kind = 8) : row_Scalar_j6 b o p c (scalV p o.Kind o.Target c) := by
 refine row_Scalar_j6_step _ _ _ _ _ ⟨fun h => ⟨_, textrow_is o.Kind c hc, ?_⟩, fun h => ?_⟩
 ·unfold scalV
  rw [if_neg h1, if_neg h6, if_pos (hb.1 h)]
 ·have h78 : ¬ (o.Kind = 7 ∨ o.Kind = 8) := fun hn => by rw [hb.2 hn] at h; cases h
  refine ⟨fun h2 => scal_j8 p hp o c hc _ h1 h6 h78 ?_, fun h2 => ⟨fun h3 => scal_j8 p hp o c hc _ h1 h6 h78 ?_, fun h3 => ⟨fun h4 => scal_j8 p hp o c hc _ h1 h6 h78 ?_, fun h4 => ⟨fun h5 => scal_j8 p hp o c hc _ h1 h6 h78 ?_, fun h5 => scal_j8 p hp o c hc _ h1 h6 h78 ?_⟩⟩⟩⟩
  all_goals simp only [beq_iff_eq, beq_eq_false_iff_ne] at *
  all_goals omega
theorem scalar_is : row_Scalar p o c (scalV p o.Kind o.Target c) := by
 have hb := byteR_range c
 have e : wU (byteR c).1 = (byteR c).1 := wrapU (by omega)
 refine row_Scalar_step _ _ _ _ ⟨fun h => ⟨_, byte_is c hc, fun h2 => ?_, fun h2 => ⟨fun h3 => ?_, fun h3 => ?_⟩⟩, fun h => ⟨fun h2 => ⟨_, double_is c hc, ?_⟩, fun h2 => ⟨fun h3 => scal_j6 p hp o c hc _ (by simpa using h) (by simpa using h2) ?_, fun h3 => scal_j6 p hp o c hc _ (by simpa using h) (by simpa using h2) ?_⟩⟩⟩
 all_goals simp only [beq_iff_eq, beq_eq_false_iff_ne] at h
 ·unfold scalV
  rw [if_pos h, if_pos (by simpa using h2)]; rfl
 ·unfold scalV
  rw [if_pos h, if_neg (by simpa using h2), if_pos (by simpa using h3)]; rfl
 ·unfold scalV
  rw [if_pos h, if_neg (by simpa using h2), if_neg (by simpa using h3), e]; rfl
 ·unfold scalV
  rw [if_neg h, if_pos (by simpa using h2)]
 all_goals simp only [beq_iff_eq, beq_eq_false_iff_ne] at *
 all_goals omega
theorem rscal_j4 (b : Bool) (hb : b = true ↔ o.Kind = 7 ∨ o.Kind = 8) : ref28_Scalar_j4 b o p c (scalV p o.Kind o.Target c) := by
 have hbr := byteR_range c
 have e : wU (byteR c).1 = (byteR c).1 := wrapU (by omega)
 refine ref28_Scalar_j4_step _ _ _ _ _ ⟨fun h => ⟨_, rtextrow_is o.Kind c hc, ?_⟩, fun h => ?_⟩
 ·have := hb.1 h
  unfold scalV
  rw [if_neg (by omega), if_neg (by omega), if_pos this]
 have h78 : ¬ (o.Kind = 7 ∨ o.Kind = 8) := fun hn => by rw [hb.2 hn] at h; cases h
 refine ⟨fun h1 => ⟨_, rbyte_is c hc, fun h2 => ?_, fun h2 => ⟨fun h3 => ?_, fun h3 => ?_⟩⟩, fun h1 => ?_⟩
 ·unfold scalV
  rw [if_pos (by simpa using h1), if_pos (by simpa using h2)]; rfl
 ·unfold scalV
  rw [if_pos (by simpa using h1), if_neg (by simpa using h2), if_pos (by simpa using h3)]; rfl
 ·unfold scalV
  rw [if_pos (by simpa using h1), if_neg (by simpa using h2), if_neg (by simpa using h3), e]; rfl
 have n1 : ¬ o.Kind = 1 := by simpa using h1
 refine ⟨fun h6 => ?_, fun h6 => ?_⟩
 ·have k6 : o.Kind = 6 := by simpa using h6
  have hs : scalV p o.Kind o.Target c = doubV c := by unfold scalV; rw [if_neg n1, if_pos k6]
  rw [hs]
  refine ⟨_, rfixed_is c hc, fun h2 => ?_, fun h2 => ⟨_, rnorm_is _ (fixR_bits c), fun h3 => ?_, fun h3 => ?_⟩⟩
  ·rw [doubV, if_pos (by simpa using h2)]; rfl
  all_goals
   simp only [k6] at h3 ⊢
   unfold doubV
   rw [if_neg (by simpa using h2)]
  ·rw [if_pos (by simpa using h3)]; rfl
  ·rw [if_neg (by simpa using h3)]
 have n6 : ¬ o.Kind = 6 := by simpa using h6
 refine ⟨_, ref04_Is_step _ _ rfl, fun h2 => ?_, fun h2 => ⟨_, rnumber_is c hc, fun h3 => ?_, fun h3 => ?_⟩⟩
 ·have : ¬ (o.Kind = 2 ∨ o.Kind = 3 ∨ o.Kind = 4 ∨ o.Kind = 5 ∨ o.Kind = 9) := by
   simp at h2; omega
  unfold scalV
  rw [if_neg n1, if_neg n6, if_neg h78, if_neg this]; rfl
 all_goals
  have hk : o.Kind = 2 ∨ o.Kind = 3 ∨ o.Kind = 4 ∨ o.Kind = 5 ∨ o.Kind = 9 := by
   simp at h2; omega
 ·unfold scalV
  rw [if_neg n1, if_neg n6, if_neg h78, if_pos hk, if_pos (by simpa using h3)]; rfl
 ·have h0 : (numR c).2.2 = 0 := by simpa using h3
  refine ⟨fun h3 => ⟨_, (zag_at p hp c hc).2, ?_⟩, fun h3 => ?_⟩
  ·have h23 : o.Kind = 2 ∨ o.Kind = 3 := by simpa using h3
   have := rscal_j6 p hp o c hc hk h0
   rwa [numV, if_pos h23] at this
  ·have h23 : ¬ (o.Kind = 2 ∨ o.Kind = 3) := by simpa using h3
   have := rscal_j6 p hp o c hc hk h0
   rwa [numV, if_neg h23] at this
theorem rscalar_is : ref28_Scalar p o c (scalV p o.Kind o.Target c) := by
 refine ref28_Scalar_step _ _ _ _ ⟨fun h => rscal_j4 p hp o c hc _ ?_, fun h => rscal_j4 p hp o c hc _ ?_⟩
 all_goals simp only [beq_iff_eq, beq_eq_false_iff_ne] at *
 all_goals omega
end
theorem byteN_ofI {l : List Int} (hl : bytesL l) {j : Nat} {x : Int} (hx : l[j]? = some x) : ((byteN (ofI l) j : Nat) : Int) = x := by
 have h := hl x (List.mem_of_getElem? hx)
 unfold byteN byteAt ofI
 simp only [List.getD_eq_getElem?_getD, List.getElem?_map, hx, Option.map_some, Option.getD_some]
 have : (UInt8.ofNat x.toNat).toNat = x.toNat := by simp; omega
 omega
theorem byteN_left (a b : ByteArray) {j : Nat} (h : j < a.size) : byteN (a ++ b) j = byteN a j := by
 have h2 : j < a.data.size := h
 unfold byteN byteAt
 simp [ByteArray.data_append, List.getElem?_append_left (show j < a.data.toList.length by simpa using h2)]
theorem takeS_put (s : ByteArray) (u : Nat) : ∀ i acc : Nat, i <= 9 -> u * 128 ^ i < 18446744073709551616 -> i + (putL u).length <= s.size -> (∀ j x, (putL u)[j]? = some x -> ((byteN s (i + j) : Nat) : Int) = x) -> takeS s i acc = (acc + u * 128 ^ i, i + (putL u).length, 0) := by
 induction u using Nat.strongRecOn with
 | _ u ih =>
  intro i acc hi hb hl hx
  have hp := putL_len u
  obtain ⟨p1, p2, p3⟩ := pow128 hi
  rw [takeS.eq_def, if_neg (by omega), if_neg (by omega)]
  by_cases h : u < 128
  ·have hu : putL u = [(u : Int)] := by rw [putL, if_pos h]
   have h0 : byteN s i = u := by
    have := hx 0 u (by rw [hu]; rfl)
    rw [Nat.add_zero] at this
    omega
   rw [h0, if_neg, if_pos h, hu]
   ·rfl
   ·rintro ⟨rfl, h1⟩
    have : (128 : Nat) ^ 9 = 9223372036854775808 := by decide
    rw [this] at hb
    omega
  ·have hu : putL u = ((u % 128 + 128 : Nat) : Int) :: putL (u / 128) := by rw [putL, if_neg h]
   have h0 : byteN s i = u % 128 + 128 := by
    have := hx 0 _ (by rw [hu]; rfl)
    rw [Nat.add_zero] at this
    omega
   have h9 : i <= 8 := by
    rcases Nat.lt_or_ge i 9 with h9 | h9
    ·omega
    ·obtain rfl : i = 9 := by omega
     have : (128 : Nat) ^ 9 = 9223372036854775808 := by decide
     rw [this] at hb
     omega
   rw [h0, if_neg (by omega), if_neg (by omega)]
   have e1 : (u % 128 + 128) % 128 = u % 128 := by omega
   have e2 : u * 128 ^ i = u % 128 * 128 ^ i + u / 128 * 128 ^ (i + 1) := by
    rw [Nat.pow_succ, Nat.mul_comm (128 ^ i) 128, ← Nat.mul_assoc, ← Nat.add_mul]
    congr 1
    omega
   rw [hu] at hl
   rw [e1, ih (u / 128) (by omega) (i + 1) _ (by omega) (by omega) (by simp at hl; omega) (fun j x hj => by
    have := hx (j + 1) x (by rw [hu]; simpa using hj)
    rw [show i + 1 + j = i + (j + 1) by omega]; exact this), hu, e2]
   simp only [List.length_cons]
   refine Prod.ext ?_ (Prod.ext ?_ rfl)
   ·simp only; omega
   ·simp only; omega
theorem ba_size (a b : ByteArray) : (a ++ b).size = a.size + b.size := ByteArray.size_append
theorem take_put (u : Nat) (hu : u < 18446744073709551616) (t : ByteArray) : takeS (putS u ++ t) 0 0 = (u, (putS u).size, 0) := by
 have hz : (putS u).size = (putL u).length := ofI_size _
 have := takeS_put (putS u ++ t) u 0 0 (by omega) (by simpa using hu) (by rw [ba_size, hz]; omega) (fun j x hj => by
  have hlt : j < (putS u).size := by rw [hz]; exact (List.getElem?_eq_some_iff.1 hj).1
  rw [Nat.zero_add, byteN_left _ _ hlt]
  exact byteN_ofI (putL_bytes u) hj)
 rw [this, hz]
 simp
theorem num_put (c : GCursor) (u : Nat) (hu : u < 18446744073709551616) (t : ByteArray) (h : restS c = putS u ++ t) : numR c = ((u : Int), behindC c (putS u).size, 0) := by
 have := take_put u hu t
 unfold numR
 rw [h, this]
 simp
theorem leS_fix (u : Nat) : ∀ n, n <= 8 -> leS (fixW u) n = u % 256 ^ n
 | 0, _ => by simp [leS]; omega
 | n + 1, h => by
  simp only [leS]
  rw [leS_fix u n (by omega)]
  have hx : (fixL u 8)[n]? = some ((u / 256 ^ n % 256 : Nat) : Int) := by simp [fixL, show n < 8 by omega]
  have := byteN_ofI (fixL_bytes u 8) hx
  have e : byteN (fixW u) n = u / 256 ^ n % 256 := by unfold fixW; omega
  rw [e, Nat.pow_succ, Nat.mod_mul, Nat.mul_comm (256 ^ n)]
theorem fix_size (u : Nat) : (fixW u).size = 8 := by rw [fixW, ofI_size]; simp [fixL]
theorem fix_put (c : GCursor) (u : Nat) (hu : u < 18446744073709551616) (t : ByteArray) (h : restS c = fixW u ++ t) : fixR c = ((u : Int), behindC c 8, 0) := by
 have hz := fix_size u
 have e1 : leS (restS c) 8 = u := by
  rw [h, leS_congr _ (fixW u) 8 (fun i hi => byteN_left _ _ (by omega)), leS_fix u 8 (Nat.le_refl _)]
  exact Nat.mod_eq_of_lt (by simpa using hu)
 unfold fixR
 rw [if_pos (by rw [h, ba_size]; omega), e1]
def atS (d : ByteArray) : GCursor := ⟨d, 0, d.size, 0, 0, 9999⟩
theorem left_at (d : ByteArray) (n : Nat) (h : n <= d.size) : leftI d n d.size = d.size - n := by
 have : soundB d n d.size = true := by simp [soundB]; omega
 rw [leftI, if_pos this]
theorem ba_all (d : ByteArray) : d.extract 0 d.size = d := by simp
theorem rest_at (d : ByteArray) : restS (atS d) = d := by
 unfold restS atS
 have := left_at d 0 (by omega)
 simp only [Int.toNat_zero, Nat.zero_add]
 rw [show ((0 : Nat) : Int) = 0 from rfl] at this
 rw [this, show ((d.size : Int) - 0).toNat = d.size by omega]
 exact ba_all d
theorem ok_at (d : ByteArray) (h : d.size <= 140737488351232) : OkC (atS d) := ⟨h, by simp [atS], by simp [atS]⟩
theorem cut_mid (a b t : ByteArray) : (a ++ b ++ t).extract a.size (a.size + b.size) = b := by
 rw [ByteArray.append_assoc]
 apply ba_ext
 ·rw [ByteArray.size_extract, ba_size, ba_size]; omega
 ·intro i hi
  have hz : ((a ++ (b ++ t)).extract a.size (a.size + b.size)).size = b.size := by rw [ByteArray.size_extract, ba_size, ba_size]; omega
  have hi' : i < b.size := Nat.lt_of_lt_of_eq hi hz
  rw [byteN_cut _ (by omega)]
  unfold byteN byteAt
  have h1 : a.data.toList.length = a.size := Array.length_toList
  have h2 : b.data.toList.length = b.size := Array.length_toList
  simp only [ByteArray.data_append, Array.toList_append, List.getD_eq_getElem?_getD]
  rw [List.getElem?_append_right (by rw [h1]; omega), List.getElem?_append_left (by rw [h1, h2]; omega), h1, show a.size + i - a.size = i by omega]
structure SameV (a b : GValue) : Prop where
 k : a.Kind = b.Kind
 t : (a.Kind = 7 ∨ a.Kind = 8) -> a.Text = b.Text
 r : ¬ (a.Kind = 7 ∨ a.Kind = 8) -> a.Bits = b.Bits ∨ a.Kind = 6 /\ clsS a.Bits.toNat = 0 /\ clsS b.Bits.toNat = 0
theorem clsNan : clsS 9221120237041090560 = 0 := by decide
theorem same_norm (v : GValue) (x : GValue) (hk : x.Kind = v.Kind) (h6 : v.Kind = 6) (hx : x.Bits = (normV v).Bits) : SameV x v := by
 refine ⟨hk, fun h => by omega, fun _ => ?_⟩
 unfold normV at hx
 split at hx
 ·rename_i h
  exact .inr ⟨by omega, by rw [hx]; exact clsNan, h.2⟩
 ·exact .inl hx
theorem norm_twice (v : GValue) (h6 : v.Kind = 6) : (normV ⟨6, (normV v).Bits, ⟨#[]⟩, [], [], [], []⟩).Bits = (normV v).Bits := by
 by_cases hc : clsS v.Bits.toNat = 0
 ·have e : (normV v).Bits = 9221120237041090560 := by unfold normV; rw [if_pos ⟨h6, hc⟩]
  rw [e]
  unfold normV
  rw [if_pos ⟨rfl, clsNan⟩]
 ·have e : (normV v).Bits = v.Bits := by unfold normV; rw [if_neg (fun h => hc h.2)]
  rw [e]
  unfold normV
  rw [if_neg (fun h => hc h.2)]
theorem fits_facts (v : GValue) (h : fitsV v.Kind v = true) : 1 <= v.Kind /\ v.Kind <= 9 /\ ((v.Kind = 7 ∨ v.Kind = 8) -> v.Bits = 0 /\ v.Text.size <= 4096 /\ (v.Kind = 7 -> validB v.Text = true)) /\ (¬ (v.Kind = 7 ∨ v.Kind = 8) -> withinB v.Kind v.Bits = true) := by
 unfold fitsV at h
 simp only [Bool.and_eq_true, decide_eq_true_eq] at h
 obtain ⟨⟨h1, _⟩, h2⟩ := h
 refine ⟨h1.1, h1.2.1, fun h3 => ?_, fun h3 => ?_⟩
 ·rw [if_pos h3] at h2
  simp only [Bool.and_eq_true, decide_eq_true_eq, Bool.or_eq_true, Bool.not_eq_true', decide_eq_false_iff_not] at h2
  exact ⟨h2.1.1, h2.1.2, fun h7 => by rcases h2.2 with h | h; exact absurd h7 h; exact h⟩
 ·rw [if_neg h3] at h2
  simp only [Bool.and_eq_true] at h2
  exact h2.2
theorem fits_bit (v : GValue) (h : fitsV v.Kind v = true) (h78 : ¬ (v.Kind = 7 ∨ v.Kind = 8)) : fitsV v.Kind (bitV v.Kind v.Bits) = true := by
 obtain ⟨h1, h2, h3, h4⟩ := fits_facts v h
 unfold fitsV
 rw [if_neg h78]
 simp [bitV, loneV, h1, h2, h4 h78]
theorem wU_wI {n : Int} (h : 0 <= n /\ n < 18446744073709551616) : wU (wI n) = n := by simp only [wU, wI, IntKind.wrap, IntKind.signed, IntKind.bits]; simp; omega
theorem read_put (p : GPlan) (v : GValue) (hv : OkV v) (t : ByteArray) (hs : putV v ≠ ⟨#[]⟩) (h9 : v.Kind ≠ 9) (ht : t.size <= 100000) :
  ∃ y, scalV p v.Kind (-1) (atS (putV v ++ t)) = (y, behindC (atS (putV v ++ t)) (putV v).size, 0) /\ SameV y v /\ ((putV v).size : Int) <= 5000 := by
 have hf : fitsV v.Kind v = true := by
  cases h : fitsV v.Kind v with
  | true => rfl
  | false => exact absurd (by unfold putV; rw [h]; rfl) hs
 obtain ⟨k1, k2, k3, k4⟩ := fits_facts v hf
 have hr := rest_at (putV v ++ t)
 have b0 := hv.b0; have b1 := hv.b1
 have key : ∀ u : Nat, u < 18446744073709551616 -> putV v = putS u -> (v.Kind = 2 ∨ v.Kind = 3 ∨ v.Kind = 4 ∨ v.Kind = 5) -> numV v.Kind u = v.Bits -> ∃ y, scalV p v.Kind (-1) (atS (putV v ++ t)) = (y, behindC (atS (putV v ++ t)) (putV v).size, 0) /\ SameV y v /\ ((putV v).size : Int) <= 5000 := by
  intro u hu hp hk hn
  have hz := putS_size u hu
  have := num_put (atS (putV v ++ t)) u hu t (by rw [hr, hp])
  refine ⟨bitV v.Kind v.Bits, ?_, ⟨rfl, fun h => by simp only [bitV] at h; omega, fun _ => .inl rfl⟩, by rw [hp]; omega⟩
  unfold scalV
  rw [if_neg (by omega), if_neg (by omega), if_neg (by omega), if_pos (by omega), this]
  simp only [ne_eq, not_true_eq_false, if_false]
  rw [hn, fits_bit v hf (by omega), if_neg (by simp), if_neg (by omega), hp]
 by_cases e1 : v.Kind = 1
 ·have hw : v.Bits <= 1 := by
   have := k4 (by omega)
   rw [withinB, if_pos e1] at this
   simpa using this
  have hp : putV v = ofI [v.Bits] := by unfold putV; rw [if_pos hf, if_pos e1, show v.Bits % 256 = v.Bits by omega]
  have hz : (putV v).size = 1 := by rw [hp, ofI_size]; rfl
  have hl := left_at (putV v ++ t) 0 (by omega)
  have hb : byteAt (putV v ++ t) 0 = v.Bits := by
   have h1 := byteN_left (putV v) t (j := 0) (by omega)
   have h2 : ((byteN (putV v) 0 : Nat) : Int) = v.Bits := by rw [hp]; exact byteN_ofI (bytesL_one (by omega)) rfl
   rw [(byteN_eq _ _).1, h1]; exact h2
  have hB : byteR (atS (putV v ++ t)) = (v.Bits, behindC (atS (putV v ++ t)) 1, 0) := by
   unfold byteR
   rw [if_pos]
   ·simp only [atS, Int.toNat_zero, hb]
   ·show 0 < leftI (putV v ++ t) 0 ((putV v ++ t).size : Int)
    rw [show (0 : Int) = ((0 : Nat) : Int) from rfl, hl, ba_size, hz]; omega
  refine ⟨bitV v.Kind v.Bits, ?_, ⟨rfl, fun h => by simp only [bitV] at h; omega, fun _ => .inl rfl⟩, by rw [hz]; omega⟩
  unfold scalV
  rw [if_pos e1, hB]
  simp only [ne_eq, not_true_eq_false, if_false]
  rw [if_neg (by omega), hz]; rfl
 by_cases e23 : v.Kind = 2 ∨ v.Kind = 3
 ·have hw := wI_range v.Bits
  refine key (zigN (wI v.Bits)) (zigN_lt hw) (by unfold putV; rw [if_pos hf, if_neg e1, if_pos e23]) (by omega) ?_
  unfold numV
  rw [if_pos e23, Int.toNat_natCast, zag_zig, wU_wI ⟨b0, b1⟩]
 by_cases e6 : v.Kind = 6
 ·have hn := normV_bits v hv
  have hp : putV v = fixW (normV v).Bits.toNat := by unfold putV; rw [if_pos hf, if_neg e1, if_neg e23, if_pos e6]
  have := fix_put (atS (putV v ++ t)) (normV v).Bits.toNat (by omega) t (by rw [hr, hp])
  rw [show (((normV v).Bits.toNat : Nat) : Int) = (normV v).Bits by omega] at this
  have hz : (putV v).size = 8 := by rw [hp]; exact fix_size _
  refine ⟨⟨6, (normV v).Bits, ⟨#[]⟩, [], [], [], []⟩, ?_, same_norm v _ e6.symm e6 rfl, by rw [hz]; omega⟩
  unfold scalV
  rw [if_neg e1, if_pos e6]
  unfold doubV
  rw [this]
  simp only [ne_eq, not_true_eq_false, if_false]
  rw [norm_twice v e6, if_neg (by simp), hz]; rfl
 by_cases e78 : v.Kind = 7 ∨ v.Kind = 8
 ·obtain ⟨k5, k6, k7⟩ := k3 e78
  have hp : putV v = putS v.Text.size ++ v.Text := by unfold putV; rw [if_pos hf, if_neg e1, if_neg e23, if_neg e6, if_pos e78]
  have hz := putS_size v.Text.size (by omega)
  have hsz : (putV v).size = (putS v.Text.size).size + v.Text.size := by rw [hp, ba_size]
  have hN := num_put (atS (putV v ++ t)) v.Text.size (by omega) (v.Text ++ t) (by rw [hr, hp, ByteArray.append_assoc])
  have hD : (putV v ++ t).size = (putS v.Text.size).size + v.Text.size + t.size := by rw [ba_size, hsz]
  have hl := left_at (putV v ++ t) (putS v.Text.size).size (by omega)
  have hl2 : leftI (behindC (atS (putV v ++ t)) (putS v.Text.size).size).Data (behindC (atS (putV v ++ t)) (putS v.Text.size).size).At (behindC (atS (putV v ++ t)) (putS v.Text.size).size).End = ((putV v ++ t).size : Int) - (putS v.Text.size).size := by
   simp only [behindC, atS, Int.zero_add]; exact hl
  have hT : textR (behindC (atS (putV v ++ t)) (putS v.Text.size).size) v.Text.size = (v.Text, behindC (atS (putV v ++ t)) (putV v).size, 0) := by
   unfold textR
   rw [if_neg (by omega), if_neg (by rw [hl2, hD]; omega), if_neg (by simp only [behindC, atS]; omega)]
   refine Prod.ext ?_ (Prod.ext ?_ rfl)
   ·simp only [behindC, atS, Int.zero_add, Int.toNat_natCast]
    rw [hp]
    exact cut_mid _ _ _
   ·simp only [behindC, atS, hsz]
    simp
  refine ⟨⟨v.Kind, 0, v.Text, [], [], [], []⟩, ?_, ⟨rfl, fun _ => rfl, fun h => absurd e78 h⟩, by omega⟩
  unfold scalV
  rw [if_neg e1, if_neg e6, if_pos e78]
  unfold textV
  rw [hN]
  simp only [ne_eq, not_true_eq_false, if_false]
  rw [if_neg (by rw [hl2, hD]; omega), hT]
  simp only [ne_eq, not_true_eq_false, if_false]
  rw [if_neg]
  rintro ⟨h7, h8⟩
  rw [k7 h7] at h8; cases h8
 ·refine key v.Bits.toNat (by omega) (by unfold putV; rw [if_pos hf, if_neg e1, if_neg e23, if_neg e6, if_neg e78]) (by omega) ?_
  unfold numV
  rw [if_neg e23]; omega
def Ex {α : Type} (Q p : α -> Prop) : Prop := ∃ r, p r /\ Q r
section
variable {α β : Type} {Q : α -> Prop}
theorem ex_eq {e : α} (h : Q e) : Ex Q (fun r => r = e) := ⟨e, rfl, h⟩
theorem ex_if {c : Prop} [Decidable c] {p q : α -> Prop} (h1 : c -> Ex Q p) (h2 : ¬ c -> Ex Q q) : Ex Q (fun r => (decide c = true -> p r) /\ (decide c = false -> q r)) := by
 by_cases h : c
 ·obtain ⟨r, a, b⟩ := h1 h
  exact ⟨r, ⟨fun _ => a, fun h' => absurd h (of_decide_eq_false h')⟩, b⟩
 ·obtain ⟨r, a, b⟩ := h2 h
  exact ⟨r, ⟨fun h' => absurd (of_decide_eq_true h') h, fun _ => a⟩, b⟩
theorem ex_ne {c : Prop} [Decidable c] {p q : α -> Prop} (h1 : ¬ c -> Ex Q p) (h2 : c -> Ex Q q) : Ex Q (fun r => ((!decide c) = true -> p r) /\ ((!decide c) = false -> q r)) := by
 by_cases h : c
 ·obtain ⟨r, a, b⟩ := h2 h
  exact ⟨r, ⟨fun h' => by simp [h] at h', fun _ => a⟩, b⟩
 ·obtain ⟨r, a, b⟩ := h1 h
  exact ⟨r, ⟨fun _ => a, fun h' => by simp [h] at h'⟩, b⟩
theorem ex_cond (B : Bool) {p q : α -> Prop} (h1 : B = true -> Ex Q p) (h2 : B = false -> Ex Q q) : Ex Q (fun r => (B = true -> p r) /\ (B = false -> q r)) := by
 cases hB : B with
 | true => obtain ⟨r, a, b⟩ := h1 hB; exact ⟨r, ⟨fun _ => a, fun h => by cases h⟩, b⟩
 | false => obtain ⟨r, a, b⟩ := h2 hB; exact ⟨r, ⟨fun h => (by cases h), fun _ => a⟩, b⟩
theorem ex_call {F : β -> Prop} {G : β -> α -> Prop} {S : β -> Prop} (h : Ex S F) (k : ∀ y, S y -> Ex Q (G y)) : Ex Q (fun r => ∃ y, F y /\ G y r) := by
 obtain ⟨y, hy, hs⟩ := h
 obtain ⟨r, a, b⟩ := k y hs
 exact ⟨r, ⟨y, hy, a⟩, b⟩
theorem ex_val {F : β -> Prop} {G : β -> α -> Prop} {v : β} (h : F v) (k : Ex Q (G v)) : Ex Q (fun r => ∃ y, F y /\ G y r) := by
 obtain ⟨r, a, b⟩ := k
 exact ⟨r, ⟨v, h, a⟩, b⟩
theorem ex_idx {l : List β} {i : Int} {G : β -> α -> Prop} (h : 0 <= i /\ i < l.length) (k : ∀ y, l[i.toNat]? = some y -> y ∈ l -> Ex Q (G y)) : Ex Q (fun r => ∃ y, l[i.toNat]? = some y /\ 0 <= i /\ G y r) := by
 have hlt : i.toNat < l.length := by omega
 have he := List.getElem?_eq_getElem hlt
 obtain ⟨r, a, b⟩ := k _ he (List.getElem_mem hlt)
 exact ⟨r, ⟨_, he, h.1, a⟩, b⟩
theorem ex_at {l : List β} {i : Int} {G : β -> α -> Prop} (y : β) (hy : l[i.toNat]? = some y) (h : 0 <= i) (k : Ex Q (G y)) : Ex Q (fun r => ∃ y, l[i.toNat]? = some y /\ 0 <= i /\ G y r) := by
 obtain ⟨r, a, b⟩ := k
 exact ⟨r, ⟨y, hy, h, a⟩, b⟩
theorem ex_and {A : Prop} {G : α -> Prop} (h : A) (k : Ex Q G) : Ex Q (fun r => A /\ G r) := by
 obtain ⟨r, a, b⟩ := k
 exact ⟨r, ⟨h, a⟩, b⟩
theorem ex_join {G : β -> α -> Prop} {H : (β -> Prop) -> α -> Prop} (k : Ex Q (fun r => H (fun z => G z r) r)) : Ex Q (fun r => ∃ R : β -> Prop, (∀ z, R z -> G z r) /\ H R r) := by
 obtain ⟨r, a, b⟩ := k
 exact ⟨r, ⟨fun z => G z r, fun z h => h, a⟩, b⟩
theorem ex_step {p F : α -> Prop} (h : ∀ r, p r -> F r) (k : Ex Q p) : Ex Q F := by
 obtain ⟨r, a, b⟩ := k
 exact ⟨r, h r a, b⟩
theorem ex_mono {p : α -> Prop} {S : α -> Prop} (h : Ex S p) (k : ∀ r, S r -> Q r) : Ex Q p := by
 obtain ⟨r, a, b⟩ := h
 exact ⟨r, a, k r b⟩
theorem Ex.to {p : α -> Prop} (h : Ex Q p) : ∃ r, p r /\ Q r := h
end
theorem upn {T : Nat -> Prop} (n : Nat) (step : ∀ i, i < n -> T (i + 1) -> T i) (fin : ∀ i, n <= i -> T i) : ∀ i, T i := by
 have : ∀ k i, n - i <= k -> T i := by
  intro k
  induction k with
  | zero => exact fun i h => fin i (by omega)
  | succ k ih =>
   intro i h
   rcases Nat.lt_or_ge i n with h1 | h1
   ·exact step i h1 (ih (i + 1) (by omega))
   ·exact fin i h1
 exact fun i => this (n - i) i (Nat.le_refl _)
theorem wI_up {i : Nat} (h : i <= 4611686018427387904) : wI ((i : Int) + 1) = ((i + 1 : Nat) : Int) := by rw [wI, wrapI (by omega)]; omega
theorem wI_dn {i : Nat} (h : 0 < i /\ i <= 4611686018427387904) : wI ((i : Int) - 1) = ((i - 1 : Nat) : Int) := by rw [wI, wrapI (by omega)]; omega
def yes {α : Type} : α -> Prop := fun _ => True
theorem t_small (b : Int) : Ex yes (ref06_small b) := ex_step (ref06_small_step _) (ex_eq trivial)
theorem t_capital (b : Int) : Ex yes (ref06_capital b) := ex_step (ref06_capital_step _) (ex_eq trivial)
theorem t_part_j (s : ByteArray) (hs : s.size <= 140737488351232) : ∀ i : Nat, Ex yes (ref06_IsPart_j2 (i : Int) s) := by
 refine upn (s.size) (fun i hi ih => ?_) (fun i hi => ?_)
 ·refine ex_step (ref06_IsPart_j2_step _ _) ?_
  rw [wI_up (by omega)]
  repeat' first | exact ex_eq trivial | exact ih | assumption | refine ex_join ?_ | refine ex_if (fun h => ?_) (fun h => ?_) | refine ex_ne (fun h => ?_) (fun h => ?_) | refine ex_cond _ (fun h => ?_) (fun h => ?_) | refine ex_idx (by omega) (fun y hy hm => ?_) | refine ex_and (by omega) ?_ | refine ex_call (t_small _) (fun y hq => ?_) | refine ex_call (t_capital _) (fun y hq => ?_)
 ·refine ex_step (ref06_IsPart_j2_step _ _) ?_
  repeat' first | exact ex_eq trivial | exact ih | assumption | exact absurd ‹_› (by omega) | (exfalso; omega) | refine ex_join ?_ | refine ex_if (fun h => ?_) (fun h => ?_) | refine ex_ne (fun h => ?_) (fun h => ?_) | refine ex_cond _ (fun h => ?_) (fun h => ?_) | refine ex_idx (by omega) (fun y hy hm => ?_) | refine ex_and (by omega) ?_ | refine ex_call (t_small _) (fun y hq => ?_) | refine ex_call (t_capital _) (fun y hq => ?_)
theorem t_part (s : ByteArray) (hs : s.size <= 140737488351232) : Ex yes (ref06_IsPart s) := by
 refine ex_step (ref06_IsPart_step _) ?_
 repeat' first | exact ex_eq trivial | exact ih | assumption | exact t_part_j s hs 1 | refine ex_join ?_ | refine ex_if (fun h => ?_) (fun h => ?_) | refine ex_ne (fun h => ?_) (fun h => ?_) | refine ex_cond _ (fun h => ?_) (fun h => ?_) | refine ex_idx (by first | omega | (simp only [Bool.or_eq_false_iff, Bool.or_eq_true, Bool.and_eq_true, Bool.and_eq_false_iff, beq_iff_eq, beq_eq_false_iff_ne, decide_eq_false_iff_not, decide_eq_true_eq, ne_eq] at *; omega)) (fun y hy hm => ?_) | refine ex_and (by first | omega | (simp only [Bool.or_eq_false_iff, Bool.or_eq_true, Bool.and_eq_true, Bool.and_eq_false_iff, beq_iff_eq, beq_eq_false_iff_ne, decide_eq_false_iff_not, decide_eq_true_eq, ne_eq] at *; omega)) ?_ | refine ex_call (t_small _) (fun y hq => ?_) | refine ex_call (t_capital _) (fun y hq => ?_)
theorem t_word (s : ByteArray) : Ex yes (ref06_IsWord s) := by
 refine ex_step (ref06_IsWord_step _) ?_
 repeat' first | exact ex_eq trivial | exact ih | assumption | refine ex_join ?_ | refine ex_if (fun h => ?_) (fun h => ?_) | refine ex_ne (fun h => ?_) (fun h => ?_) | refine ex_cond _ (fun h => ?_) (fun h => ?_) | refine ex_idx (by omega) (fun y hy hm => ?_) | refine ex_and (by omega) ?_
theorem t_full_j (s : ByteArray) (hs : s.size <= 140737488351232) : ∀ i : Nat, ∀ w : ByteArray, w.size <= i /\ i <= 140737488351232 -> Ex yes (ref06_IsFull_j2 (i : Int) w s) := by
 refine upn s.size (fun i hi ih w hw => ?_) (fun i hi w hw => ?_)
 ·have hz : (s.extract ((i : Int)).toNat (((i + 1 : Nat) : Int)).toNat).size <= 1 := by rw [size_cut _ (by omega)]; omega
  refine ex_step (ref06_IsFull_j2_step _ _ _) ?_
  rw [wI_up (by omega)]
  repeat' first | exact ex_eq trivial | exact ih | assumption | exact ih _ (by rw [ba_size]; omega) | exact ih ⟨#[]⟩ ⟨Nat.zero_le _, by omega⟩ | refine ex_join ?_ | refine ex_if (fun h => ?_) (fun h => ?_) | refine ex_ne (fun h => ?_) (fun h => ?_) | refine ex_cond _ (fun h => ?_) (fun h => ?_) | refine ex_idx (by omega) (fun y hy hm => ?_) | refine ex_and (by omega) ?_ | refine ex_call (t_part _ (by omega)) (fun y hq => ?_)
 ·refine ex_step (ref06_IsFull_j2_step _ _ _) ?_
  repeat' first | exact ex_eq trivial | exact ih | assumption | exact absurd ‹_› (by omega) | refine ex_join ?_ | refine ex_if (fun h => ?_) (fun h => ?_) | refine ex_ne (fun h => ?_) (fun h => ?_) | refine ex_cond _ (fun h => ?_) (fun h => ?_) | refine ex_idx (by omega) (fun y hy hm => ?_) | refine ex_and (by omega) ?_ | refine ex_call (t_part _ (by omega)) (fun y hq => ?_)
theorem t_full (s : ByteArray) (hs : s.size <= 140737488351232) : Ex yes (ref06_IsFull s) := by
 refine ex_step (ref06_IsFull_step _) ?_
 repeat' first | exact ex_eq trivial | exact ih | assumption | exact t_full_j s hs 0 ⟨#[]⟩ ⟨Nat.zero_le _, by omega⟩ | refine ex_join ?_ | refine ex_if (fun h => ?_) (fun h => ?_) | refine ex_ne (fun h => ?_) (fun h => ?_) | refine ex_cond _ (fun h => ?_) (fun h => ?_) | refine ex_idx (by omega) (fun y hy hm => ?_) | refine ex_and (by omega) ?_
def splitQ (s : ByteArray) (r : ByteArray × ByteArray) : Prop := r.1.size <= s.size - 1
theorem t_split_j (s : ByteArray) (hs : s.size <= 140737488351232) : ∀ k : Nat, k <= s.size -> Ex (splitQ s) (ref06_Split_j2 ((k : Int) - 1) s) := by
 intro k
 induction k with
 | zero => exact fun _ => ex_step (ref06_Split_j2_step _ _) (ex_if (fun h => absurd h (by omega)) fun _ => ex_eq (Nat.zero_le _))
 | succ k ih =>
  intro hk
  have e : wI (((k + 1 : Nat) : Int) - 1 - 1) = (k : Int) - 1 := by rw [wI, wrapI (by omega)]; omega
  refine ex_step (ref06_Split_j2_step _ _) ?_
  rw [e]
  refine ex_if (fun h => ex_and (by omega) (ex_cond _ (fun _ => ex_and (by omega) (ex_and ?_ (ex_eq ?_))) fun _ => ih (by omega))) fun h => absurd (show (0 : Int) <= ((k + 1 : Nat) : Int) - 1 by omega) h
  ·rw [wI, wrapI (by omega)]; omega
  ·unfold splitQ; simp only; rw [size_cut _ (by omega)]; omega
theorem t_split (s : ByteArray) (hs : s.size <= 140737488351232) : Ex (splitQ s) (ref06_Split s) := by
 refine ex_step (ref06_Split_step _) ?_
 rw [wI, wrapI (by omega)]
 exact t_split_j s hs s.size (Nat.le_refl _)
theorem size0 {s : ByteArray} (h : s.size = 0) : s = ⟨#[]⟩ := ByteArray.ext (Array.eq_empty_of_size_eq_zero h)
theorem t_defined_j : ∀ n : Nat, ∀ s : ByteArray, s.size <= n -> n <= 140737488351232 -> Ex yes (ref22_defined_j2 s) := by
 intro n
 induction n with
 | zero =>
  intro s h _
  refine ex_step (ref22_defined_j2_step _) (ex_ne (fun h0 => ?_) fun _ => ex_eq trivial)
  exact absurd (size0 (by omega)) h0
 | succ n ih =>
  intro s h hn
  refine ex_step (ref22_defined_j2_step _) (ex_ne (fun h0 => ?_) fun _ => ex_eq trivial)
  refine ex_call (t_split s (by omega)) fun y hy => ex_call (t_word _) fun y2 _ => ex_cond _ (fun _ => ex_eq trivial) fun _ => ?_
  unfold splitQ at hy
  exact ih _ (by omega) (by omega)
theorem t_defined (s : ByteArray) (hs : s.size <= 140737488351232) : Ex yes (ref22_defined s) := by
 refine ex_step (ref22_defined_step _) ?_
 repeat' first | exact ex_eq trivial | exact ih | assumption | exact t_defined_j _ s (Nat.le_refl _) hs | refine ex_join ?_ | refine ex_if (fun h => ?_) (fun h => ?_) | refine ex_ne (fun h => ?_) (fun h => ?_) | refine ex_cond _ (fun h => ?_) (fun h => ?_) | refine ex_idx (by omega) (fun y hy hm => ?_) | refine ex_and (by omega) ?_ | refine ex_call (t_full s hs) (fun y hq => ?_)
theorem t_simple (s : ByteArray) (hs : s.size <= 140737488351232) : Ex yes (ref22_simple s) := by
 refine ex_step (ref22_simple_step _) ?_
 repeat' first | exact ex_eq trivial | exact ih | assumption | refine ex_join ?_ | refine ex_if (fun h => ?_) (fun h => ?_) | refine ex_ne (fun h => ?_) (fun h => ?_) | refine ex_cond _ (fun h => ?_) (fun h => ?_) | refine ex_idx (by omega) (fun y hy hm => ?_) | refine ex_and (by omega) ?_ | refine ex_call (t_part s hs) (fun y hq => ?_) | refine ex_call (t_word s) (fun y hq => ?_)
section
open Go.RowKit Go.ChangeShapes Go.WideShapes Go.ChangeAt
def TyV (P : Program) (n : Nat) (t : TypeId) (av : AV) : Prop :=
 match P.underlying t with
 | some (.struct _) | some (.array _ _) => ∃ avs, av = .agg avs /\ Ty P n t avs
 | _ => Ty P n t [av]
theorem cells_agg {σ : Sg} {avs : List AV} {cs : Array Value} (h : Cells σ avs cs.toList) : Rel σ (.agg avs) (.agg cs) := by
 refine .agg avs cs (by simpa using h.1) (fun i av hi => (h.2 i av hi).1) (fun i => cs.toList[i]?.getD (.bool false)) (fun i av hi => ?_) (fun i av hi => ?_)
 ·obtain ⟨_, x, hx, _⟩ := h.2 i av hi
  rw [hx]; simpa using hx
 ·obtain ⟨_, x, hx, hr⟩ := h.2 i av hi
  rw [hx]; exact hr
theorem cells_one {σ : Sg} {av : AV} {v : Value} (h : Cells σ [av] v.cells.toList) (hv : ∀ cs, v ≠ .agg cs) : Rel σ av v := by
 obtain ⟨_, x, hx, hr⟩ := h.2 0 av rfl
 cases v with
 | agg cs => exact absurd rfl (hv cs)
 | _ => simp [Value.cells] at hx; subst hx; exact hr
section
variable {H : Type} {enc : TypeId × Value -> H} {P : Program} {W : World} {base b0 : Nat} {spare : Nat -> Bool} {held : Bool}
theorem open_argV {ts : List TypeId} (ok : okTypes P ts = true) {t : TypeId} (ht : t ∈ ts) {v : Value} {d : DataW H} {p : List MemPlace} (hval : Value.okWide P W .any b0 t v) (h : DataW.Trod enc P W base spare held t v d p) (hw : Lightly P t d) :
  ∃ n av, Rel (bare W nowhere) av v /\ TyV P n t av /\ plain av = true := by
 obtain ⟨m, hm⟩ := h
 obtain ⟨avs, hc, hty, hpl⟩ := open_cells ok m t _ _ ht hm hw
 cases m with
 | zero => simp [DataW.trod] at hm
 | succ m =>
  have hok := List.all_eq_true.1 ok t ht
  unfold okT at hok
  unfold TyV
  unfold Value.okWide at hval
  split at hok
  ·rename_i k hu
   rw [hu] at hval
   simp only [Cell.okWide, hu, Cell.ok] at hval
   have h2 := hty; unfold Ty at h2; rw [hu] at h2
   obtain ⟨x, rfl, _⟩ := h2
   refine ⟨m + 1, _, cells_one hc (fun cs he => by subst he; simp at hval), by rw [hu]; exact hty, rfl⟩
  ·rename_i hu
   rw [hu] at hval
   simp only [Cell.okWide, hu, Cell.ok] at hval
   have h2 := hty; unfold Ty at h2; rw [hu] at h2
   obtain ⟨x, rfl⟩ := h2
   refine ⟨m + 1, _, cells_one hc (fun cs he => by subst he; simp at hval), by rw [hu]; exact hty, rfl⟩
  ·rename_i hu
   rw [hu] at hval
   simp only [Cell.okWide, hu, Cell.ok] at hval
   have h2 := hty; unfold Ty at h2; rw [hu] at h2
   obtain ⟨x, rfl, _⟩ := h2
   refine ⟨m + 1, _, cells_one hc (fun cs he => by subst he; simp at hval), by rw [hu]; exact hty, rfl⟩
  ·rename_i e hu
   rw [hu] at hval
   simp only [Cell.okWide, hu, Cell.ok] at hval
   have h2 := hty; unfold Ty at h2; rw [hu] at h2
   obtain ⟨x, rfl, _⟩ := h2
   refine ⟨m + 1, _, cells_one hc (fun cs he => by subst he; simp at hval), by rw [hu]; exact hty, by simpa [plainL] using hpl⟩
  ·rename_i fs hu
   rw [hu] at hval
   obtain ⟨cs, rfl, _⟩ := hval
   exact ⟨m + 1, .agg avs, cells_agg hc, by rw [hu]; exact ⟨avs, rfl, hty⟩, hpl⟩
  ·rename_i k e hu
   rw [hu] at hval
   obtain ⟨cs, rfl, _⟩ := hval
   exact ⟨m + 1, .agg avs, cells_agg hc, by rw [hu]; exact ⟨avs, rfl, hty⟩, hpl⟩
  ·cases hok
end
def typesIn (P : Program) (t : TypeId) : List TypeId :=
 match P.underlying t with
 | some (.slice e) => [e]
 | some (.struct fs) => fs.toList.map (·.type)
 | some (.array _ e) => [e]
 | _ => []
def typesAdd : List TypeId -> List TypeId -> List TypeId
 | l, [] => l
 | l, t :: r => typesAdd (if l.contains t then l else l ++ [t]) r
def typesFrom (P : Program) : Nat -> List TypeId -> List TypeId
 | 0, l => l
 | n + 1, l => typesFrom P n (typesAdd l (l.flatMap (typesIn P)))
theorem rels_nil' (σ : Sg) : Rels σ [] [] := ⟨rfl, fun i av h => by simp at h⟩
theorem rels_cons' {σ : Sg} {a : AV} {v : Value} {l : List AV} {xs : List Value} (h : Rel σ a v) (hr : Rels σ l xs) : Rels σ (a :: l) (v :: xs) := by
 refine ⟨by simp [hr.1], fun i av hi => ?_⟩
 cases i with
 | zero => simp at hi; subst hi; exact ⟨v, rfl, h⟩
 | succ i => obtain ⟨x, h1, h2⟩ := hr.2 i av (by simpa using hi); exact ⟨x, by simpa using h1, h2⟩
theorem nz_true {av : AV} (h : nz av = .v (.bool true)) : av = .v (.bool true) := by
 cases av with
 | v x => simpa [nz, nzA, nz1] using h
 | _ => simp [nz, nzA, nz1] at h
theorem calls_true {P : Program} {f : FuncId} {args : List AV} {cargs : Array Value} {W : World} (hf : PureN P [] f args (.v (.bool true))) (hr : Rels (bare W nowhere) args cargs.toList) :
  Calls P f cargs W fun e W' => e = .returned (.bool true) /\ Below W.heap.size W W' := by
 refine (hf.2 W nowhere cargs (fun b o h => h.elim) (fun g cells h => by cases h) hr).mono fun e W' ⟨av, x, he, hp, hrel, hav⟩ => ?_
 rw [nz_true hav] at hrel
 cases hrel with
 | v _ _ => exact ⟨he, hp.below⟩
end
def I64 (n : Int) : Prop := -9223372036854775808 <= n /\ n <= 9223372036854775807
def U64 (n : Int) : Prop := 0 <= n /\ n < 18446744073709551616
def Sz (n : Nat) : Prop := n <= 140737488351232
structure OkRaw (x : GRaw) : Prop where
 num : I64 x.Num
 wire : I64 x.Wire
 bits : U64 x.Bits
 data : Sz x.Data.size
inductive OkD : GValue -> Prop
 | mk (v : GValue) (k : I64 v.Kind) (b : U64 v.Bits) (t : Sz v.Text.size) (l : Sz v.List_.length) (p : Sz v.Pairs.length) (s : Sz v.Slots.length) (r : Sz v.Raws.length)
   (hl : ∀ x ∈ v.List_, OkD x) (hk : ∀ x ∈ v.Pairs, OkD x.1) (hv : ∀ x ∈ v.Pairs, OkD x.2) (hn : ∀ x ∈ v.Slots, I64 x.1) (hs : ∀ x ∈ v.Slots, OkD x.2) (hr : ∀ x ∈ v.Raws, OkRaw x) : OkD v
structure OkOp (o : GOp) : Prop where
 num : I64 o.Num
 name : Sz o.Name.size
 alias_ : Sz o.Alias.size
 card : I64 o.Card
 key : I64 o.Key
 kind : I64 o.Kind
 target : I64 o.Target
 union : I64 o.Union
structure OkProg (g : GProg) : Prop where
 name : Sz g.Name.size
 n : Sz g.Ops.length
 ops : ∀ o ∈ g.Ops, OkOp o
 unions : I64 g.Unions
structure OkNote (n : GNote) : Prop where
 name : Sz n.Name.size
 val : OkD n.Val
structure OkItem (x : GItem) : Prop where
 name : Sz x.Name.size
 num : I64 x.Num
 nn : Sz x.Notes.length
 notes : ∀ n ∈ x.Notes, OkNote n
structure OkSpan (x : GSpan) : Prop where
 from_ : I64 x.From
 to_ : I64 x.To
structure OkEnum (e : GEnum) : Prop where
 name : Sz e.Name.size
 ni : Sz e.Items.length
 items : ∀ x ∈ e.Items, OkItem x
 nr : Sz e.Reserved.length
 reserved : ∀ x ∈ e.Reserved, OkSpan x
 nn : Sz e.Notes.length
 notes : ∀ x ∈ e.Notes, OkNote x
structure OkPlan (p : GPlan) : Prop where
 np : Sz p.Progs.length
 progs : ∀ g ∈ p.Progs, OkProg g
 ne : Sz p.Enums.length
 enums : ∀ e ∈ p.Enums, OkEnum e
structure OkCur (c : GCursor) : Prop where
 data : Sz c.Data.size
 at_ : I64 c.At
 end_ : I64 c.End
 depth : I64 c.Depth
 nodes : I64 c.Nodes
 text : I64 c.Text
section
variable {P : Program} {n : Nat} {t : TypeId} {avs : List AV}
def TyL (P : Program) (m : Nat) : List TypeId -> List AV -> Prop
 | [], avs => avs = []
 | t :: ts, avs => ∃ a b, avs = a ++ b /\ Ty P m t a /\ TyL P m ts b
theorem tyL_of {m : Nat} : ∀ (fs : List Field) (parts : List (List AV)), parts.length = fs.length -> (∀ (i : Nat) (f : Field), fs[i]? = some f -> ∃ p, parts[i]? = some p /\ Ty P m f.type p) -> TyL P m (fs.map (·.type)) parts.flatten
 | [], [], _, _ => rfl
 | [], _ :: _, h, _ => by cases h
 | _ :: _, [], h, _ => by cases h
 | f :: fs, p :: parts, hl, h => by
  obtain ⟨q, hq, hty⟩ := h 0 f rfl
  cases hq
  exact ⟨p, parts.flatten, by simp, hty, tyL_of fs parts (by simpa using hl) fun i g hg => h (i + 1) g (by simpa using hg)⟩
def fieldTypes (P : Program) (t : TypeId) : Option (List TypeId) := match P.underlying t with | some (.struct fs) => some (fs.toList.map (·.type)) | _ => none
theorem ty_st {ts : List TypeId} (hu : fieldTypes P t = some ts) (h : Ty P n t avs) : ∃ m, n = m + 1 /\ TyL P m ts avs := by
 cases n with
 | zero => exact absurd h (by unfold Ty; exact id)
 | succ m =>
  unfold fieldTypes at hu
  unfold Ty at h
  split at hu
  ·rename_i fs hfs
   rw [hfs] at h
   obtain ⟨parts, rfl, hl, hp⟩ := h
   cases hu
   exact ⟨m, rfl, tyL_of fs.toList parts (by simpa using hl) (fun i f hf => hp i f (by simpa using hf))⟩
  ·cases hu
theorem ty_int {k : IntKind} (hu : P.underlying t = some (.int k)) (h : Ty P n t avs) : ∃ m, avs = [.v (.int k m)] /\ (Lit.int k m).wf = true := by
 cases n with
 | zero => exact absurd h (by unfold Ty; exact id)
 | succ m => unfold Ty at h; rw [hu] at h; exact h
theorem ty_i64 (hu : P.underlying t = some (.int .i64)) (h : Ty P n t avs) : ∃ m, avs = [.v (.int .i64 m)] /\ I64 m := by
 obtain ⟨m, h1, h2⟩ := ty_int hu h
 refine ⟨m, h1, ?_⟩
 simp only [Lit.wf, Bool.and_eq_true, decide_eq_true_eq] at h2
 exact h2
theorem ty_u64 (hu : P.underlying t = some (.int .u64)) (h : Ty P n t avs) : ∃ m, avs = [.v (.int .u64 m)] /\ U64 m := by
 obtain ⟨m, h1, h2⟩ := ty_int hu h
 refine ⟨m, h1, ?_⟩
 simp only [Lit.wf, Bool.and_eq_true, decide_eq_true_eq] at h2
 have e1 : IntKind.u64.min = 0 := by decide
 have e2 : IntKind.u64.max = 18446744073709551615 := by decide
 unfold U64
 omega
theorem ty_bool (hu : P.underlying t = some .bool) (h : Ty P n t avs) : ∃ b, avs = [.v (.bool b)] := by
 cases n with
 | zero => exact absurd h (by unfold Ty; exact id)
 | succ m => unfold Ty at h; rw [hu] at h; exact h
theorem ty_str (hu : P.underlying t = some .string) (h : Ty P n t avs) : ∃ s : ByteArray, avs = [.v (.string s)] /\ Sz s.size := by
 cases n with
 | zero => exact absurd h (by unfold Ty; exact id)
 | succ m => unfold Ty at h; rw [hu] at h; exact h
theorem ty_sl {e : TypeId} {G : Type} {enc : G -> List AV} {Ok : G -> Prop} (hu : P.underlying t = some (.slice e)) (hb : 1 <= P.bytesOf e) (hel : ∀ m avs, m < n -> Ty P m e avs -> ∃ x, avs = enc x /\ Ok x) (h : Ty P n t avs) : ∃ l : List G, avs = [.sl (l.map enc) .no] /\ Sz l.length /\ ∀ x ∈ l, Ok x := by
 cases n with
 | zero => exact absurd h (by unfold Ty; exact id)
 | succ m =>
  unfold Ty at h; rw [hu] at h
  obtain ⟨els, rfl, hl, hty⟩ := h
  have hn : els.length <= 140737488351232 := Nat.le_trans (Nat.le_mul_of_pos_right _ hb) hl
  have : ∀ els : List (List AV), (∀ el ∈ els, Ty P m e el) -> ∃ l : List G, els = l.map enc /\ ∀ x ∈ l, Ok x := by
   intro els
   induction els with
   | nil => exact fun _ => ⟨[], rfl, fun x h => by cases h⟩
   | cons a els ih =>
    intro h
    obtain ⟨l, rfl, hl⟩ := ih fun el hel => h el (List.mem_cons_of_mem _ hel)
    obtain ⟨x, rfl, hx⟩ := hel m a (Nat.lt_succ_self m) (h a List.mem_cons_self)
    exact ⟨x :: l, rfl, fun y hy => (List.mem_cons.1 hy).elim (fun e => e ▸ hx) (hl y)⟩
  obtain ⟨l, rfl, hok⟩ := this els hty
  exact ⟨l, rfl, by simpa [Sz] using hn, hok⟩
theorem ty_arr {e : TypeId} {k : Nat} (hu : P.underlying t = some (.array k e)) (h : Ty P n t avs) : ∃ m parts, n = m + 1 /\ avs = List.flatten parts /\ parts.length = k /\ ∀ p ∈ parts, Ty P m e p := by
 cases n with
 | zero => exact absurd h (by unfold Ty; exact id)
 | succ m => unfold Ty at h; rw [hu] at h; obtain ⟨parts, a, b, c⟩ := h; exact ⟨m, parts, rfl, a, b, c⟩
theorem tyV_st {av : AV} {ts : List TypeId} (hu : fieldTypes P t = some ts) (h : TyV P n t av) : ∃ avs, av = .agg avs /\ Ty P n t avs := by
 unfold TyV at h
 unfold fieldTypes at hu
 split at hu
 ·rename_i fs hfs; rw [hfs] at h; exact h
 ·cases hu
theorem tyV_arr {av : AV} {k : Nat} {e : TypeId} (hu : P.underlying t = some (.array k e)) (h : TyV P n t av) : ∃ avs, av = .agg avs /\ Ty P n t avs := by
 unfold TyV at h; rw [hu] at h; exact h
end
section
variable {n : Nat} {avs : List AV} {av : AV}
theorem op_raw (h : Ty Tryz.prog n 127 avs) : ∃ x, avs = eGRaw x /\ OkRaw x := by
 obtain ⟨m, rfl, a1, b1, rfl, h1, a2, b2, rfl, h2, a3, b3, rfl, h3, a4, b4, rfl, h4, rfl⟩ := ty_st (ts := [3, 3, 29, 9]) (by kernel_rfl) h
 obtain ⟨x1, rfl, k1⟩ := ty_i64 (by kernel_rfl) h1
 obtain ⟨x2, rfl, k2⟩ := ty_i64 (by kernel_rfl) h2
 obtain ⟨x3, rfl, k3⟩ := ty_u64 (by kernel_rfl) h3
 obtain ⟨x4, rfl, k4⟩ := ty_str (by kernel_rfl) h4
 exact ⟨⟨x1, x2, x3, x4⟩, rfl, ⟨k1, k2, k3, k4⟩⟩
theorem op_value : ∀ (n : Nat) (avs : List AV), Ty Tryz.prog n 35 avs -> ∃ x, avs = eGValue' x /\ OkD x := by
 intro n
 induction n using Nat.strongRecOn with
 | _ n ih =>
  intro avs h
  obtain ⟨m, rfl, a1, b1, rfl, h1, a2, b2, rfl, h2, a3, b3, rfl, h3, a4, b4, rfl, h4, a5, b5, rfl, h5, a6, b6, rfl, h6, a7, b7, rfl, h7, rfl⟩ := ty_st (ts := [3, 29, 9, 30, 31, 32, 33]) (by kernel_rfl) h
  obtain ⟨x1, rfl, k1⟩ := ty_i64 (by kernel_rfl) h1
  obtain ⟨x2, rfl, k2⟩ := ty_u64 (by kernel_rfl) h2
  obtain ⟨x3, rfl, k3⟩ := ty_str (by kernel_rfl) h3
  obtain ⟨x4, rfl, n4, k4⟩ := ty_sl (e := 35) (enc := eGValue') (Ok := OkD) (by kernel_rfl) (of_decide_eq_true (by kernel_rfl)) (fun k a hk ha => ih k (by omega) a ha) h4
  obtain ⟨x5, rfl, n5, k5⟩ := ty_sl (e := 100) (enc := eGPair') (Ok := fun x => OkD x.1 /\ OkD x.2) (by kernel_rfl) (of_decide_eq_true (by kernel_rfl)) (fun k a hk ha => by
   obtain ⟨q, rfl, a1, b1, rfl, h1, a2, b2, rfl, h2, rfl⟩ := ty_st (ts := [35, 35]) (by kernel_rfl) ha
   obtain ⟨y1, rfl, z1⟩ := ih q (by omega) _ h1
   obtain ⟨y2, rfl, z2⟩ := ih q (by omega) _ h2
   exact ⟨(y1, y2), by simp [eGPair'], z1, z2⟩) h5
  obtain ⟨x6, rfl, n6, k6⟩ := ty_sl (e := 86) (enc := eGSlot') (Ok := fun x => I64 x.1 /\ OkD x.2) (by kernel_rfl) (of_decide_eq_true (by kernel_rfl)) (fun k a hk ha => by
   obtain ⟨q, rfl, a1, b1, rfl, h1, a2, b2, rfl, h2, rfl⟩ := ty_st (ts := [3, 35]) (by kernel_rfl) ha
   obtain ⟨y1, rfl, z1⟩ := ty_i64 (by kernel_rfl) h1
   obtain ⟨y2, rfl, z2⟩ := ih q (by omega) _ h2
   exact ⟨(y1, y2), by simp [eGSlot'], z1, z2⟩) h6
  obtain ⟨x7, rfl, n7, k7⟩ := ty_sl (e := 127) (enc := eGRaw) (Ok := OkRaw) (by kernel_rfl) (of_decide_eq_true (by kernel_rfl)) (fun k a hk ha => op_raw ha) h7
  refine ⟨⟨x1, x2, x3, x4, x5, x6, x7⟩, ?_, .mk _ k1 k2 k3 n4 n5 n6 n7 k4 (fun x hx => (k5 x hx).1) (fun x hx => (k5 x hx).2) (fun x hx => (k6 x hx).1) (fun x hx => (k6 x hx).2) k7⟩
  rw [eGValue'_eq]; rfl
theorem op_note (h : Ty Tryz.prog n 151 avs) : ∃ x, avs = eGNote x /\ OkNote x := by
 obtain ⟨m, rfl, a1, b1, rfl, h1, a2, b2, rfl, h2, rfl⟩ := ty_st (ts := [9, 35]) (by kernel_rfl) h
 obtain ⟨x1, rfl, k1⟩ := ty_str (by kernel_rfl) h1
 obtain ⟨x2, rfl, k2⟩ := op_value _ _ h2
 exact ⟨⟨x1, x2⟩, by rw [eGValue'_eq]; rfl, ⟨k1, k2⟩⟩
theorem op_notes {t : TypeId} (hu : Tryz.prog.underlying t = some (.slice 151)) (h : Ty Tryz.prog n t avs) : ∃ l : List GNote, avs = [.sl (l.map eGNote) .no] /\ Sz l.length /\ ∀ x ∈ l, OkNote x := ty_sl hu (of_decide_eq_true (by kernel_rfl)) (fun k a hk ha => op_note ha) h
theorem op_item (h : Ty Tryz.prog n 115 avs) : ∃ x, avs = eGItem x /\ OkItem x := by
 obtain ⟨m, rfl, a1, b1, rfl, h1, a2, b2, rfl, h2, a3, b3, rfl, h3, rfl⟩ := ty_st (ts := [9, 3, 110]) (by kernel_rfl) h
 obtain ⟨x1, rfl, k1⟩ := ty_str (by kernel_rfl) h1
 obtain ⟨x2, rfl, k2⟩ := ty_i64 (by kernel_rfl) h2
 obtain ⟨x3, rfl, n3, k3⟩ := op_notes (by kernel_rfl) h3
 exact ⟨⟨x1, x2, x3⟩, rfl, ⟨k1, k2, n3, k3⟩⟩
theorem op_span (h : Ty Tryz.prog n 149 avs) : ∃ x, avs = eGSpan x /\ OkSpan x := by
 obtain ⟨m, rfl, a1, b1, rfl, h1, a2, b2, rfl, h2, rfl⟩ := ty_st (ts := [3, 3]) (by kernel_rfl) h
 obtain ⟨x1, rfl, k1⟩ := ty_i64 (by kernel_rfl) h1
 obtain ⟨x2, rfl, k2⟩ := ty_i64 (by kernel_rfl) h2
 exact ⟨⟨x1, x2⟩, rfl, ⟨k1, k2⟩⟩
theorem op_enum (h : Ty Tryz.prog n 112 avs) : ∃ x, avs = eGEnum x /\ OkEnum x := by
 obtain ⟨m, rfl, a1, b1, rfl, h1, a2, b2, rfl, h2, a3, b3, rfl, h3, a4, b4, rfl, h4, a5, b5, rfl, h5, rfl⟩ := ty_st (ts := [9, 4, 108, 109, 110]) (by kernel_rfl) h
 obtain ⟨x1, rfl, k1⟩ := ty_str (by kernel_rfl) h1
 obtain ⟨x2, rfl⟩ := ty_bool (by kernel_rfl) h2
 obtain ⟨x3, rfl, n3, k3⟩ := ty_sl (e := 115) (enc := eGItem) (Ok := OkItem) (by kernel_rfl) (of_decide_eq_true (by kernel_rfl)) (fun k a hk ha => op_item ha) h3
 obtain ⟨x4, rfl, n4, k4⟩ := ty_sl (e := 149) (enc := eGSpan) (Ok := OkSpan) (by kernel_rfl) (of_decide_eq_true (by kernel_rfl)) (fun k a hk ha => op_span ha) h4
 obtain ⟨x5, rfl, n5, k5⟩ := op_notes (by kernel_rfl) h5
 exact ⟨⟨x1, x2, x3, x4, x5⟩, rfl, ⟨k1, n3, k3, n4, k4, n5, k5⟩⟩
theorem op_op (h : Ty Tryz.prog n 38 avs) : ∃ x, avs = eGOp x /\ OkOp x := by
 obtain ⟨m, rfl, a1, b1, rfl, h1, a2, b2, rfl, h2, a3, b3, rfl, h3, a4, b4, rfl, h4, a5, b5, rfl, h5, a6, b6, rfl, h6, a7, b7, rfl, h7, a8, b8, rfl, h8, rfl⟩ := ty_st (ts := [3, 9, 9, 3, 3, 3, 3, 3]) (by kernel_rfl) h
 obtain ⟨x1, rfl, k1⟩ := ty_i64 (by kernel_rfl) h1
 obtain ⟨x2, rfl, k2⟩ := ty_str (by kernel_rfl) h2
 obtain ⟨x3, rfl, k3⟩ := ty_str (by kernel_rfl) h3
 obtain ⟨x4, rfl, k4⟩ := ty_i64 (by kernel_rfl) h4
 obtain ⟨x5, rfl, k5⟩ := ty_i64 (by kernel_rfl) h5
 obtain ⟨x6, rfl, k6⟩ := ty_i64 (by kernel_rfl) h6
 obtain ⟨x7, rfl, k7⟩ := ty_i64 (by kernel_rfl) h7
 obtain ⟨x8, rfl, k8⟩ := ty_i64 (by kernel_rfl) h8
 exact ⟨⟨x1, x2, x3, x4, x5, x6, x7, x8⟩, rfl, ⟨k1, k2, k3, k4, k5, k6, k7, k8⟩⟩
theorem op_prog (h : Ty Tryz.prog n 41 avs) : ∃ x, avs = eGProg x /\ OkProg x := by
 obtain ⟨m, rfl, a1, b1, rfl, h1, a2, b2, rfl, h2, a3, b3, rfl, h3, rfl⟩ := ty_st (ts := [9, 39, 3]) (by kernel_rfl) h
 obtain ⟨x1, rfl, k1⟩ := ty_str (by kernel_rfl) h1
 obtain ⟨x2, rfl, n2, k2⟩ := ty_sl (e := 38) (enc := eGOp) (Ok := OkOp) (by kernel_rfl) (of_decide_eq_true (by kernel_rfl)) (fun k a hk ha => op_op ha) h2
 obtain ⟨x3, rfl, k3⟩ := ty_i64 (by kernel_rfl) h3
 exact ⟨⟨x1, x2, x3⟩, rfl, ⟨k1, n2, k2, k3⟩⟩
theorem op_plan (h : Ty Tryz.prog n 25 avs) : ∃ x, avs = eGPlan x /\ OkPlan x := by
 obtain ⟨m, rfl, a1, b1, rfl, h1, a2, b2, rfl, h2, rfl⟩ := ty_st (ts := [22, 23]) (by kernel_rfl) h
 obtain ⟨x1, rfl, n1, k1⟩ := ty_sl (e := 41) (enc := eGProg) (Ok := OkProg) (by kernel_rfl) (of_decide_eq_true (by kernel_rfl)) (fun k a hk ha => op_prog ha) h1
 obtain ⟨x2, rfl, n2, k2⟩ := ty_sl (e := 112) (enc := eGEnum) (Ok := OkEnum) (by kernel_rfl) (of_decide_eq_true (by kernel_rfl)) (fun k a hk ha => op_enum ha) h2
 exact ⟨⟨x1, x2⟩, rfl, ⟨n1, k1, n2, k2⟩⟩
theorem ar_P (h : TyV Tryz.prog n 25 av) : ∃ x, av = .agg (eGPlan x) /\ OkPlan x := by
 obtain ⟨avs, rfl, g⟩ := tyV_st (ts := [22, 23]) (by kernel_rfl) h
 obtain ⟨x, rfl, k⟩ := op_plan g
 exact ⟨x, rfl, k⟩
theorem ar_V (h : TyV Tryz.prog n 35 av) : ∃ x, av = .agg (eGValue x) /\ OkD x := by
 obtain ⟨avs, rfl, g⟩ := tyV_st (ts := [3, 29, 9, 30, 31, 32, 33]) (by kernel_rfl) h
 obtain ⟨x, rfl, k⟩ := op_value _ _ g
 exact ⟨x, by rw [eGValue'_eq], k⟩
theorem ar_C (h : TyV Tryz.prog n 28 av) : ∃ x, av = .agg (eGCursor x) /\ OkCur x := by
 obtain ⟨avs, rfl, g⟩ := tyV_st (ts := [9, 3, 3, 3, 3, 3]) (by kernel_rfl) h
 obtain ⟨m, rfl, a1, b1, rfl, h1, a2, b2, rfl, h2, a3, b3, rfl, h3, a4, b4, rfl, h4, a5, b5, rfl, h5, a6, b6, rfl, h6, rfl⟩ := ty_st (ts := [9, 3, 3, 3, 3, 3]) (by kernel_rfl) g
 obtain ⟨x1, rfl, k1⟩ := ty_str (by kernel_rfl) h1
 obtain ⟨x2, rfl, k2⟩ := ty_i64 (by kernel_rfl) h2
 obtain ⟨x3, rfl, k3⟩ := ty_i64 (by kernel_rfl) h3
 obtain ⟨x4, rfl, k4⟩ := ty_i64 (by kernel_rfl) h4
 obtain ⟨x5, rfl, k5⟩ := ty_i64 (by kernel_rfl) h5
 obtain ⟨x6, rfl, k6⟩ := ty_i64 (by kernel_rfl) h6
 exact ⟨⟨x1, x2, x3, x4, x5, x6⟩, rfl, ⟨k1, k2, k3, k4, k5, k6⟩⟩
theorem ar_q (h : TyV Tryz.prog n 26 av) : ∃ x, av = .agg (eGS26 x) /\ I64 x.a0 /\ I64 x.a1 := by
 obtain ⟨avs, rfl, g⟩ := tyV_arr (k := 2) (e := 3) (by kernel_rfl) h
 obtain ⟨m, parts, rfl, rfl, hl, hp⟩ := ty_arr (k := 2) (e := 3) (by kernel_rfl) g
 match parts, hl, hp with
 | [a, b], _, hp =>
  obtain ⟨x1, rfl, k1⟩ := ty_i64 (by kernel_rfl) (hp a (by simp))
  obtain ⟨x2, rfl, k2⟩ := ty_i64 (by kernel_rfl) (hp b (by simp))
  exact ⟨⟨x1, x2⟩, rfl, k1, k2⟩
end
structure OpF (p : GPlan) (o : GOp) : Prop where
 card : 1 <= o.Card /\ o.Card <= 5
 kind : 1 <= o.Kind /\ o.Kind <= 10
 key : (o.Card ≠ 5 -> o.Key = 0) /\ (o.Card = 5 -> (1 <= o.Key /\ o.Key <= 5) ∨ o.Key = 7)
 msg : o.Kind = 10 -> 0 <= o.Target /\ o.Target < p.Progs.length /\ o.Card ≠ 3
 enum : o.Kind = 9 -> 0 <= o.Target /\ o.Target < p.Enums.length
 other : o.Kind ≠ 9 -> o.Kind ≠ 10 -> o.Target = -1
 union : o.Union = -1 ∨ o.Card = 2
theorem sz_le {n : Nat} (h : Sz n) : n <= 140737488351232 := h
theorem OkD.okv {v : GValue} (h : OkD v) : OkV v := by
 cases h with
 | mk _ k b t l p s r => exact ⟨l, p, s, r, t, b.1, b.2⟩
theorem getN {α : Type} {l : List α} {i : Nat} (h : i < l.length) : ∃ y, l[((i : Int)).toNat]? = some y /\ y ∈ l := ⟨l[i], by simp [h], List.getElem_mem h⟩
def Asc (l : List GOp) (n : Nat) : Prop := ∀ m x y, m + 1 < n -> l[m]? = some x -> l[m + 1]? = some y -> x.Num < y.Num
theorem asc_more {l : List GOp} {i : Nat} {x y : GOp} (h : Asc l i) (hx : l[i - 1]? = some x) (hy : l[i]? = some y) (hlt : x.Num < y.Num) : Asc l (i + 1) := by
 intro m x' y' hm h1 h2
 by_cases e : m + 1 = i
 ·have : m = i - 1 := by omega
  subst this
  rw [hx] at h1; cases h1
  rw [e, hy] at h2; cases h2
  exact hlt
 ·exact h m x' y' (by omega) h1 h2
theorem past_more {α : Type} {l : List α} {T : α -> Prop} {k : Nat} {g : α} (h : ∀ j g, j < k -> l[j]? = some g -> T g) (hg : l[k]? = some g) (ht : T g) : ∀ j g, j < k + 1 -> l[j]? = some g -> T g := by
 intro j g' hj hj2
 by_cases e : j = k
 ·subst e; rw [hg] at hj2; cases hj2; exact ht
 ·exact h j g' (by omega) hj2
theorem past_all {α : Type} {l : List α} {T : α -> Prop} {k : Nat} (h : ∀ j g, j < k -> l[j]? = some g -> T g) (hk : l.length <= k) : ∀ g ∈ l, T g := by
 intro g hg
 obtain ⟨j, hj⟩ := List.mem_iff_getElem?.1 hg
 exact h j g (by have := (List.getElem?_eq_some_iff.1 hj).1; omega) hj
section
variable (p : GPlan) (hp : OkPlan p)
 include hp
theorem t_lim6  : ∀ i : Nat, ∀ b, Ex yes (ref22_limits_j6 (i : Int) b p) := by
 have b1 := sz_le hp.np; have b2 := sz_le hp.ne
 refine upn (p.Enums.length) (fun i hi ih b => ?_) (fun i hi b => ?_)
 ·refine ex_step (ref22_limits_j6_step _ _ _) ?_
  try rw [wI_up (by omega)]
  repeat' first | exact ex_eq trivial | exact ih | assumption | exact ih _ | refine ex_join ?_ | refine ex_if (fun h => ?_) (fun h => ?_) | refine ex_ne (fun h => ?_) (fun h => ?_) | refine ex_cond _ (fun h => ?_) (fun h => ?_) | refine ex_idx (by omega) (fun y hy hm => ?_) | refine ex_and (by omega) ?_
 ·refine ex_step (ref22_limits_j6_step _ _ _) ?_
  repeat' first | exact ex_eq trivial | exact ih | assumption | exact ih _ | exact absurd ‹_› (by omega) | (exfalso; omega) | refine ex_join ?_ | refine ex_if (fun h => ?_) (fun h => ?_) | refine ex_ne (fun h => ?_) (fun h => ?_) | refine ex_cond _ (fun h => ?_) (fun h => ?_) | refine ex_idx (by omega) (fun y hy hm => ?_) | refine ex_and (by omega) ?_
theorem t_lim4  : ∀ i : Nat, ∀ b, Ex yes (ref22_limits_j4 (i : Int) b p) := by
 have b1 := sz_le hp.np; have b2 := sz_le hp.ne
 refine upn (p.Progs.length) (fun i hi ih b => ?_) (fun i hi b => ?_)
 ·refine ex_step (ref22_limits_j4_step _ _ _) ?_
  try rw [wI_up (by omega)]
  repeat' first | exact ex_eq trivial | exact ih | assumption | exact ih _ | exact t_lim6 p hp 0 _ | refine ex_join ?_ | refine ex_if (fun h => ?_) (fun h => ?_) | refine ex_ne (fun h => ?_) (fun h => ?_) | refine ex_cond _ (fun h => ?_) (fun h => ?_) | refine ex_idx (by omega) (fun y hy hm => ?_) | refine ex_and (by omega) ?_
 ·refine ex_step (ref22_limits_j4_step _ _ _) ?_
  repeat' first | exact ex_eq trivial | exact ih | assumption | exact ih _ | exact t_lim6 p hp 0 _ | exact absurd ‹_› (by omega) | (exfalso; omega) | refine ex_join ?_ | refine ex_if (fun h => ?_) (fun h => ?_) | refine ex_ne (fun h => ?_) (fun h => ?_) | refine ex_cond _ (fun h => ?_) (fun h => ?_) | refine ex_idx (by omega) (fun y hy hm => ?_) | refine ex_and (by omega) ?_
theorem t_limits : Ex yes (ref22_limits p) := by
 refine ex_step (ref22_limits_step _) ?_
 exact t_lim4 p hp 0 _
theorem t_nam16 (k : Nat) (hk : k < p.Enums.length) (g : GEnum) (hg : p.Enums[((k : Int)).toNat]? = some g) (og : OkEnum g) (H : ∀ b, Ex yes (ref22_names_j14 ((k + 1 : Nat) : Int) b p)) : ∀ i : Nat, ∀ b, Ex yes (ref22_names_j16 (i : Int) b (k : Int) p) := by
 have b1 := sz_le hp.np; have b2 := sz_le hp.ne
 have b3 := sz_le og.ni; have b4 := sz_le og.nr
 refine upn (g.Items.length) (fun i hi ih b => ?_) (fun i hi b => ?_)
 ·refine ex_step (ref22_names_j16_step _ _ _ _) ?_
  try rw [wI_up (by omega)]
  repeat' first | exact ex_eq trivial | exact ih | assumption | exact ih _ | exact H _ | refine ex_at g hg (by omega) ?_ | rw [wI_up (by omega)] | refine ex_join ?_ | refine ex_if (fun h => ?_) (fun h => ?_) | refine ex_ne (fun h => ?_) (fun h => ?_) | refine ex_cond _ (fun h => ?_) (fun h => ?_) | refine ex_idx (by omega) (fun y hy hm => ?_) | refine ex_and (by omega) ?_ | refine ex_call (t_simple _ (og.items _ (by assumption)).name) (fun y hq => ?_)
 ·refine ex_step (ref22_names_j16_step _ _ _ _) ?_
  repeat' first | exact ex_eq trivial | exact ih | assumption | exact ih _ | exact H _ | refine ex_at g hg (by omega) ?_ | rw [wI_up (by omega)] | exact absurd ‹_› (by omega) | (exfalso; omega) | refine ex_join ?_ | refine ex_if (fun h => ?_) (fun h => ?_) | refine ex_ne (fun h => ?_) (fun h => ?_) | refine ex_cond _ (fun h => ?_) (fun h => ?_) | refine ex_idx (by omega) (fun y hy hm => ?_) | refine ex_and (by omega) ?_ | refine ex_call (t_simple _ (og.items _ (by assumption)).name) (fun y hq => ?_)
theorem t_nam14  : ∀ i : Nat, ∀ b, Ex yes (ref22_names_j14 (i : Int) b p) := by
 have b1 := sz_le hp.np; have b2 := sz_le hp.ne
 refine upn (p.Enums.length) (fun i hi ih b => ?_) (fun i hi b => ?_)
 ·obtain ⟨g, hg, gm⟩ := getN hi
  refine ex_step (ref22_names_j14_step _ _ _) ?_
  try rw [wI_up (by omega)]
  repeat' first | exact ex_eq trivial | exact ih | assumption | exact ih _ | exact t_nam16 p hp i hi g hg (hp.enums g gm) ih 0 _ | refine ex_at g hg (by omega) ?_ | refine ex_join ?_ | refine ex_if (fun h => ?_) (fun h => ?_) | refine ex_ne (fun h => ?_) (fun h => ?_) | refine ex_cond _ (fun h => ?_) (fun h => ?_) | refine ex_idx (by omega) (fun y hy hm => ?_) | refine ex_and (by omega) ?_ | refine ex_call (t_defined _ (hp.enums g gm).name) (fun y hq => ?_)
 ·refine ex_step (ref22_names_j14_step _ _ _) ?_
  repeat' first | exact ex_eq trivial | exact ih | assumption | exact ih _ | exact t_nam16 p hp i hi g hg (hp.enums g gm) ih 0 _ | refine ex_at g hg (by omega) ?_ | exact absurd ‹_› (by omega) | (exfalso; omega) | refine ex_join ?_ | refine ex_if (fun h => ?_) (fun h => ?_) | refine ex_ne (fun h => ?_) (fun h => ?_) | refine ex_cond _ (fun h => ?_) (fun h => ?_) | refine ex_idx (by omega) (fun y hy hm => ?_) | refine ex_and (by omega) ?_ | refine ex_call (t_defined _ (hp.enums g gm).name) (fun y hq => ?_)
theorem t_nam18 (k : Nat) (hk : k < p.Progs.length) (g : GProg) (hg : p.Progs[((k : Int)).toNat]? = some g) (og : OkProg g) (H : ∀ b, Ex yes (ref22_names_j10 ((k + 1 : Nat) : Int) b p)) : ∀ i : Nat, ∀ b, Ex yes (ref22_names_j18 (i : Int) b (k : Int) p) := by
 have b1 := sz_le hp.np; have b2 := sz_le hp.ne
 have b3 := sz_le og.n
 refine upn (g.Ops.length) (fun i hi ih b => ?_) (fun i hi b => ?_)
 ·refine ex_step (ref22_names_j18_step _ _ _ _) ?_
  try rw [wI_up (by omega)]
  repeat' first | exact ex_eq trivial | exact ih | assumption | exact ih _ | exact H _ | refine ex_at g hg (by omega) ?_ | rw [wI_up (by omega)] | refine ex_join ?_ | refine ex_if (fun h => ?_) (fun h => ?_) | refine ex_ne (fun h => ?_) (fun h => ?_) | refine ex_cond _ (fun h => ?_) (fun h => ?_) | refine ex_idx (by omega) (fun y hy hm => ?_) | refine ex_and (by omega) ?_ | refine ex_call (t_simple _ (og.ops _ (by assumption)).name) (fun y hq => ?_)
 ·refine ex_step (ref22_names_j18_step _ _ _ _) ?_
  repeat' first | exact ex_eq trivial | exact ih | assumption | exact ih _ | exact H _ | refine ex_at g hg (by omega) ?_ | rw [wI_up (by omega)] | exact absurd ‹_› (by omega) | (exfalso; omega) | refine ex_join ?_ | refine ex_if (fun h => ?_) (fun h => ?_) | refine ex_ne (fun h => ?_) (fun h => ?_) | refine ex_cond _ (fun h => ?_) (fun h => ?_) | refine ex_idx (by omega) (fun y hy hm => ?_) | refine ex_and (by omega) ?_ | refine ex_call (t_simple _ (og.ops _ (by assumption)).name) (fun y hq => ?_)
theorem t_nam10  : ∀ i : Nat, ∀ b, Ex yes (ref22_names_j10 (i : Int) b p) := by
 have b1 := sz_le hp.np; have b2 := sz_le hp.ne
 refine upn (p.Progs.length) (fun i hi ih b => ?_) (fun i hi b => ?_)
 ·obtain ⟨g, hg, gm⟩ := getN hi
  refine ex_step (ref22_names_j10_step _ _ _) ?_
  try rw [wI_up (by omega)]
  repeat' first | exact ex_eq trivial | exact ih | assumption | exact ih _ | exact t_nam18 p hp i hi g hg (hp.progs g gm) ih 0 _ | exact t_nam14 p hp 0 _ | refine ex_at g hg (by omega) ?_ | refine ex_join ?_ | refine ex_if (fun h => ?_) (fun h => ?_) | refine ex_ne (fun h => ?_) (fun h => ?_) | refine ex_cond _ (fun h => ?_) (fun h => ?_) | refine ex_idx (by omega) (fun y hy hm => ?_) | refine ex_and (by omega) ?_ | refine ex_call (t_defined _ (hp.progs g gm).name) (fun y hq => ?_)
 ·refine ex_step (ref22_names_j10_step _ _ _) ?_
  repeat' first | exact ex_eq trivial | exact ih | assumption | exact ih _ | exact t_nam18 p hp i hi g hg (hp.progs g gm) ih 0 _ | exact t_nam14 p hp 0 _ | refine ex_at g hg (by omega) ?_ | exact absurd ‹_› (by omega) | (exfalso; omega) | refine ex_join ?_ | refine ex_if (fun h => ?_) (fun h => ?_) | refine ex_ne (fun h => ?_) (fun h => ?_) | refine ex_cond _ (fun h => ?_) (fun h => ?_) | refine ex_idx (by omega) (fun y hy hm => ?_) | refine ex_and (by omega) ?_ | refine ex_call (t_defined _ (hp.progs g gm).name) (fun y hq => ?_)
theorem t_names : Ex yes (ref22_names p) := by
 refine ex_step (ref22_names_step _) ?_
 exact t_nam10 p hp 0 _
theorem t_ord16 (A : Prop) (k : Nat) (hk : k < p.Enums.length) (g : GEnum) (hg : p.Enums[((k : Int)).toNat]? = some g) (og : OkEnum g) (H : ∀ b, (b = true -> A) -> Ex (fun r => r = true -> A) (ref22_ordered_j14 ((k + 1 : Nat) : Int) b p)) : ∀ i : Nat, 1 <= i -> ∀ b, (b = true -> A) -> Ex (fun r => r = true -> A) (ref22_ordered_j16 (i : Int) b (k : Int) p) := by
 have b1 := sz_le hp.np; have b2 := sz_le hp.ne
 have b3 := sz_le og.ni; have b4 := sz_le og.nr
 refine upn (g.Items.length) (fun i hi ih h1 b hA => ?_) (fun i hi h1 b hA => ?_)
 ·refine ex_step (ref22_ordered_j16_step _ _ _ _) ?_
  try rw [wI_up (by omega)]
  repeat' first | exact ex_eq (fun h => by first | exact hA ‹_› | exact hA h | cases h) | exact ih | assumption | exact ih (by omega) _ (fun h => by first | exact hA ‹_› | cases h) | exact H _ hA | refine ex_at g hg (by omega) ?_ | rw [wI_up (by omega)] | rw [wI_dn (by omega)] | refine ex_join ?_ | refine ex_if (fun h => ?_) (fun h => ?_) | refine ex_ne (fun h => ?_) (fun h => ?_) | refine ex_cond _ (fun h => ?_) (fun h => ?_) | refine ex_idx (by omega) (fun y hy hm => ?_) | refine ex_and (by omega) ?_
 ·refine ex_step (ref22_ordered_j16_step _ _ _ _) ?_
  repeat' first | exact ex_eq (fun h => by first | exact hA ‹_› | exact hA h | cases h) | exact ih | assumption | exact ih (by omega) _ (fun h => by first | exact hA ‹_› | cases h) | exact H _ hA | refine ex_at g hg (by omega) ?_ | rw [wI_up (by omega)] | rw [wI_dn (by omega)] | exact absurd ‹_› (by omega) | (exfalso; omega) | refine ex_join ?_ | refine ex_if (fun h => ?_) (fun h => ?_) | refine ex_ne (fun h => ?_) (fun h => ?_) | refine ex_cond _ (fun h => ?_) (fun h => ?_) | refine ex_idx (by omega) (fun y hy hm => ?_) | refine ex_and (by omega) ?_
theorem t_ord14 (A : Prop) : ∀ i : Nat, ∀ b, (b = true -> A) -> Ex (fun r => r = true -> A) (ref22_ordered_j14 (i : Int) b p) := by
 have b1 := sz_le hp.np; have b2 := sz_le hp.ne
 refine upn (p.Enums.length) (fun i hi ih b hA => ?_) (fun i hi b hA => ?_)
 ·obtain ⟨g, hg, gm⟩ := getN hi
  refine ex_step (ref22_ordered_j14_step _ _ _) ?_
  try rw [wI_up (by omega)]
  repeat' first | exact ex_eq (fun h => by first | exact hA ‹_› | exact hA h | cases h) | exact ih | assumption | exact t_ord16 p hp A i hi g hg (hp.enums g gm) ih 1 (Nat.le_refl _) _ (fun h => by first | exact hA ‹_› | cases h) | rw [wI_dn (by omega)] | refine ex_join ?_ | refine ex_if (fun h => ?_) (fun h => ?_) | refine ex_ne (fun h => ?_) (fun h => ?_) | refine ex_cond _ (fun h => ?_) (fun h => ?_) | refine ex_idx (by omega) (fun y hy hm => ?_) | refine ex_and (by omega) ?_
 ·refine ex_step (ref22_ordered_j14_step _ _ _) ?_
  repeat' first | exact ex_eq (fun h => by first | exact hA ‹_› | exact hA h | cases h) | exact ih | assumption | exact t_ord16 p hp A i hi g hg (hp.enums g gm) ih 1 (Nat.le_refl _) _ (fun h => by first | exact hA ‹_› | cases h) | rw [wI_dn (by omega)] | exact absurd ‹_› (by omega) | (exfalso; omega) | refine ex_join ?_ | refine ex_if (fun h => ?_) (fun h => ?_) | refine ex_ne (fun h => ?_) (fun h => ?_) | refine ex_cond _ (fun h => ?_) (fun h => ?_) | refine ex_idx (by omega) (fun y hy hm => ?_) | refine ex_and (by omega) ?_
theorem t_ord18 (k : Nat) (hk : k < p.Progs.length) (g : GProg) (hg : p.Progs[((k : Int)).toNat]? = some g) (og : OkProg g) (H : ∀ b, (b = true -> ∀ j g, j < k + 1 -> p.Progs[j]? = some g -> Asc g.Ops g.Ops.length) -> Ex (fun r => r = true -> ∀ g ∈ p.Progs, Asc g.Ops g.Ops.length) (ref22_ordered_j10 ((k + 1 : Nat) : Int) b p)) :
  ∀ i : Nat, 1 <= i -> (i = 1 ∨ i <= g.Ops.length) -> ∀ b, (b = true -> (∀ j g, j < k -> p.Progs[j]? = some g -> Asc g.Ops g.Ops.length) /\ Asc g.Ops i) -> Ex (fun r => r = true -> ∀ g ∈ p.Progs, Asc g.Ops g.Ops.length) (ref22_ordered_j18 (i : Int) b (k : Int) p) := by
 have b1 := sz_le hp.np; have b2 := sz_le hp.ne
 have b3 := sz_le og.n
 have e3 : ((k : Int)).toNat = k := by omega
 refine upn g.Ops.length (fun i hi ih h1 hi2 b hA => ?_) (fun i hi h1 hi2 b hA => ?_)
 ·refine ex_step (ref22_ordered_j18_step _ _ _ _) (ex_at g hg (by omega) (ex_if (fun _ => ex_cond _ (fun hb => ?_) (fun hb => ?_)) fun h => absurd (show (i : Int) < g.Ops.length by omega) h))
  ·rw [wI_dn (by omega), wI_up (by omega)]
   refine ex_at g hg (by omega) (ex_idx (by omega) fun x hx hm => ex_at g hg (by omega) (ex_idx (by omega) fun y hy hm2 => ih (by omega) (by omega) _ fun h => ⟨(hA hb).1, ?_⟩))
   have e1 : (((i - 1 : Nat) : Int)).toNat = i - 1 := by omega
   have e2 : ((i : Int)).toNat = i := by omega
   rw [e1] at hx; rw [e2] at hy
   exact asc_more (hA hb).2 hx hy (of_decide_eq_true h)
  ·rw [wI_up (by omega)]
   exact ih (by omega) (by omega) _ fun h => by cases h
 ·refine ex_step (ref22_ordered_j18_step _ _ _ _) (ex_at g hg (by omega) (ex_if (fun h => absurd h (by omega)) fun _ => ?_))
  rw [wI_up (by omega)]
  refine H _ fun h => past_more (hA h).1 (by rw [← e3]; exact hg) ?_
  rcases hi2 with e | e
  ·intro m x y hm; omega
  ·have : i = g.Ops.length := by omega
   rw [← this]; exact (hA h).2
theorem t_ord10 : ∀ i : Nat, i <= p.Progs.length -> ∀ b, (b = true -> ∀ j g, j < i -> p.Progs[j]? = some g -> Asc g.Ops g.Ops.length) -> Ex (fun r => r = true -> ∀ g ∈ p.Progs, Asc g.Ops g.Ops.length) (ref22_ordered_j10 (i : Int) b p) := by
 have b1 := sz_le hp.np; have b2 := sz_le hp.ne
 have b1 := sz_le hp.np; have b2 := sz_le hp.ne
 refine upn p.Progs.length (fun i hi ih hle b hA => ?_) (fun i hi hle b hA => ?_)
 ·obtain ⟨g, hg, gm⟩ := getN hi
  have fin : ∀ b', (b' = true -> b = true) -> Ex (fun r => r = true -> ∀ g ∈ p.Progs, Asc g.Ops g.Ops.length) (ref22_ordered_j18 1 b' (i : Int) p) := fun b' hb' => t_ord18 p hp i hi g hg (hp.progs g gm) (fun b h => ih (by omega) b h) 1 (Nat.le_refl _) (.inl rfl) b' fun h => ⟨hA (hb' h), fun m x y hm => by omega⟩
  refine ex_step (ref22_ordered_j10_step _ _ _) (ex_if (fun _ => ex_join (ex_cond _ (fun hb => ex_join ?_) fun hb => fin _ (fun h => by cases h))) fun h => absurd (show (i : Int) < p.Progs.length by omega) h)
  refine ex_cond _ (fun h => fin _ fun _ => hb) fun h => ?_
  have : 0 < i := by simp at h; omega
  rw [wI_dn (by omega)]
  exact ex_idx (by omega) fun _ _ _ => ex_idx (by omega) fun _ _ _ => fin _ fun _ => hb
 ·refine ex_step (ref22_ordered_j10_step _ _ _) (ex_if (fun h => absurd h (by omega)) fun _ => t_ord14 p hp _ 0 b fun h => past_all (hA h) hi)
theorem t_ordered : Ex (fun r => r = true -> ∀ g ∈ p.Progs, Asc g.Ops g.Ops.length) (ref22_ordered p) :=
 ex_step (ref22_ordered_step _) (t_ord10 p hp 0 (Nat.zero_le _) true fun _ j g h => by omega)
end
section
variable (p : GPlan) (hp : OkPlan p)
 include hp
theorem t_sin56 (k : Nat) (g : GEnum) (og : OkEnum g) (m : Nat) (hm : m < g.Items.length) (H : ∀ b, Ex yes (ref22_single_j54 ((m + 1 : Nat) : Int) g (k : Int) b p)) : ∀ i : Nat, ∀ b, Ex yes (ref22_single_j56 (i : Int) (m : Int) g (k : Int) b p) := by
 have b1 := sz_le hp.np; have b2 := sz_le hp.ne
 have b3 := sz_le og.ni; have b4 := sz_le og.nr
 refine upn (m) (fun i hi ih b => ?_) (fun i hi b => ?_)
 ·refine ex_step (ref22_single_j56_step _ _ _ _ _ _) ?_
  try rw [wI_up (by omega)]
  repeat' first | exact ex_eq trivial | exact ih | assumption | exact ih _ | rw [wI_up (by omega)] | exact H _ | refine ex_join ?_ | refine ex_if (fun h => ?_) (fun h => ?_) | refine ex_ne (fun h => ?_) (fun h => ?_) | refine ex_cond _ (fun h => ?_) (fun h => ?_) | refine ex_idx (by omega) (fun y hy hm => ?_) | refine ex_and (by omega) ?_
 ·refine ex_step (ref22_single_j56_step _ _ _ _ _ _) ?_
  repeat' first | exact ex_eq trivial | exact ih | assumption | exact ih _ | rw [wI_up (by omega)] | exact H _ | exact absurd ‹_› (by omega) | (exfalso; omega) | refine ex_join ?_ | refine ex_if (fun h => ?_) (fun h => ?_) | refine ex_ne (fun h => ?_) (fun h => ?_) | refine ex_cond _ (fun h => ?_) (fun h => ?_) | refine ex_idx (by omega) (fun y hy hm => ?_) | refine ex_and (by omega) ?_
theorem t_sin54 (k : Nat) (g : GEnum) (og : OkEnum g) (H : ∀ b, Ex yes (ref22_single_j48 ((k + 1 : Nat) : Int) b p)) (hk : k < p.Enums.length) : ∀ i : Nat, ∀ b, Ex yes (ref22_single_j54 (i : Int) g (k : Int) b p) := by
 have b1 := sz_le hp.np; have b2 := sz_le hp.ne
 have b3 := sz_le og.ni; have b4 := sz_le og.nr
 refine upn (g.Items.length) (fun i hi ih b => ?_) (fun i hi b => ?_)
 ·refine ex_step (ref22_single_j54_step _ _ _ _ _) ?_
  try rw [wI_up (by omega)]
  repeat' first | exact ex_eq trivial | exact ih | assumption | exact ih _ | exact t_sin56 p hp k g og i hi ih 0 _ | rw [wI_up (by omega)] | exact H _ | refine ex_join ?_ | refine ex_if (fun h => ?_) (fun h => ?_) | refine ex_ne (fun h => ?_) (fun h => ?_) | refine ex_cond _ (fun h => ?_) (fun h => ?_) | refine ex_idx (by omega) (fun y hy hm => ?_) | refine ex_and (by omega) ?_
 ·refine ex_step (ref22_single_j54_step _ _ _ _ _) ?_
  repeat' first | exact ex_eq trivial | exact ih | assumption | exact ih _ | exact t_sin56 p hp k g og i hi ih 0 _ | rw [wI_up (by omega)] | exact H _ | exact absurd ‹_› (by omega) | (exfalso; omega) | refine ex_join ?_ | refine ex_if (fun h => ?_) (fun h => ?_) | refine ex_ne (fun h => ?_) (fun h => ?_) | refine ex_cond _ (fun h => ?_) (fun h => ?_) | refine ex_idx (by omega) (fun y hy hm => ?_) | refine ex_and (by omega) ?_
theorem t_sin48  : ∀ i : Nat, ∀ b, Ex yes (ref22_single_j48 (i : Int) b p) := by
 have b1 := sz_le hp.np; have b2 := sz_le hp.ne
 refine upn (p.Enums.length) (fun i hi ih b => ?_) (fun i hi b => ?_)
 ·refine ex_step (ref22_single_j48_step _ _ _) ?_
  try rw [wI_up (by omega)]
  repeat' first | exact ex_eq trivial | exact ih | assumption | exact ih _ | exact t_sin54 p hp i _ (hp.enums _ ‹_›) ih hi 0 _ | refine ex_join ?_ | refine ex_if (fun h => ?_) (fun h => ?_) | refine ex_ne (fun h => ?_) (fun h => ?_) | refine ex_cond _ (fun h => ?_) (fun h => ?_) | refine ex_idx (by omega) (fun y hy hm => ?_) | refine ex_and (by omega) ?_
 ·refine ex_step (ref22_single_j48_step _ _ _) ?_
  repeat' first | exact ex_eq trivial | exact ih | assumption | exact ih _ | exact t_sin54 p hp i _ (hp.enums _ ‹_›) ih hi 0 _ | exact absurd ‹_› (by omega) | (exfalso; omega) | refine ex_join ?_ | refine ex_if (fun h => ?_) (fun h => ?_) | refine ex_ne (fun h => ?_) (fun h => ?_) | refine ex_cond _ (fun h => ?_) (fun h => ?_) | refine ex_idx (by omega) (fun y hy hm => ?_) | refine ex_and (by omega) ?_
theorem t_sin74 (k : Nat) (g : GProg) (og : OkProg g) (m : Nat) (hm : m < g.Ops.length) (H : ∀ b, Ex yes (ref22_single_j72 ((m + 1 : Nat) : Int) g (k : Int) b p)) : ∀ i : Nat, ∀ b, Ex yes (ref22_single_j74 (i : Int) (m : Int) g (k : Int) b p) := by
 have b1 := sz_le hp.np; have b2 := sz_le hp.ne
 have b3 := sz_le og.n
 refine upn (m) (fun i hi ih b => ?_) (fun i hi b => ?_)
 ·refine ex_step (ref22_single_j74_step _ _ _ _ _ _) ?_
  try rw [wI_up (by omega)]
  repeat' first | exact ex_eq trivial | exact ih | assumption | exact ih _ | rw [wI_up (by omega)] | exact H _ | refine ex_join ?_ | refine ex_if (fun h => ?_) (fun h => ?_) | refine ex_ne (fun h => ?_) (fun h => ?_) | refine ex_cond _ (fun h => ?_) (fun h => ?_) | refine ex_idx (by omega) (fun y hy hm => ?_) | refine ex_and (by omega) ?_
 ·refine ex_step (ref22_single_j74_step _ _ _ _ _ _) ?_
  repeat' first | exact ex_eq trivial | exact ih | assumption | exact ih _ | rw [wI_up (by omega)] | exact H _ | exact absurd ‹_› (by omega) | (exfalso; omega) | refine ex_join ?_ | refine ex_if (fun h => ?_) (fun h => ?_) | refine ex_ne (fun h => ?_) (fun h => ?_) | refine ex_cond _ (fun h => ?_) (fun h => ?_) | refine ex_idx (by omega) (fun y hy hm => ?_) | refine ex_and (by omega) ?_
theorem t_sin72 (k : Nat) (g : GProg) (og : OkProg g) (H : ∀ b, Ex yes (ref22_single_j38 ((k + 1 : Nat) : Int) b p)) (hk : k < p.Progs.length) : ∀ i : Nat, ∀ b, Ex yes (ref22_single_j72 (i : Int) g (k : Int) b p) := by
 have b1 := sz_le hp.np; have b2 := sz_le hp.ne
 have b3 := sz_le og.n
 refine upn (g.Ops.length) (fun i hi ih b => ?_) (fun i hi b => ?_)
 ·refine ex_step (ref22_single_j72_step _ _ _ _ _) ?_
  try rw [wI_up (by omega)]
  repeat' first | exact ex_eq trivial | exact ih | assumption | exact ih _ | exact t_sin74 p hp k g og i hi ih 0 _ | rw [wI_up (by omega)] | exact H _ | refine ex_join ?_ | refine ex_if (fun h => ?_) (fun h => ?_) | refine ex_ne (fun h => ?_) (fun h => ?_) | refine ex_cond _ (fun h => ?_) (fun h => ?_) | refine ex_idx (by omega) (fun y hy hm => ?_) | refine ex_and (by omega) ?_
 ·refine ex_step (ref22_single_j72_step _ _ _ _ _) ?_
  repeat' first | exact ex_eq trivial | exact ih | assumption | exact ih _ | exact t_sin74 p hp k g og i hi ih 0 _ | rw [wI_up (by omega)] | exact H _ | exact absurd ‹_› (by omega) | (exfalso; omega) | refine ex_join ?_ | refine ex_if (fun h => ?_) (fun h => ?_) | refine ex_ne (fun h => ?_) (fun h => ?_) | refine ex_cond _ (fun h => ?_) (fun h => ?_) | refine ex_idx (by omega) (fun y hy hm => ?_) | refine ex_and (by omega) ?_
theorem t_sin66 (k : Nat) (hk : k < p.Progs.length) (H : ∀ b, Ex yes (ref22_single_j38 ((k + 1 : Nat) : Int) b p)) : ∀ i : Nat, ∀ b, Ex yes (ref22_single_j66 (i : Int) (k : Int) b p) := by
 have b1 := sz_le hp.np; have b2 := sz_le hp.ne
 refine upn (p.Enums.length) (fun i hi ih b => ?_) (fun i hi b => ?_)
 ·refine ex_step (ref22_single_j66_step _ _ _ _) ?_
  try rw [wI_up (by omega)]
  repeat' first | exact ex_eq trivial | exact ih | assumption | exact ih _ | exact t_sin72 p hp k _ (hp.progs _ ‹_›) H hk 0 _ | refine ex_join ?_ | refine ex_if (fun h => ?_) (fun h => ?_) | refine ex_ne (fun h => ?_) (fun h => ?_) | refine ex_cond _ (fun h => ?_) (fun h => ?_) | refine ex_idx (by omega) (fun y hy hm => ?_) | refine ex_and (by omega) ?_
 ·refine ex_step (ref22_single_j66_step _ _ _ _) ?_
  repeat' first | exact ex_eq trivial | exact ih | assumption | exact ih _ | exact t_sin72 p hp k _ (hp.progs _ ‹_›) H hk 0 _ | exact absurd ‹_› (by omega) | (exfalso; omega) | refine ex_join ?_ | refine ex_if (fun h => ?_) (fun h => ?_) | refine ex_ne (fun h => ?_) (fun h => ?_) | refine ex_cond _ (fun h => ?_) (fun h => ?_) | refine ex_idx (by omega) (fun y hy hm => ?_) | refine ex_and (by omega) ?_
theorem t_sin38  : ∀ i : Nat, ∀ b, Ex yes (ref22_single_j38 (i : Int) b p) := by
 have b1 := sz_le hp.np; have b2 := sz_le hp.ne
 refine upn (p.Progs.length) (fun i hi ih b => ?_) (fun i hi b => ?_)
 ·refine ex_step (ref22_single_j38_step _ _ _) ?_
  try rw [wI_up (by omega)]
  repeat' first | exact ex_eq trivial | exact ih | assumption | exact ih _ | exact t_sin66 p hp i hi ih 0 _ | exact t_sin48 p hp 0 _ | refine ex_join ?_ | refine ex_if (fun h => ?_) (fun h => ?_) | refine ex_ne (fun h => ?_) (fun h => ?_) | refine ex_cond _ (fun h => ?_) (fun h => ?_) | refine ex_idx (by omega) (fun y hy hm => ?_) | refine ex_and (by omega) ?_
 ·refine ex_step (ref22_single_j38_step _ _ _) ?_
  repeat' first | exact ex_eq trivial | exact ih | assumption | exact ih _ | exact t_sin66 p hp i hi ih 0 _ | exact t_sin48 p hp 0 _ | exact absurd ‹_› (by omega) | (exfalso; omega) | refine ex_join ?_ | refine ex_if (fun h => ?_) (fun h => ?_) | refine ex_ne (fun h => ?_) (fun h => ?_) | refine ex_cond _ (fun h => ?_) (fun h => ?_) | refine ex_idx (by omega) (fun y hy hm => ?_) | refine ex_and (by omega) ?_
theorem t_single : Ex yes (ref22_single p) := ex_step (ref22_single_step _) (t_sin38 p hp 0 _)
theorem t_res_j (l : List GSpan) (hl : Sz l.length) (n : Int) : ∀ i : Nat, Ex yes (ref12_Reserved_j2 (i : Int) l n) := by
 have b1 := sz_le hp.np; have b2 := sz_le hp.ne
 have b1 := sz_le hl
 refine upn (l.length) (fun i hi ih => ?_) (fun i hi => ?_)
 ·refine ex_step (ref12_Reserved_j2_step _ _ _) ?_
  rw [wI_up (by omega)]
  repeat' first | exact ex_eq trivial | exact ih | assumption | refine ex_join ?_ | refine ex_if (fun h => ?_) (fun h => ?_) | refine ex_ne (fun h => ?_) (fun h => ?_) | refine ex_cond _ (fun h => ?_) (fun h => ?_) | refine ex_idx (by omega) (fun y hy hm => ?_) | refine ex_and (by omega) ?_
 ·refine ex_step (ref12_Reserved_j2_step _ _ _) ?_
  repeat' first | exact ex_eq trivial | exact ih | assumption | exact absurd ‹_› (by omega) | (exfalso; omega) | refine ex_join ?_ | refine ex_if (fun h => ?_) (fun h => ?_) | refine ex_ne (fun h => ?_) (fun h => ?_) | refine ex_cond _ (fun h => ?_) (fun h => ?_) | refine ex_idx (by omega) (fun y hy hm => ?_) | refine ex_and (by omega) ?_
theorem t_res (l : List GSpan) (hl : Sz l.length) (n : Int) : Ex yes (ref12_Reserved l n) := ex_step (ref12_Reserved_step _ _) (t_res_j p hp l hl n 0)
theorem t_ran32 (A : Prop) (k : Nat) (hk : k < p.Enums.length) (g : GEnum) (og : OkEnum g) (H : ∀ b, (b = true -> A) -> Ex (fun r => r = true -> A) (ref22_ranges_j26 ((k + 1 : Nat) : Int) b p)) : ∀ i : Nat, ∀ b, (b = true -> A) -> Ex (fun r => r = true -> A) (ref22_ranges_j32 (i : Int) (k : Int) b p g) := by
 have b1 := sz_le hp.np; have b2 := sz_le hp.ne
 have b3 := sz_le og.ni; have b4 := sz_le og.nr
 refine upn (g.Reserved.length) (fun i hi ih b hA => ?_) (fun i hi b hA => ?_)
 ·refine ex_step (ref22_ranges_j32_step _ _ _ _ _) ?_
  try rw [wI_up (by omega)]
  repeat' first | exact ex_eq (fun h => by first | exact hA ‹_› | exact hA h | cases h) | exact ih | assumption | exact ih _ (fun h => hA (by simp only [Bool.and_eq_true] at *; simp [*])) | exact ih _ (fun h => by cases h) | rw [wI_up (by omega)] | exact H _ hA | rw [wI_dn (by omega)] | refine ex_join ?_ | refine ex_if (fun h => ?_) (fun h => ?_) | refine ex_ne (fun h => ?_) (fun h => ?_) | refine ex_cond _ (fun h => ?_) (fun h => ?_) | refine ex_idx (by omega) (fun y hy hm => ?_) | refine ex_and (by omega) ?_
 ·refine ex_step (ref22_ranges_j32_step _ _ _ _ _) ?_
  repeat' first | exact ex_eq (fun h => by first | exact hA ‹_› | exact hA h | cases h) | exact ih | assumption | exact ih _ (fun h => hA (by simp only [Bool.and_eq_true] at *; simp [*])) | exact ih _ (fun h => by cases h) | rw [wI_up (by omega)] | exact H _ hA | rw [wI_dn (by omega)] | exact absurd ‹_› (by omega) | (exfalso; omega) | refine ex_join ?_ | refine ex_if (fun h => ?_) (fun h => ?_) | refine ex_ne (fun h => ?_) (fun h => ?_) | refine ex_cond _ (fun h => ?_) (fun h => ?_) | refine ex_idx (by omega) (fun y hy hm => ?_) | refine ex_and (by omega) ?_
theorem t_ran30 (A : Prop) (k : Nat) (hk : k < p.Enums.length) (g : GEnum) (og : OkEnum g) (H : ∀ b, (b = true -> A) -> Ex (fun r => r = true -> A) (ref22_ranges_j26 ((k + 1 : Nat) : Int) b p)) : ∀ i : Nat, ∀ b, (b = true -> A) -> Ex (fun r => r = true -> A) (ref22_ranges_j30 (i : Int) (k : Int) b p g) := by
 have b1 := sz_le hp.np; have b2 := sz_le hp.ne
 have b3 := sz_le og.ni; have b4 := sz_le og.nr
 refine upn (g.Items.length) (fun i hi ih b hA => ?_) (fun i hi b hA => ?_)
 ·refine ex_step (ref22_ranges_j30_step _ _ _ _ _) ?_
  try rw [wI_up (by omega)]
  repeat' first | exact ex_eq (fun h => by first | exact hA ‹_› | exact hA h | cases h) | exact ih | assumption | exact ih _ (fun h => hA (by simp only [Bool.and_eq_true] at *; simp [*])) | exact ih _ (fun h => by cases h) | exact t_ran32 p hp A k hk g og H 0 _ hA | refine ex_join ?_ | refine ex_if (fun h => ?_) (fun h => ?_) | refine ex_ne (fun h => ?_) (fun h => ?_) | refine ex_cond _ (fun h => ?_) (fun h => ?_) | refine ex_idx (by omega) (fun y hy hm => ?_) | refine ex_and (by omega) ?_ | refine ex_call (t_res p hp _ og.nr _) (fun y hq => ?_)
 ·refine ex_step (ref22_ranges_j30_step _ _ _ _ _) ?_
  repeat' first | exact ex_eq (fun h => by first | exact hA ‹_› | exact hA h | cases h) | exact ih | assumption | exact ih _ (fun h => hA (by simp only [Bool.and_eq_true] at *; simp [*])) | exact ih _ (fun h => by cases h) | exact t_ran32 p hp A k hk g og H 0 _ hA | exact absurd ‹_› (by omega) | (exfalso; omega) | refine ex_join ?_ | refine ex_if (fun h => ?_) (fun h => ?_) | refine ex_ne (fun h => ?_) (fun h => ?_) | refine ex_cond _ (fun h => ?_) (fun h => ?_) | refine ex_idx (by omega) (fun y hy hm => ?_) | refine ex_and (by omega) ?_ | refine ex_call (t_res p hp _ og.nr _) (fun y hq => ?_)
theorem t_ran26 (A : Prop) : ∀ i : Nat, ∀ b, (b = true -> A) -> Ex (fun r => r = true -> A) (ref22_ranges_j26 (i : Int) b p) := by
 have b1 := sz_le hp.np; have b2 := sz_le hp.ne
 refine upn (p.Enums.length) (fun i hi ih b hA => ?_) (fun i hi b hA => ?_)
 ·refine ex_step (ref22_ranges_j26_step _ _ _) ?_
  try rw [wI_up (by omega)]
  repeat' first | exact ex_eq (fun h => by first | exact hA ‹_› | exact hA h | cases h) | exact ih | assumption | exact t_ran30 p hp A i hi _ (hp.enums _ ‹_›) ih 0 _ hA | refine ex_join ?_ | refine ex_if (fun h => ?_) (fun h => ?_) | refine ex_ne (fun h => ?_) (fun h => ?_) | refine ex_cond _ (fun h => ?_) (fun h => ?_) | refine ex_idx (by omega) (fun y hy hm => ?_) | refine ex_and (by omega) ?_
 ·refine ex_step (ref22_ranges_j26_step _ _ _) ?_
  repeat' first | exact ex_eq (fun h => by first | exact hA ‹_› | exact hA h | cases h) | exact ih | assumption | exact t_ran30 p hp A i hi _ (hp.enums _ ‹_›) ih 0 _ hA | exact absurd ‹_› (by omega) | (exfalso; omega) | refine ex_join ?_ | refine ex_if (fun h => ?_) (fun h => ?_) | refine ex_ne (fun h => ?_) (fun h => ?_) | refine ex_cond _ (fun h => ?_) (fun h => ?_) | refine ex_idx (by omega) (fun y hy hm => ?_) | refine ex_and (by omega) ?_
def NumF (o : GOp) : Prop := 1 <= o.Num /\ o.Num <= 65535
theorem t_ran34 (k : Nat) (hk : k < p.Progs.length) (g : GProg) (hg : p.Progs[((k : Int)).toNat]? = some g) (og : OkProg g) (H : ∀ b, (b = true -> ∀ j g, j < k + 1 -> p.Progs[j]? = some g -> ∀ o ∈ g.Ops, NumF o) -> Ex (fun r => r = true -> ∀ g ∈ p.Progs, ∀ o ∈ g.Ops, NumF o) (ref22_ranges_j18 ((k + 1 : Nat) : Int) b p)) :
  ∀ i : Nat, ∀ b, (b = true -> (∀ j g, j < k -> p.Progs[j]? = some g -> ∀ o ∈ g.Ops, NumF o) /\ ∀ j o, j < i -> g.Ops[j]? = some o -> NumF o) -> Ex (fun r => r = true -> ∀ g ∈ p.Progs, ∀ o ∈ g.Ops, NumF o) (ref22_ranges_j34 (i : Int) (k : Int) b p) := by
 have b1 := sz_le hp.np; have b2 := sz_le hp.ne
 have b3 := sz_le og.n
 have e3 : ((k : Int)).toNat = k := by omega
 refine upn g.Ops.length (fun i hi ih b hA => ?_) (fun i hi b hA => ?_)
 ·refine ex_step (ref22_ranges_j34_step _ _ _ _) (ex_at g hg (by omega) (ex_if (fun _ => ex_at g hg (by omega) (ex_idx (by omega) fun y hy hm => ?_)) fun h => absurd (show (i : Int) < g.Ops.length by omega) h))
  rw [wI_up (by omega)]
  refine ih _ fun h => ?_
  simp only [Bool.and_eq_true, decide_eq_true_eq] at h
  have e2 : ((i : Int)).toNat = i := by omega
  rw [e2] at hy
  exact ⟨(hA h.1.1).1, past_more (hA h.1.1).2 hy ⟨h.1.2, h.2⟩⟩
 ·refine ex_step (ref22_ranges_j34_step _ _ _ _) (ex_at g hg (by omega) (ex_if (fun h => absurd h (by omega)) fun _ => ?_))
  rw [wI_up (by omega)]
  exact H _ fun h => past_more (hA h).1 (by rw [← e3]; exact hg) (past_all (hA h).2 hi)
theorem t_ran18 : ∀ i : Nat, ∀ b, (b = true -> ∀ j g, j < i -> p.Progs[j]? = some g -> ∀ o ∈ g.Ops, NumF o) -> Ex (fun r => r = true -> ∀ g ∈ p.Progs, ∀ o ∈ g.Ops, NumF o) (ref22_ranges_j18 (i : Int) b p) := by
 have b1 := sz_le hp.np; have b2 := sz_le hp.ne
 have b1 := sz_le hp.np; have b2 := sz_le hp.ne
 refine upn p.Progs.length (fun i hi ih b hA => ?_) (fun i hi b hA => ?_)
 ·obtain ⟨g, hg, gm⟩ := getN hi
  exact ex_step (ref22_ranges_j18_step _ _ _) (ex_if (fun _ => t_ran34 p hp i hi g hg (hp.progs g gm) ih 0 b fun h => ⟨hA h, fun j o hj => by omega⟩) fun h => absurd (show (i : Int) < p.Progs.length by omega) h)
 ·exact ex_step (ref22_ranges_j18_step _ _ _) (ex_if (fun h => absurd h (by omega)) fun _ => t_ran26 p hp _ 0 b fun h => past_all (hA h) hi)
theorem t_ranges : Ex (fun r => r = true -> ∀ g ∈ p.Progs, ∀ o ∈ g.Ops, NumF o) (ref22_ranges p) := ex_step (ref22_ranges_step _) (t_ran18 p hp 0 true fun _ j g h => by omega)
end
theorem t_kind14 (b : Bool) (s : ByteArray) : Ex yes (ref08_Kind_j14 b s) := by
 refine ex_step (ref08_Kind_j14_step _ _) ?_
 repeat' first | exact ex_eq trivial | exact ih | assumption | refine ex_join ?_ | refine ex_if (fun h => ?_) (fun h => ?_) | refine ex_ne (fun h => ?_) (fun h => ?_) | refine ex_cond _ (fun h => ?_) (fun h => ?_) | refine ex_idx (by omega) (fun y hy hm => ?_) | refine ex_and (by omega) ?_
theorem t_kind12 (b : Bool) (s : ByteArray) : Ex yes (ref08_Kind_j12 b s) := by
 refine ex_step (ref08_Kind_j12_step _ _) ?_
 repeat' first | exact ex_eq trivial | exact ih | assumption | exact t_kind14 _ s | refine ex_join ?_ | refine ex_if (fun h => ?_) (fun h => ?_) | refine ex_ne (fun h => ?_) (fun h => ?_) | refine ex_cond _ (fun h => ?_) (fun h => ?_) | refine ex_idx (by omega) (fun y hy hm => ?_) | refine ex_and (by omega) ?_
theorem t_kind8 (b : Bool) (s : ByteArray) : Ex yes (ref08_Kind_j8 b s) := by
 refine ex_step (ref08_Kind_j8_step _ _) ?_
 repeat' first | exact ex_eq trivial | exact ih | assumption | exact t_kind12 _ s | refine ex_join ?_ | refine ex_if (fun h => ?_) (fun h => ?_) | refine ex_ne (fun h => ?_) (fun h => ?_) | refine ex_cond _ (fun h => ?_) (fun h => ?_) | refine ex_idx (by omega) (fun y hy hm => ?_) | refine ex_and (by omega) ?_
theorem t_kind (s : ByteArray) : Ex yes (ref08_Kind s) := by
 refine ex_step (ref08_Kind_step _) ?_
 repeat' first | exact ex_eq trivial | exact ih | assumption | exact t_kind8 _ s | refine ex_join ?_ | refine ex_if (fun h => ?_) (fun h => ?_) | refine ex_ne (fun h => ?_) (fun h => ?_) | refine ex_cond _ (fun h => ?_) (fun h => ?_) | refine ex_idx (by omega) (fun y hy hm => ?_) | refine ex_and (by omega) ?_
theorem t_fit30 (b : Bool) (t : Int) : Ex yes (ref08_fits_j30 b t) := by
 refine ex_step (ref08_fits_j30_step _ _) ?_
 repeat' first | exact ex_eq trivial | exact ih | assumption | refine ex_join ?_ | refine ex_if (fun h => ?_) (fun h => ?_) | refine ex_ne (fun h => ?_) (fun h => ?_) | refine ex_cond _ (fun h => ?_) (fun h => ?_) | refine ex_idx (by omega) (fun y hy hm => ?_) | refine ex_and (by omega) ?_
theorem t_fit28 (b : Bool) (s : ByteArray) (t : Int) : Ex yes (ref08_fits_j28 b s t) := by
 refine ex_step (ref08_fits_j28_step _ _ _) ?_
 repeat' first | exact ex_eq trivial | exact ih | assumption | exact t_fit30 _ t | refine ex_join ?_ | refine ex_if (fun h => ?_) (fun h => ?_) | refine ex_ne (fun h => ?_) (fun h => ?_) | refine ex_cond _ (fun h => ?_) (fun h => ?_) | refine ex_idx (by omega) (fun y hy hm => ?_) | refine ex_and (by omega) ?_
theorem t_fit24 (b : Bool) (s : ByteArray) (t : Int) : Ex yes (ref08_fits_j24 b s t) := by
 refine ex_step (ref08_fits_j24_step _ _ _) ?_
 repeat' first | exact ex_eq trivial | exact ih | assumption | exact t_fit28 _ s t | refine ex_join ?_ | refine ex_if (fun h => ?_) (fun h => ?_) | refine ex_ne (fun h => ?_) (fun h => ?_) | refine ex_cond _ (fun h => ?_) (fun h => ?_) | refine ex_idx (by omega) (fun y hy hm => ?_) | refine ex_and (by omega) ?_
theorem t_fit16 (b : Bool) (s : ByteArray) (t : Int) : Ex yes (ref08_fits_j16 b s t) := by
 refine ex_step (ref08_fits_j16_step _ _ _) ?_
 repeat' first | exact ex_eq trivial | exact ih | assumption | exact t_fit24 _ s t | refine ex_join ?_ | refine ex_if (fun h => ?_) (fun h => ?_) | refine ex_ne (fun h => ?_) (fun h => ?_) | refine ex_cond _ (fun h => ?_) (fun h => ?_) | refine ex_idx (by omega) (fun y hy hm => ?_) | refine ex_and (by omega) ?_
theorem t_fit (s : ByteArray) (t : Int) : Ex yes (ref08_fits s t) := by
 refine ex_step (ref08_fits_step _ _) ?_
 repeat' first | exact ex_eq trivial | exact ih | assumption | exact t_fit16 _ s t | refine ex_join ?_ | refine ex_if (fun h => ?_) (fun h => ?_) | refine ex_ne (fun h => ?_) (fun h => ?_) | refine ex_cond _ (fun h => ?_) (fun h => ?_) | refine ex_idx (by omega) (fun y hy hm => ?_) | refine ex_and (by omega) ?_
theorem t_right (n : GNote) (hn : OkNote n) : Ex yes (ref08_Right n) := by
 refine ex_step (ref08_Right_step _) ?_
 repeat' first | exact ex_eq trivial | exact ih | assumption | refine ex_val (rfits_is _ _ hn.val.okv) ?_ | refine ex_join ?_ | refine ex_if (fun h => ?_) (fun h => ?_) | refine ex_ne (fun h => ?_) (fun h => ?_) | refine ex_cond _ (fun h => ?_) (fun h => ?_) | refine ex_idx (by omega) (fun y hy hm => ?_) | refine ex_and (by omega) ?_ | refine ex_call (t_kind _) (fun y hq => ?_)
theorem t_chk_j (l : List GNote) (hl : Sz l.length) (hn : ∀ n ∈ l, OkNote n) (t : Int) : ∀ i : Nat, Ex yes (ref08_Check_j2 (i : Int) l t) := by
 have b1 := sz_le hl
 refine upn (l.length) (fun i hi ih => ?_) (fun i hi => ?_)
 ·refine ex_step (ref08_Check_j2_step _ _ _) ?_
  rw [wI_up (by omega)]
  repeat' first | exact ex_eq trivial | exact ih | assumption | rw [wI_dn (by omega)] | refine ex_join ?_ | refine ex_if (fun h => ?_) (fun h => ?_) | refine ex_ne (fun h => ?_) (fun h => ?_) | refine ex_cond _ (fun h => ?_) (fun h => ?_) | refine ex_idx (by omega) (fun y hy hm => ?_) | refine ex_and (by omega) ?_ | refine ex_call (t_kind _) (fun y hq => ?_) | refine ex_call (t_fit _ _) (fun y hq => ?_) | refine ex_call (t_right _ (hn _ (by assumption))) (fun y hq => ?_)
 ·refine ex_step (ref08_Check_j2_step _ _ _) ?_
  repeat' first | exact ex_eq trivial | exact ih | assumption | rw [wI_dn (by omega)] | exact absurd ‹_› (by omega) | (exfalso; omega) | refine ex_join ?_ | refine ex_if (fun h => ?_) (fun h => ?_) | refine ex_ne (fun h => ?_) (fun h => ?_) | refine ex_cond _ (fun h => ?_) (fun h => ?_) | refine ex_idx (by omega) (fun y hy hm => ?_) | refine ex_and (by omega) ?_ | refine ex_call (t_kind _) (fun y hq => ?_) | refine ex_call (t_fit _ _) (fun y hq => ?_) | refine ex_call (t_right _ (hn _ (by assumption))) (fun y hq => ?_)
theorem t_chk (l : List GNote) (hl : Sz l.length) (hn : ∀ n ∈ l, OkNote n) (t : Int) : Ex yes (ref08_Check l t) := by
 refine ex_step (ref08_Check_step _ _) ?_
 repeat' first | exact ex_eq trivial | exact ih | assumption | exact t_chk_j l hl hn t 0 | refine ex_join ?_ | refine ex_if (fun h => ?_) (fun h => ?_) | refine ex_ne (fun h => ?_) (fun h => ?_) | refine ex_cond _ (fun h => ?_) (fun h => ?_) | refine ex_idx (by omega) (fun y hy hm => ?_) | refine ex_and (by omega) ?_
theorem t_target (p : GPlan) (o : GOp) : Ex (fun r => r = true -> (o.Kind = 10 -> 0 <= o.Target /\ o.Target < p.Progs.length /\ o.Card ≠ 3) /\ (o.Kind = 9 -> 0 <= o.Target /\ o.Target < p.Enums.length) /\ (o.Kind ≠ 9 -> o.Kind ≠ 10 -> o.Target = -1)) (ref22_target p o) := by
 refine ex_step (ref22_target_step _ _) (ex_cond _ (fun h => ex_eq fun h2 => ?_) fun h => ex_cond _ (fun h3 => ex_eq fun h2 => ?_) fun h3 => ex_eq fun h2 => ?_)
 all_goals simp only [Bool.and_eq_true, decide_eq_true_eq, bne_iff_ne, beq_iff_eq, beq_eq_false_iff_ne, ne_eq] at *
 ·exact ⟨fun _ => ⟨h2.1.1, h2.1.2, h2.2⟩, fun h => by omega, fun h => by omega⟩
 ·exact ⟨fun h => by omega, fun _ => h2, fun h => by omega⟩
 ·exact ⟨fun h => by omega, fun h => by omega, fun _ _ => h2⟩
theorem t_oper2 (p : GPlan) (o : GOp) (b : Bool) : Ex (fun r => r = true -> b = true /\ (o.Kind = 10 -> 0 <= o.Target /\ o.Target < p.Progs.length /\ o.Card ≠ 3) /\ (o.Kind = 9 -> 0 <= o.Target /\ o.Target < p.Enums.length) /\ (o.Kind ≠ 9 -> o.Kind ≠ 10 -> o.Target = -1) /\ (o.Union = -1 ∨ o.Card = 2)) (ref22_operation_j2 b p o) := by
 refine ex_step (ref22_operation_j2_step _ _ _) (ex_join (ex_cond _ (fun h => ex_call (t_target p o) fun y hy => ex_eq fun h2 => ?_) fun h => ex_eq fun h2 => ?_))
 ·simp only [Bool.and_eq_true, Bool.or_eq_true, beq_iff_eq] at h2
  obtain ⟨a1, a2, a3⟩ := hy h2.1
  exact ⟨h, a1, a2, a3, h2.2⟩
 ·simp at h2
theorem t_oper (p : GPlan) (o : GOp) (ho : OkOp o) : Ex (fun r => r = true -> OpF p o) (ref22_operation p o) := by
 refine ex_step (ref22_operation_step _ _) (ex_val (rvalid_is _ ho.alias_) (ex_cond _ (fun h => ex_eq fun h2 => by cases h2) fun h => ex_cond _ (fun h2 => ex_mono (t_oper2 p o _) fun r hr h3 => ?_) fun h2 => ex_mono (t_oper2 p o _) fun r hr h3 => ?_))
 all_goals
  obtain ⟨a0, a1, a2, a3, a4⟩ := hr h3
  simp only [Bool.or_eq_false_iff, decide_eq_false_iff_not, bne_iff_ne, bne_eq_false_iff_eq, ne_eq, Bool.or_eq_true, Bool.and_eq_true, decide_eq_true_eq, beq_iff_eq] at h h2 a0
  refine ⟨by omega, by omega, ⟨fun _ => by omega, fun _ => by omega⟩, a1, a2, a3, a4⟩
def UniF (o : GOp) : Prop := -1 <= o.Union
theorem t_join_j (g : GProg) (hg : OkProg g) : ∀ i : Nat, ∀ n : Nat, n <= i /\ i <= g.Ops.length -> (∀ j o, j < i -> g.Ops[j]? = some o -> UniF o) -> Ex (fun r => r = true -> ∀ o ∈ g.Ops, UniF o) (ref22_joined_j2 (i : Int) (n : Int) g) := by
 have b1 := sz_le hg.n
 refine upn g.Ops.length (fun i hi ih n hn hA => ?_) (fun i hi n hn hA => ?_)
 ·have e2 : ((i : Int)).toNat = i := by omega
  refine ex_step (ref22_joined_j2_step _ _ _) (ex_if (fun _ => ex_idx (by omega) fun y hy hm => ?_) fun h => absurd (show (i : Int) < g.Ops.length by omega) h)
  rw [wI_up (by omega), wI_up (by omega)]
  have hy' := hy
  rw [e2] at hy'
  refine ex_cond _ (fun h => ih _ (by omega) (past_more hA hy' ?_)) fun h => ex_join ?_
  ·simp only [beq_iff_eq] at h; unfold UniF; omega
  have no : ∀ b, (b = false -> UniF y) -> Ex (α := Bool) (fun r => r = true -> ∀ o ∈ g.Ops, UniF o) (fun r => (b = true -> r = false) /\ (b = false -> ref22_joined_j2 ((i + 1 : Nat) : Int) (n : Int) g r)) := fun b hb => ex_cond b (fun _ => ex_eq fun h => by cases h) fun h => ih _ (by omega) (past_more hA hy' (hb h))
  refine ex_cond _ (fun h2 => ex_cond _ (fun h3 => no _ fun h => by cases h) fun h3 => ?_) fun h2 => no _ fun _ => ?_
  ·have : 0 < i := by simp only [beq_eq_false_iff_ne] at h3; omega
   rw [wI_dn (by omega)]
   refine ex_idx (by omega) fun z hz _ => no _ fun h => ?_
   have e3 : (((i - 1 : Nat) : Int)).toNat = i - 1 := by omega
   rw [e3] at hz
   have := hA (i - 1) z (by omega) hz
   simp only [bne_eq_false_iff_eq] at h
   unfold UniF at *; omega
  ·simp only [bne_eq_false_iff_eq] at h2
   unfold UniF; omega
 ·exact ex_step (ref22_joined_j2_step _ _ _) (ex_if (fun h => absurd h (by omega)) fun _ => ex_eq fun _ => past_all hA hi)
theorem t_join (g : GProg) (hg : OkProg g) : Ex (fun r => r = true -> ∀ o ∈ g.Ops, UniF o) (ref22_joined g) := ex_step (ref22_joined_step _) (t_join_j g hg 0 0 (by omega) fun j o h => by omega)
section
variable (p : GPlan) (hp : OkPlan p)
 include hp
def ProF (g : GProg) : Prop := (∀ o ∈ g.Ops, UniF o) /\ ∀ o ∈ g.Ops, OpF p o
theorem t_arg16 (k : Nat) (hk : k < p.Progs.length) (g : GProg) (hg : p.Progs[((k : Int)).toNat]? = some g) (og : OkProg g) (H : ∀ b, (b = true -> ∀ j g, j < k + 1 -> p.Progs[j]? = some g -> ProF p g) -> Ex (fun r => r = true -> ∀ g ∈ p.Progs, ProF p g) (ref22_arguments_j14 ((k + 1 : Nat) : Int) b p)) :
  ∀ i : Nat, ∀ b, (b = true -> (∀ j g, j < k -> p.Progs[j]? = some g -> ProF p g) /\ (∀ o ∈ g.Ops, UniF o) /\ ∀ j o, j < i -> g.Ops[j]? = some o -> OpF p o) -> Ex (fun r => r = true -> ∀ g ∈ p.Progs, ProF p g) (ref22_arguments_j16 (i : Int) b (k : Int) p) := by
 have b1 := sz_le hp.np; have b2 := sz_le hp.ne
 have b3 := sz_le og.n
 have e3 : ((k : Int)).toNat = k := by omega
 refine upn g.Ops.length (fun i hi ih b hA => ?_) (fun i hi b hA => ?_)
 ·refine ex_step (ref22_arguments_j16_step _ _ _ _) (ex_at g hg (by omega) (ex_if (fun _ => ?_) fun h => absurd (show (i : Int) < g.Ops.length by omega) h))
  rw [wI_up (by omega)]
  refine ex_cond _ (fun hb => ex_at g hg (by omega) (ex_idx (by omega) fun y hy hm => ex_call (t_oper p y (og.ops y hm)) fun z hz => ih _ fun h => ?_)) fun hb => ih _ fun h => by cases h
  have e2 : ((i : Int)).toNat = i := by omega
  rw [e2] at hy
  exact ⟨(hA hb).1, (hA hb).2.1, past_more (hA hb).2.2 hy (hz h)⟩
 ·refine ex_step (ref22_arguments_j16_step _ _ _ _) (ex_at g hg (by omega) (ex_if (fun h => absurd h (by omega)) fun _ => ?_))
  rw [wI_up (by omega)]
  exact H _ fun h => past_more (hA h).1 (by rw [← e3]; exact hg) ⟨(hA h).2.1, past_all (hA h).2.2 hi⟩
theorem t_arg14 : ∀ i : Nat, ∀ b, (b = true -> ∀ j g, j < i -> p.Progs[j]? = some g -> ProF p g) -> Ex (fun r => r = true -> ∀ g ∈ p.Progs, ProF p g) (ref22_arguments_j14 (i : Int) b p) := by
 have b1 := sz_le hp.np; have b2 := sz_le hp.ne
 refine upn p.Progs.length (fun i hi ih b hA => ?_) (fun i hi b hA => ?_)
 ·obtain ⟨g, hg, gm⟩ := getN hi
  have go := t_arg16 p hp i hi g hg (hp.progs g gm) ih 0
  exact ex_step (ref22_arguments_j14_step _ _ _) (ex_if (fun _ => ex_join (ex_cond _ (fun hb => ex_at g hg (by omega) (ex_call (t_join g (hp.progs g gm)) fun y hy => go _ fun h => ⟨hA hb, hy h, fun j o hj => by omega⟩)) fun hb => go _ fun h => by cases h)) fun h => absurd (show (i : Int) < p.Progs.length by omega) h)
 ·exact ex_step (ref22_arguments_j14_step _ _ _) (ex_if (fun h => absurd h (by omega)) fun _ => ex_eq fun h => past_all (hA h) hi)
theorem t_arg18 (k : Nat) (hk : k < p.Enums.length) (g : GEnum) (hg : p.Enums[((k : Int)).toNat]? = some g) (og : OkEnum g) (H : ∀ b, Ex (fun r => r = true -> ∀ g ∈ p.Progs, ProF p g) (ref22_arguments_j10 ((k + 1 : Nat) : Int) b p)) : ∀ i : Nat, ∀ b, Ex (fun r => r = true -> ∀ g ∈ p.Progs, ProF p g) (ref22_arguments_j18 (i : Int) b (k : Int) p) := by
 have b1 := sz_le hp.np; have b2 := sz_le hp.ne; have b3 := sz_le og.ni
 refine upn (g.Items.length) (fun i hi ih b => ?_) (fun i hi b => ?_)
 ·refine ex_step (ref22_arguments_j18_step _ _ _ _) ?_
  try rw [wI_up (by omega)]
  repeat' first | exact ex_eq trivial | exact ih | assumption | exact ih _ | exact H _ | refine ex_at g hg (by omega) ?_ | rw [wI_up (by omega)] | refine ex_join ?_ | refine ex_if (fun h => ?_) (fun h => ?_) | refine ex_ne (fun h => ?_) (fun h => ?_) | refine ex_cond _ (fun h => ?_) (fun h => ?_) | refine ex_idx (by first | omega | (simp only [beq_iff_eq] at *; omega)) (fun y hy hm => ?_) | refine ex_and (by first | omega | (simp only [beq_iff_eq] at *; omega)) ?_ | refine ex_call (t_chk _ (og.items _ ‹_›).nn (og.items _ ‹_›).notes _) (fun y hq => ?_)
 ·refine ex_step (ref22_arguments_j18_step _ _ _ _) ?_
  repeat' first | exact ex_eq trivial | exact ih | assumption | exact ih _ | exact H _ | refine ex_at g hg (by omega) ?_ | rw [wI_up (by omega)] | exact absurd ‹_› (by omega) | (exfalso; omega) | refine ex_join ?_ | refine ex_if (fun h => ?_) (fun h => ?_) | refine ex_ne (fun h => ?_) (fun h => ?_) | refine ex_cond _ (fun h => ?_) (fun h => ?_) | refine ex_idx (by first | omega | (simp only [beq_iff_eq] at *; omega)) (fun y hy hm => ?_) | refine ex_and (by first | omega | (simp only [beq_iff_eq] at *; omega)) ?_ | refine ex_call (t_chk _ (og.items _ ‹_›).nn (og.items _ ‹_›).notes _) (fun y hq => ?_)
theorem t_arg10  : ∀ i : Nat, ∀ b, Ex (fun r => r = true -> ∀ g ∈ p.Progs, ProF p g) (ref22_arguments_j10 (i : Int) b p) := by
 have b1 := sz_le hp.np; have b2 := sz_le hp.ne
 refine upn (p.Enums.length) (fun i hi ih b => ?_) (fun i hi b => ?_)
 ·obtain ⟨g, hg, gm⟩ := getN hi
  refine ex_step (ref22_arguments_j10_step _ _ _) ?_
  try rw [wI_up (by omega)]
  repeat' first | exact ex_eq trivial | exact ih | assumption | exact ih _ | exact t_arg18 p hp i hi g hg (hp.enums g gm) ih 0 _ | exact t_arg14 p hp 0 _ (fun _ j g h => by omega) | refine ex_at g hg (by omega) ?_ | refine ex_join ?_ | refine ex_if (fun h => ?_) (fun h => ?_) | refine ex_ne (fun h => ?_) (fun h => ?_) | refine ex_cond _ (fun h => ?_) (fun h => ?_) | refine ex_idx (by omega) (fun y hy hm => ?_) | refine ex_and (by omega) ?_
 ·refine ex_step (ref22_arguments_j10_step _ _ _) ?_
  repeat' first | exact ex_eq trivial | exact ih | assumption | exact ih _ | exact t_arg18 p hp i hi g hg (hp.enums g gm) ih 0 _ | exact t_arg14 p hp 0 _ (fun _ j g h => by omega) | refine ex_at g hg (by omega) ?_ | exact absurd ‹_› (by omega) | (exfalso; omega) | refine ex_join ?_ | refine ex_if (fun h => ?_) (fun h => ?_) | refine ex_ne (fun h => ?_) (fun h => ?_) | refine ex_cond _ (fun h => ?_) (fun h => ?_) | refine ex_idx (by omega) (fun y hy hm => ?_) | refine ex_and (by omega) ?_
theorem t_args : Ex (fun r => r = true -> ∀ g ∈ p.Progs, ProF p g) (ref22_arguments p) := ex_step (ref22_arguments_step _) (t_arg10 p hp 0 _)
variable (hF : ∀ g ∈ p.Progs, ProF p g)
 include hF
theorem t_fin14 (k : Nat) (hk : k < p.Progs.length) (g : GProg) (hg : p.Progs[((k : Int)).toNat]? = some g) (gm : g ∈ p.Progs) (m : Int) (c : Bool) (H : ∀ b (l : List Bool), l.length = p.Progs.length -> Ex yes (ref22_finite_j12 ((k + 1 : Nat) : Int) b m p l)) :
  ∀ i : Nat, ∀ b (l : List Bool), l.length = p.Progs.length -> Ex yes (ref22_finite_j14 (i : Int) b (k : Int) c m p l) := by
 have b1 := sz_le hp.np; have b2 := sz_le hp.ne
 have b3 := sz_le (hp.progs g gm).n
 refine upn g.Ops.length (fun i hi ih b l hl => ?_) (fun i hi b l hl => ?_)
 ·refine ex_step (ref22_finite_j14_step _ _ _ _ _ _ _) (ex_at g hg (by omega) (ex_if (fun _ => ex_at g hg (by omega) (ex_idx (by omega) fun y hy hm => ?_)) fun h => absurd (show (i : Int) < g.Ops.length by omega) h))
  rw [wI_up (by omega)]
  refine ex_cond _ (fun hb => ex_cond _ (fun h => ih _ l hl) fun h => ?_) fun hb => ih _ l hl
  have h10 : y.Kind = 10 := by simp only [Bool.or_eq_false_iff, bne_eq_false_iff_eq] at h; exact h.2
  have ht := ((hF g gm).2 y hm).msg h10
  refine ex_and (by omega) (ex_val (List.getElem?_eq_getElem (show y.Target.toNat < l.length by omega)) (ih _ l hl))
 ·refine ex_step (ref22_finite_j14_step _ _ _ _ _ _ _) (ex_at g hg (by omega) (ex_if (fun h => absurd h (by omega)) fun _ => ex_and (by omega) (ex_and (by omega) ?_)))
  rw [wI_up (by omega)]
  exact H _ _ (by simpa using hl)
theorem t_fin12 (m : Nat) (hm : m < p.Progs.length) (H : ∀ b (l : List Bool), l.length = p.Progs.length -> Ex yes (ref22_finite_j8 ((m + 1 : Nat) : Int) p b l)) :
  ∀ i : Nat, ∀ b (l : List Bool), l.length = p.Progs.length -> Ex yes (ref22_finite_j12 (i : Int) b (m : Int) p l) := by
 have b1 := sz_le hp.np
 refine upn p.Progs.length (fun i hi ih b l hl => ?_) (fun i hi b l hl => ?_)
 ·obtain ⟨g, hg, gm⟩ := getN hi
  exact ex_step (ref22_finite_j12_step _ _ _ _ _) (ex_if (fun _ => t_fin14 p hp hF i hi g hg gm m b ih 0 true l hl) fun h => absurd (show (i : Int) < p.Progs.length by omega) h)
 ·refine ex_step (ref22_finite_j12_step _ _ _ _ _) (ex_if (fun h => absurd h (by omega)) fun _ => ?_)
  rw [wI_up (by omega)]
  exact H _ l hl
theorem t_fin8 : ∀ i : Nat, ∀ b (l : List Bool), l.length = p.Progs.length -> Ex yes (ref22_finite_j8 (i : Int) p b l) := by
 refine upn p.Progs.length (fun i hi ih b l hl => ?_) (fun i hi b l hl => ?_)
 ·exact ex_step (ref22_finite_j8_step _ _ _ _) (ex_if (fun _ => t_fin12 p hp hF i hi ih 0 true l hl) fun h => absurd (show (i : Int) < p.Progs.length by omega) h)
 ·exact ex_step (ref22_finite_j8_step _ _ _ _) (ex_if (fun h => absurd h (by omega)) fun _ => ex_eq trivial)
theorem t_finite : Ex yes (ref22_finite p) := by
 have b1 := sz_le hp.np
 exact ex_step (ref22_finite_step _) (ex_and (by omega) (t_fin8 p hp hF 0 _ _ (by simp)))
end
structure Valid (p : GPlan) : Prop where
 asc : ∀ g ∈ p.Progs, Asc g.Ops g.Ops.length
 num : ∀ g ∈ p.Progs, ∀ o ∈ g.Ops, NumF o
 pro : ∀ g ∈ p.Progs, ProF p g
theorem t_check (p : GPlan) (hp : OkPlan p) : Ex (fun r => r = 0 -> Valid p) (ref22_Check p) := by
 have no : ∀ {n : Int}, n ≠ 0 -> Ex (α := Int) (fun r => r = 0 -> Valid p) (fun r => r = n) := fun hn => ex_eq fun h => absurd h hn
 refine ex_step (ref22_Check_step _) (ex_call (t_limits p hp) fun y1 _ => ex_cond _ (fun _ => no (by decide)) fun _ => ?_)
 refine ex_call (t_names p hp) fun y1 _ => ex_cond _ (fun _ => no (by decide)) fun _ => ?_
 refine ex_call (t_ordered p hp) fun y3 h3 => ex_cond _ (fun _ => no (by decide)) fun k3 => ?_
 refine ex_call (t_single p hp) fun y1 _ => ex_cond _ (fun _ => no (by decide)) fun _ => ?_
 refine ex_call (t_ranges p hp) fun y5 h5 => ex_cond _ (fun _ => no (by decide)) fun k5 => ?_
 refine ex_call (t_args p hp) fun y6 h6 => ex_cond _ (fun _ => no (by decide)) fun k6 => ?_
 have hF := h6 (by simpa using k6)
 exact ex_call (t_finite p hp hF) fun y1 _ => ex_cond _ (fun _ => no (by decide)) fun _ => ex_eq fun _ => ⟨h3 (by simpa using k3), h5 (by simpa using k5), hF⟩
theorem t_usable (p : GPlan) (hp : OkPlan p) : Ex (fun r => r = true -> Valid p) (law28_usable p) := by
 refine ex_step (law28_usable_step _) (ex_cond _ (fun _ => ex_call (t_check p hp) fun y hy => ex_eq fun h => hy (by simpa using h)) fun _ => ex_eq fun h => by cases h)
end Go.Proofs.YtidmmngcijapcaaGreat.Lift
