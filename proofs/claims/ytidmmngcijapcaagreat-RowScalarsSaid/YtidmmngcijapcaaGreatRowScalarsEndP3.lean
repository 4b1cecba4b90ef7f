/- Part 4 of the texts that prove RowScalarsEnd. -/
import Derived.Test.YtidmmngcijapcaaGreatRowScalarsEndP2
namespace Go.Proofs.YtidmmngcijapcaaGreat.Lift
open Go.RowKit
set_option linter.unusedVariables false
set_option linter.unusedSimpArgs false
set_option linter.unnecessarySimpa false
set_option linter.unusedSectionVars false
set_option maxRecDepth 100000
section
attribute [-simp] List.map_take List.map_drop List.map_append List.map_set List.map_replicate List.map_cons List.map_map
attribute [local simp] plain plainL lowE lowB keepB low lowL lowLL plm_I_i8 plm_I_i16 plm_I_i32 plm_I_i64 plm_I_u8 plm_I_u16 plm_I_u32 plm_I_u64 plm_Bool plm_Str gfn_fi gfn_cap plm_Fn pl_GOp plm_GOp pl_GProg plm_GProg pl_GRaw plm_GRaw pl_GValue plm_GValue pl_GPair plm_GPair pl_GSlot plm_GSlot pl_GNote plm_GNote pl_GItem plm_GItem pl_GSpan plm_GSpan pl_GEnum plm_GEnum pl_GPlan plm_GPlan pl_GS26 plm_GS26 pl_GCursor plm_GCursor pl_GLimits eI_i8 eI_i16 eI_i32 eI_i64 eI_u8 eI_u16 eI_u32 eI_u64 eBool eStr eFn lwr_Bool lwm_I_u8 lwm_GEnum lwc_GValue lwc_GEnum lwc_GPlan lwc_GCursor
theorem plr16 (r : (GCursor × Int)) : plain (e16 r) = true := (ptup (pcons (pl_GCursor r.1) (pcons rfl rfl)))
def r16_0 : LO := [o 3 (bx 1), o 4 (.alloc [aE, (aI 0), (aI 0), (aI 0), (aI 0), (aI 0)]), o 5 (mi 0)]
def r16_1 : LO := [o 6 (fa 0 3), o 7 (ld 6), o 8 (.bin .lss (T 7) (ci 0)), o 9 (mv 8), og 10 (fa 1 3) 9 false, og 11 (ld 10) 9 false, og 12 (.bin .lss (T 11) (ci 0)) 9 false, o 13 (.pick (T 9) (cb true) (T 12)), o 14 (mv 13), og 15 (fa 2 3) 14 false, og 16 (ld 15) 14 false, og 17 (.bin .lss (T 16) (ci 0)) 14 false, o 18 (.pick (T 14) (cb true) (T 17)), o 19 (mv 18), og 20 (fa 3 3) 19 false, og 21 (ld 20) 19 false, og 22 (.bin .lss (T 21) (ci 0)) 19 false, o 23 (.pick (T 19) (cb true) (T 22))]
def r16_2 : LO := [o 24 (.build [aE, (aI 0), (aI 0), (aI 0), (aI 0), (aI 0)] []), on (st 6 4 24), o 5 (mi 1)]
def k16_1 : ACode := .cond (T 23) (.seq (.region r16_2) .ret) .skip
def k16_2 : ACode := .seq (.region r16_1) k16_1
def r16_8 : LO := [o 25 (mv 0), o 26 (.len true (T 25)), o 27 (fa 0 3), o 28 (ld 27), o 29 (.bin .gtr (T 26) (T 28))]
def r16_9 : LO := [o 30 (.build [aE, (aI 0), (aI 0), (aI 0), (aI 0), (aI 0)] []), on (st 6 4 30), o 5 (mi 3)]
def k16_3 : ACode := .cond (T 29) (.seq (.region r16_9) .ret) .skip
def k16_4 : ACode := .seq (.region r16_8) k16_3
def r16_15 : LO := [o 31 (mv 0), o 32 (mv 0), o 33 (.len true (T 32)), o 34 (fa 1 3), o 35 (ld 34), o 36 (fa 2 3), o 37 (ld 36), o 38 (fa 3 3), o 39 (ld 38), o 40 (.build [aE, (aI 0), (aI 0), (aI 0), (aI 0), (aI 0)] [((0, 1), (T 31)), ((2, 1), (T 33)), ((3, 1), (T 35)), ((4, 1), (T 37)), ((5, 1), (T 39))]), on (st 6 4 40), o 5 (mi 0)]
def k16_5 : ACode := .seq (.region r16_15) .ret
def k16_6 : ACode := .seq k16_4 k16_5
def k16_7 : ACode := .seq k16_2 k16_6
def k16_8 : ACode := .seq (.region r16_0) k16_7
theorem fn16 : getFn Tryz.prog 16 = some (41, k16_8, [.cell 4 (some 6), .tmp 5]) := by kernel_rfl
theorem ref02_Open_step (data : ByteArray) (l : GLimits) (r : (GCursor × Int)) (hw : (((((decide (l.Bytes < 0)) || (decide (l.Depth < 0))) || (decide (l.Nodes < 0))) || (decide (l.Text < 0))) = true -> r = ((⟨(⟨#[]⟩ : ByteArray), 0, 0, 0, 0, 0⟩ : GCursor), 1)) /\ (((((decide (l.Bytes < 0)) || (decide (l.Depth < 0))) || (decide (l.Nodes < 0))) || (decide (l.Text < 0))) = false -> ((decide (l.Bytes < (data.size : Int))) = true -> r = ((⟨(⟨#[]⟩ : ByteArray), 0, 0, 0, 0, 0⟩ : GCursor), 3)) /\ ((decide (l.Bytes < (data.size : Int))) = false -> r = ((⟨data, 0, (data.size : Int), l.Depth, l.Nodes, l.Text⟩ : GCursor), 0)))) : ref02_Open data l r := by
 refine f_pureD fn16 nle rfl (ds (vg 3 [(4, .ptr 1 0), (3, .ptr 0 0)] [(eGLimits l), [aE, aI 0, aI 0, aI 0, aI 0, aI 0]] [] (ve (d_seqQ (ds (va 4 [(9, aB (decide (l.Bytes < 0)))] (vj 9 13 8 (decide (l.Bytes < 0)) (fun z => aB (z || (decide (l.Depth < 0)))) km_d (fun _ key => ?_) (fun _ key => ?_) ?_)))))))
 ·exact va 3 [(12, .tuple [])] (va 1 [(13, aB true)] (vle km_d key))
 ·exact va 3 [(12, aB (decide (l.Depth < 0)))] (va 1 [(13, aB (decide (l.Depth < 0)))] (vle km_d key))
 refine va 1 [(14, aB ((decide (l.Bytes < 0)) || (decide (l.Depth < 0))))] (vj 14 18 13 ((decide (l.Bytes < 0)) || (decide (l.Depth < 0))) (fun z => aB (z || (decide (l.Nodes < 0)))) km_d (fun _ key => ?_) (fun _ key => ?_) ?_)
 ·exact va 3 [(17, .tuple [])] (va 1 [(18, aB true)] (vle km_d key))
 ·exact va 3 [(17, aB (decide (l.Nodes < 0)))] (va 1 [(18, aB (decide (l.Nodes < 0)))] (vle km_d key))
 refine va 1 [(19, aB (((decide (l.Bytes < 0)) || (decide (l.Depth < 0))) || (decide (l.Nodes < 0))))] (vj 19 23 18 (((decide (l.Bytes < 0)) || (decide (l.Depth < 0))) || (decide (l.Nodes < 0))) (fun z => aB (z || (decide (l.Text < 0)))) km_d (fun _ key => ?_) (fun _ key => ?_) ?_)
 ·exact va 3 [(22, .tuple [])] (va 1 [(23, aB true)] (vle km_d key))
 ·exact va 3 [(22, aB (decide (l.Text < 0)))] (va 1 [(23, aB (decide (l.Text < 0)))] (vle km_d key))
 refine ve (dw hw (fun _ hw => ?_) (fun _ hw => ?_))
 ·exact ds (va 3 [(5, aI 1)] (ve (d_ret (rx hw (plr16 _)))))
 refine d_skip (d_seqQ (ds (va 1 [(25, aS data)] (vo rfl (x_lenS data) rfl (va 3 [(29, aB (decide (l.Bytes < (data.size : Int))))] (ve (dw hw (fun _ hw => ?_) (fun _ hw => ?_))))))))
 ·exact ds (va 3 [(5, aI 3)] (ve (d_ret (rx hw (plr16 _)))))
 exact d_skip (ds (va 2 [(32, aS data), (31, aS data)] (vo rfl (x_lenS data) rfl (vg 9 [(5, aI 0)] [] [(1, [aS data, aI 0, aI (data.size : Int), aI l.Depth, aI l.Nodes, aI l.Text])] (ve (d_ret (rx hw (plr16 _))))))))
def r18_0 : LO := [o 3 (bx 0), o 5 (bx 2), o 6 (.mv (.c aE)), o 7 (mi 0)]
def r18_1 : LO := [o 13 (ln 2 3), o 14 (mv 1), o 15 (.call (cf 55) [(T 13), (T 14)]), o 12 (mv 15), o 16 (.extract 0 (T 12)), o 17 (.extract 1 (T 12)), o 8 (mv 16), o 9 (mv 17)]
def r18_2 : LO := [o 18 (mv 9), o 19 (.un .not (T 18))]
def r18_3 : LO := [o 6 (.mv (.c aE)), o 7 (mi 10)]
def k18_1 : ACode := .cond (T 19) (.seq (.region r18_3) .ret) .skip
def k18_2 : ACode := .seq (.region r18_2) k18_1
def r18_9 : LO := [o 20 (ln 2 3), o 21 (mv 8), o 22 (ln 7 5), o 23 (.call (cf 56) [(T 20), (T 21), (T 22)]), o 10 (mv 23)]
def r18_10 : LO := [o 24 (mv 10), o 25 (.bin .neq (T 24) (ci 0))]
def r18_11 : LO := [o 26 (mv 10), o 6 (.mv (.c aE)), o 7 (mv 26)]
def k18_3 : ACode := .cond (T 25) (.seq (.region r18_11) .ret) .skip
def k18_4 : ACode := .seq (.region r18_10) k18_3
def r18_18 : LO := [o 27 (ln 7 5), o 28 (.call (cf 57) [(T 27)])]
def r18_19 : LO := [o 6 (.mv (.c aE)), o 7 (mi 18)]
def k18_5 : ACode := .cond (T 28) (.seq (.region r18_19) .ret) .skip
def k18_6 : ACode := .seq (.region r18_18) k18_5
def r18_25 : LO := [o 29 (ln 2 3), o 30 (.build [.nil, .nil, .nil] [((0, 2), (T 29))]), o 31 (bx 30), o 11 (mv 31)]
def r18_26 : LO := [o 32 (mv 11), o 33 (mv 8), o 34 (ln 2 3), o 35 (mv 8), o 36 (ln 7 5), o 37 (.call (cf 59) [(T 34), (T 35), (T 36)]), o 38 (.call (cf 58) [(T 32), (T 33), (T 37)])]
def r18_27 : LO := [o 39 (mv 11), o 40 (.nilCheck (T 39)), o 41 (fa 2 40), o 42 (ld 41), o 43 (.len false (T 42)), o 44 (.bin .gtr (T 43) (ci 65536))]
def r18_28 : LO := [o 6 (.mv (.c aE)), o 7 (mi 3)]
def k18_7 : ACode := .cond (T 44) (.seq (.region r18_28) .ret) .skip
def k18_8 : ACode := .seq (.region r18_27) k18_7
def r18_34 : LO := [o 45 (mv 11), o 46 (.nilCheck (T 45)), o 47 (fa 2 46), o 48 (ld 47), o 49 (.conv .str (T 48)), o 6 (mv 49), o 7 (mi 0)]
def k18_9 : ACode := .seq (.region r18_34) .ret
def k18_10 : ACode := .seq k18_8 k18_9
def k18_11 : ACode := .seq (.region r18_26) k18_10
def k18_12 : ACode := .seq (.region r18_25) k18_11
def k18_13 : ACode := .seq k18_6 k18_12
def k18_14 : ACode := .seq (.seq (.region r18_9) k18_4) k18_13
def k18_15 : ACode := .seq k18_2 k18_14
def k18_16 : ACode := .seq (.region r18_1) k18_15
def k18_17 : ACode := .seq (.region r18_0) k18_16
theorem fn18 : getFn Tryz.prog 18 = some (50, k18_17, [.tmp 6, .tmp 7]) := by kernel_rfl
def r20_0 : LO := [o 4 (bx 0), o 7 (bx 3), o 8 (.alloc zV), o 9 (mi 0)]
def r20_1 : LO := [o 17 (ln 2 4), o 18 (mv 1), o 19 (.call (cf 55) [(T 17), (T 18)]), o 16 (mv 19), o 20 (.extract 0 (T 16)), o 21 (.extract 1 (T 16)), o 10 (mv 20), o 11 (mv 21)]
def r20_2 : LO := [o 22 (mv 11), o 23 (.un .not (T 22))]
def r20_3 : LO := [o 24 (.build zV []), on (st 7 8 24), o 9 (mi 10)]
def k20_1 : ACode := .cond (T 23) (.seq (.region r20_3) .ret) .skip
def k20_2 : ACode := .seq (.region r20_2) k20_1
def r20_9 : LO := [o 26 (mv 2), o 27 (ln 4 7), o 28 (.call (cf 60) [(T 26), (T 27)]), o 25 (mv 28), o 29 (.extract 0 (T 25)), o 30 (.extract 1 (T 25)), o 12 (.alloc [aE, (aI 0), (aI 0), (aI 0), (aI 0), (aI 0)]), on (st 6 12 29), o 13 (mv 30)]
def r20_10 : LO := [o 31 (mv 13), o 32 (.bin .neq (T 31) (ci 0))]
def r20_11 : LO := [o 33 (.build zV []), o 34 (mv 13), on (st 7 8 33), o 9 (mv 34)]
def k20_3 : ACode := .cond (T 32) (.seq (.region r20_11) .ret) .skip
def k20_4 : ACode := .seq (.region r20_10) k20_3
def r20_17 : LO := [o 35 (ln 2 4), o 36 (ln 6 12), o 37 (.build [.nil, .nil, aE, (aI 0), (aI 0), (aI 0), (aI 0), (aI 0)] [((0, 2), (T 35)), ((2, 6), (T 36))]), o 38 (bx 37), o 14 (mv 38)]
def r20_18 : LO := [o 40 (mv 14), o 41 (mv 10), o 42 (.call (cf 61) [(T 40), (T 41)]), o 39 (mv 42), o 43 (.extract 0 (T 39)), o 44 (.extract 1 (T 39)), o 15 (.alloc zV), on (st 7 15 43), o 13 (mv 44)]
def r20_19 : LO := [o 45 (mv 13), o 46 (.bin .neq (T 45) (ci 0))]
def r20_20 : LO := [o 47 (.build zV []), o 48 (mv 13), on (st 7 8 47), o 9 (mv 48)]
def k20_5 : ACode := .cond (T 46) (.seq (.region r20_20) .ret) .skip
def k20_6 : ACode := .seq (.region r20_19) k20_5
def r20_26 : LO := [o 49 (mv 14), o 50 (.nilCheck (T 49)), o 51 (fa 2 50), o 52 (ln 6 51), o 53 (.call (cf 62) [(T 52)]), o 54 (.bin .gtr (T 53) (ci 0))]
def r20_27 : LO := [o 55 (.build zV []), on (st 7 8 55), o 9 (mi 18)]
def k20_7 : ACode := .cond (T 54) (.seq (.region r20_27) .ret) .skip
def k20_8 : ACode := .seq (.region r20_26) k20_7
def r20_33 : LO := [o 56 (ln 7 15), on (st 7 8 56), o 9 (mi 0)]
def k20_9 : ACode := .seq (.region r20_33) .ret
def k20_10 : ACode := .seq k20_8 k20_9
def k20_11 : ACode := .seq k20_6 k20_10
def k20_12 : ACode := .seq (.region r20_18) k20_11
def k20_13 : ACode := .seq (.region r20_17) k20_12
def k20_14 : ACode := .seq k20_4 k20_13
def k20_15 : ACode := .seq (.region r20_9) k20_14
def k20_16 : ACode := .seq k20_2 k20_15
def k20_17 : ACode := .seq (.region r20_1) k20_16
def k20_18 : ACode := .seq (.region r20_0) k20_17
theorem fn20 : getFn Tryz.prog 20 = some (57, k20_18, [.cell 8 (some 7), .tmp 9]) := by kernel_rfl
def r21_0 : LO := [o 0 (.alloc [(aI 0), (aI 0), (aI 0), (aI 0)])]
def r21_1 : LO := [o 1 (.build [(aI 0), (aI 0), (aI 0), (aI 0)] [((0, 1), (ci 65536)), ((1, 1), (ci 16)), ((2, 1), (ci 4096)), ((3, 1), (ci 4096))]), on (st 4 0 1)]
def k21_1 : ACode := .seq (.region r21_1) .ret
def k21_2 : ACode := .seq (.region r21_0) k21_1
theorem fn21 : getFn Tryz.prog 21 = some (2, k21_2, [.cell 0 (some 4)]) := by kernel_rfl
theorem plr30 (r : Int) : plain (e30 r) = true := rfl
def r30_0 : LO := [o 1 (bx 0), o 2 (mi 0)]
def r30_1 : LO := [o 4 (ln 2 1), o 5 (.call (cf 69) [(T 4)]), o 6 (.un .not (T 5)), o 3 (mv 6)]
def r30_2 : LO := [o 2 (mi 3)]
def r30_5 : LO := [o 8 (ln 2 1), o 9 (.call (cf 70) [(T 8)]), o 10 (.un .not (T 9)), o 7 (mv 10)]
def r30_6 : LO := [o 2 (mi 8)]
def r30_9 : LO := [o 12 (ln 2 1), o 13 (.call (cf 71) [(T 12)]), o 14 (.un .not (T 13)), o 11 (mv 14)]
def r30_10 : LO := [o 2 (mi 11)]
def r30_13 : LO := [o 16 (ln 2 1), o 17 (.call (cf 72) [(T 16)]), o 18 (.un .not (T 17)), o 15 (mv 18)]
def r30_14 : LO := [o 2 (mi 9)]
def r30_17 : LO := [o 20 (ln 2 1), o 21 (.call (cf 73) [(T 20)]), o 22 (.un .not (T 21)), o 19 (mv 22)]
def r30_18 : LO := [o 2 (mi 6)]
def r30_21 : LO := [o 24 (ln 2 1), o 25 (.call (cf 74) [(T 24)]), o 26 (.un .not (T 25)), o 23 (mv 26)]
def r30_22 : LO := [o 2 (mi 1)]
def r30_25 : LO := [o 28 (ln 2 1), o 29 (.call (cf 75) [(T 28)]), o 30 (.un .not (T 29)), o 27 (mv 30)]
def r30_26 : LO := [o 2 (mi 19)]
def k30_1 : ACode := .cond (T 27) (.seq (.region r30_26) .ret) .skip
def k30_2 : ACode := .seq (.region r30_25) k30_1
def k30_3 : ACode := .cond (T 23) (.seq (.region r30_22) .ret) k30_2
def k30_4 : ACode := .seq (.region r30_21) k30_3
def k30_5 : ACode := .cond (T 19) (.seq (.region r30_18) .ret) k30_4
def k30_6 : ACode := .seq (.region r30_17) k30_5
def k30_7 : ACode := .cond (T 15) (.seq (.region r30_14) .ret) k30_6
def k30_8 : ACode := .seq (.region r30_13) k30_7
def k30_9 : ACode := .cond (T 11) (.seq (.region r30_10) .ret) k30_8
def k30_10 : ACode := .seq (.region r30_9) k30_9
def k30_11 : ACode := .cond (T 7) (.seq (.region r30_6) .ret) k30_10
def k30_12 : ACode := .seq (.region r30_5) k30_11
def k30_13 : ACode := .cond (T 3) (.seq (.region r30_2) .ret) k30_12
def k30_14 : ACode := .seq (.region r30_1) k30_13
def r30_45 : LO := [o 2 (mi 0)]
def k30_15 : ACode := .seq (.region r30_45) .ret
def k30_16 : ACode := .seq (.block 0 k30_14) k30_15
def k30_17 : ACode := .seq (.region r30_0) k30_16
theorem fn30 : getFn Tryz.prog 30 = some (31, k30_17, [.tmp 2]) := by kernel_rfl
theorem ref22_Check_step (p : GPlan) (r : Int) (hw : ∃ y1, ref22_limits p y1 /\ (((!y1) = true -> r = 3) /\ ((!y1) = false -> ∃ y2, ref22_names p y2 /\ (((!y2) = true -> r = 8) /\ ((!y2) = false -> ∃ y3, ref22_ordered p y3 /\ (((!y3) = true -> r = 11) /\ ((!y3) = false -> ∃ y4, ref22_single p y4 /\ (((!y4) = true -> r = 9) /\ ((!y4) = false -> ∃ y5, ref22_ranges p y5 /\ (((!y5) = true -> r = 6) /\ ((!y5) = false -> ∃ y6, ref22_arguments p y6 /\ (((!y6) = true -> r = 1) /\ ((!y6) = false -> ∃ y7, ref22_finite p y7 /\ (((!y7) = true -> r = 19) /\ ((!y7) = false -> r = 0))))))))))))))) : ref22_Check p r := by
 refine f_pureD fn30 nle rfl (ds (vg 2 [(1, .ptr 0 0)] [(eGPlan p)] [] (ve (d_seqQ (d_blockQ (ds (va 1 [(4, .agg (eGPlan p))] ?_)))))))
 obtain ⟨y1, hy, hw⟩ := hw
 refine vo rfl (x_call hy pl69) rfl (va 2 [(3, aB (!y1))] (ve (dw hw (fun _ hw => ?_) (fun _ hw => ?_))))
 ·exact ds (va 1 [(2, aI 3)] (ve (d_ret (rx hw (plr30 _)))))
 refine ds (va 1 [(8, .agg (eGPlan p))] ?_)
 obtain ⟨y2, hy, hw⟩ := hw
 refine vo rfl (x_call hy pl70) rfl (va 2 [(7, aB (!y2))] (ve (dw hw (fun _ hw => ?_) (fun _ hw => ?_))))
 ·exact ds (va 1 [(2, aI 8)] (ve (d_ret (rx hw (plr30 _)))))
 refine ds (va 1 [(12, .agg (eGPlan p))] ?_)
 obtain ⟨y3, hy, hw⟩ := hw
 refine vo rfl (x_call hy pl71) rfl (va 2 [(11, aB (!y3))] (ve (dw hw (fun _ hw => ?_) (fun _ hw => ?_))))
 ·exact ds (va 1 [(2, aI 11)] (ve (d_ret (rx hw (plr30 _)))))
 refine ds (va 1 [(16, .agg (eGPlan p))] ?_)
 obtain ⟨y4, hy, hw⟩ := hw
 refine vo rfl (x_call hy pl72) rfl (va 2 [(15, aB (!y4))] (ve (dw hw (fun _ hw => ?_) (fun _ hw => ?_))))
 ·exact ds (va 1 [(2, aI 9)] (ve (d_ret (rx hw (plr30 _)))))
 refine ds (va 1 [(20, .agg (eGPlan p))] ?_)
 obtain ⟨y5, hy, hw⟩ := hw
 refine vo rfl (x_call hy pl73) rfl (va 2 [(19, aB (!y5))] (ve (dw hw (fun _ hw => ?_) (fun _ hw => ?_))))
 ·exact ds (va 1 [(2, aI 6)] (ve (d_ret (rx hw (plr30 _)))))
 refine ds (va 1 [(24, .agg (eGPlan p))] ?_)
 obtain ⟨y6, hy, hw⟩ := hw
 refine vo rfl (x_call hy pl74) rfl (va 2 [(23, aB (!y6))] (ve (dw hw (fun _ hw => ?_) (fun _ hw => ?_))))
 ·exact ds (va 1 [(2, aI 1)] (ve (d_ret (rx hw (plr30 _)))))
 refine ds (va 1 [(28, .agg (eGPlan p))] ?_)
 obtain ⟨y7, hy, hw⟩ := hw
 refine vo rfl (x_call hy pl75) rfl (va 2 [(27, aB (!y7))] (ve (dw hw (fun _ hw => ?_) (fun _ hw => ?_))))
 ·exact ds (va 1 [(2, aI 19)] (ve (d_ret (rx hw (plr30 _)))))
 exact d_skip (ds (va 1 [(2, aI 0)] (ve (d_ret (rx hw (plr30 _))))))
theorem plr31 (r : (Int × GCursor × Int)) : plain (e31 r) = true := (ptup (pcons rfl (pcons (pl_GCursor r.2.1) (pcons rfl rfl))))
def r31_0 : LO := [o 1 (bx 0), o 2 (.mv (.c (aC 0))), o 3 (.alloc [aE, (aI 0), (aI 0), (aI 0), (aI 0), (aI 0)]), o 4 (mi 0)]
def r31_1 : LO := [o 5 (ln 6 1), o 6 (.call (cf 62) [(T 5)]), o 7 (.bin .lss (T 6) (ci 1))]
def r31_2 : LO := [o 8 (ln 6 1), o 2 (.mv (.c (aC 0)))]
def r31_2t : LO := [on (st 6 3 8), o 4 (mi 4)]
def r31_2o : LN := [[], []]
def k31_1 : ACode := .cond (T 7) (.seq (.drawn r31_2o r31_2 r31_2t) .ret) .skip
def k31_2 : ACode := .seq (.region r31_1) k31_1
def r31_8 : LO := [o 9 (fa 0 1), o 10 (ld 9), o 11 (fa 1 1), o 12 (ld 11), o 13 (.idxS (T 10) (T 12)), o 14 (ln 6 1), o 15 (.call (cf 76) [(T 14), (ci 1)]), o 2 (mv 13)]
def r31_8t : LO := [on (st 6 3 15), o 4 (mi 0)]
def r31_8o : LN := [[], [0], [], [2], [1, 3], [], [5], [0, 1, 2, 3, 4, 6]]
def k31_3 : ACode := .seq (.drawn r31_8o r31_8 r31_8t) .ret
def k31_4 : ACode := .seq k31_2 k31_3
def k31_5 : ACode := .seq (.region r31_0) k31_4
theorem fn31 : getFn Tryz.prog 31 = some (16, k31_5, [.tmp 2, .cell 3 (some 6), .tmp 4]) := by kernel_rfl
theorem cursor_Byte_step (c : GCursor) (r : (Int × GCursor × Int)) (hw : ∃ y1, cursor_Left c y1 /\ (((decide (y1 < 1)) = true -> r = (0, c, 4)) /\ ((decide (y1 < 1)) = false -> (0 <= c.At /\ c.At < (c.Data.size : Int)) /\ (∃ y2, cursor_ahead c 1 y2 /\ (r = ((byteAt c.Data c.At.toNat), y2, 0)))))) : cursor_Byte c r := by
 refine f_pureD fn31 nle rfl (ds (vg 4 [(3, .ptr 1 0), (1, .ptr 0 0)] [(eGCursor c), [aE, aI 0, aI 0, aI 0, aI 0, aI 0]] [] (ve (d_seqQ (ds (va 1 [(5, .agg (eGCursor c))] ?_))))))
 obtain ⟨y1, hy, hw⟩ := hw
 refine vo rfl (x_call hy pl62) rfl (va 1 [(7, aB (decide (y1 < 1)))] (ve (dw hw (fun _ hw => ?_) (fun _ hw => ?_))))
 ·exact d_seqQ (dS [(0, (eGCursor c))] (sa 1 2 [(2, aC 0), (8, .agg (eGCursor c))] (send (vp_start' (vg 2 [(4, aI 4)] [] [(1, (eGCursor c))] (ve (d_ret (rx hw (plr31 _)))))))))
 refine d_skip (d_seqQ (dS [(0, (eGCursor c))] (sa 1 4 [(12, aI c.At), (10, aS c.Data)] ?_)))
 obtain ⟨h0, hw⟩ := hw
 refine sq rfl (fun _ _ => x_idxS h0) rfl (sa 1 1 [(14, .agg (eGCursor c))] ?_)
 obtain ⟨y2, hy, hw⟩ := hw
 exact sq rfl (y_call hy pl76) rfl (sa 1 1 [(2, aC (byteAt c.Data c.At.toNat))] (send (vp_start' (vg 2 [(4, aI 0)] [] [(1, (eGCursor y2))] (ve (d_ret (rx hw (plr31 _))))))))
theorem plr32 (r : (GValue × GCursor × Int)) : plain (e32 r) = true := (ptup (pcons (pl_GValue r.1) (pcons (pl_GCursor r.2.1) (pcons rfl rfl))))
def r32_0 : LO := [o 1 (bx 0), o 2 (.alloc zV), o 3 (.alloc [aE, (aI 0), (aI 0), (aI 0), (aI 0), (aI 0)]), o 4 (mi 0)]
def r32_1 : LO := [o 10 (ln 6 1), o 11 (.call (cf 77) [(T 10)]), o 9 (mv 11), o 12 (.extract 0 (T 9)), o 13 (.extract 1 (T 9)), o 14 (.extract 2 (T 9)), o 6 (.alloc [aE, (aI 0), (aI 0), (aI 0), (aI 0), (aI 0)]), o 5 (mv 12), on (st 6 6 13), o 7 (mv 14)]
def r32_2 : LO := [o 15 (mv 7), o 16 (.bin .neq (T 15) (ci 0))]
def r32_3 : LO := [o 17 (.build zV []), o 18 (ln 6 1), o 19 (mv 7), on (st 7 2 17), on (st 6 3 18)]
def r32_3t : LO := [o 4 (mv 19)]
def r32_3o : LN := [[], [], [], [0], [0, 1, 3]]
def k32_1 : ACode := .cond (T 16) (.seq (.drawn r32_3o r32_3 r32_3t) .ret) .skip
def k32_2 : ACode := .seq (.region r32_2) k32_1
def r32_9 : LO := [o 20 (mv 5), o 21 (.build zV [((0, 1), (ci 6)), ((1, 1), (T 20))]), o 8 (.alloc zV), on (st 7 8 21)]
def r32_10 : LO := [o 22 (ln 7 8), o 23 (.call (cf 50) [(T 22)]), o 24 (.field none 1 (T 23)), o 25 (mv 5), o 26 (.bin .neq (T 24) (T 25))]
def r32_11 : LO := [o 27 (.build zV []), o 28 (ln 6 1), on (st 7 2 27)]
def r32_11t : LO := [on (st 6 3 28), o 4 (mi 5)]
def r32_11o : LN := [[], [], [0]]
def k32_3 : ACode := .cond (T 26) (.seq (.drawn r32_11o r32_11 r32_11t) .ret) .skip
def r32_17 : LO := [o 29 (ln 7 8), o 30 (ln 6 6), on (st 7 2 29)]
def r32_17t : LO := [on (st 6 3 30), o 4 (mi 0)]
def r32_17o : LN := [[], [], [0]]
def k32_4 : ACode := .seq (.drawn r32_17o r32_17 r32_17t) .ret
def k32_5 : ACode := .seq (.seq (.region r32_10) k32_3) k32_4
def k32_6 : ACode := .seq (.region r32_9) k32_5
def k32_7 : ACode := .seq k32_2 k32_6
def k32_8 : ACode := .seq (.region r32_1) k32_7
def k32_9 : ACode := .seq (.region r32_0) k32_8
theorem fn32 : getFn Tryz.prog 32 = some (31, k32_9, [.cell 2 (some 7), .cell 3 (some 6), .tmp 4]) := by kernel_rfl
theorem row_double_step (c : GCursor) (r : (GValue × GCursor × Int)) (hw : ∃ y1, cursor_Fixed c y1 /\ (((y1.2.2 != 0) = true -> r = ((⟨0, 0, (⟨#[]⟩ : ByteArray), ([] : (List GValue)), ([] : (List (GValue × GValue))), ([] : (List (Int × GValue))), ([] : (List GRaw))⟩ : GValue), c, y1.2.2)) /\ ((y1.2.2 != 0) = false -> ∃ y2, scalar_Norm (⟨6, y1.1, (⟨#[]⟩ : ByteArray), ([] : (List GValue)), ([] : (List (GValue × GValue))), ([] : (List (Int × GValue))), ([] : (List GRaw))⟩ : GValue) y2 /\ (((y2.Bits != y1.1) = true -> r = ((⟨0, 0, (⟨#[]⟩ : ByteArray), ([] : (List GValue)), ([] : (List (GValue × GValue))), ([] : (List (Int × GValue))), ([] : (List GRaw))⟩ : GValue), c, 5)) /\ ((y2.Bits != y1.1) = false -> r = ((⟨6, y1.1, (⟨#[]⟩ : ByteArray), ([] : (List GValue)), ([] : (List (GValue × GValue))), ([] : (List (Int × GValue))), ([] : (List GRaw))⟩ : GValue), y1.2.1, 0)))))) : row_double c r := by
 refine f_pureD fn32 nle rfl (ds (vg 4 [(3, .ptr 2 0), (2, .ptr 1 0), (1, .ptr 0 0)] [(eGCursor c), zV, [aE, aI 0, aI 0, aI 0, aI 0, aI 0]] [] (ve (ds (va 1 [(10, .agg (eGCursor c))] ?_)))))
 obtain ⟨y1, hy, hw⟩ := hw
 refine vo rfl (x_call hy pl77) rfl (vg 8 [(7, aI y1.2.2), (5, aU y1.1), (6, .ptr 3 0)] [(eGCursor y1.2.1)] [] (ve (d_seqQ (ds (va 2 [(16, aB (y1.2.2 != 0))] (ve (dw hw (fun _ hw => ?_) (fun _ hw => ?_))))))))
 ·exact d_seqQ (dS [(0, (eGCursor c))] (sa 1 3 [(19, aI y1.2.2), (18, .agg (eGCursor c)), (17, .agg zV)] (sw [] rfl (x_U (.tuple []) [] []) (sw [] rfl (x_U (.tuple []) [] [(2, (eGCursor c))]) (send (vp_start' (va 1 [(4, aI y1.2.2)] (ve (d_ret (rx hw (plr32 _)))))))))))
 refine d_skip (ds (vg 4 [(8, .ptr 4 0)] [[aI 6, aU y1.1, aE, .nil, .nil, .nil, .nil]] [] (ve (d_seqQ (ds (va 1 [(22, .agg [aI 6, aU y1.1, aE, .nil, .nil, .nil, .nil])] ?_))))))
 obtain ⟨y2, hy, hw⟩ := hw
 refine vo rfl (x_call hy pl50) rfl (va 3 [(26, aB (y2.Bits != y1.1))] (ve (dw hw (fun _ hw => ?_) (fun _ hw => ?_))))
 ·exact d_seqQ (dS [(0, (eGCursor c))] (sa 1 2 [(28, .agg (eGCursor c)), (27, .agg zV)] (sw [] rfl (x_U (.tuple []) [] []) (send (vp_start' (vg 2 [(4, aI 5)] [] [(2, (eGCursor c))] (ve (d_ret (rx hw (plr32 _))))))))))
 exact d_skip (d_seqQ (dS [(3, (eGCursor y1.2.1)), (4, [aI 6, aU y1.1, aE, .nil, .nil, .nil, .nil])] (sa 5 2 [(30, .agg (eGCursor y1.2.1)), (29, .agg [aI 6, aU y1.1, aE, .nil, .nil, .nil, .nil])] (sw [] rfl (x_U (.tuple []) [] [(1, [aI 6, aU y1.1, aE, .nil, .nil, .nil, .nil])]) (send (vp_start' (vg 2 [(4, aI 0)] [] [(2, (eGCursor y1.2.1))] (ve (d_ret (rx hw (plr32 _)))))))))))
theorem plr33 (r : (GValue × GCursor × Int)) : plain (e33 r) = true := (ptup (pcons (pl_GValue r.1) (pcons (pl_GCursor r.2.1) (pcons rfl rfl))))
def r33_0 : LO := [o 3 (bx 1), o 4 (.alloc zV), o 5 (.alloc [aE, (aI 0), (aI 0), (aI 0), (aI 0), (aI 0)]), o 6 (mi 0)]
def r33_1 : LO := [o 12 (ln 6 3), o 13 (.call (cf 34) [(T 12)]), o 11 (mv 13), o 14 (.extract 0 (T 11)), o 15 (.extract 1 (T 11)), o 16 (.extract 2 (T 11)), o 8 (.alloc [aE, (aI 0), (aI 0), (aI 0), (aI 0), (aI 0)]), o 7 (mv 14), on (st 6 8 15), o 9 (mv 16)]
def r33_2 : LO := [o 17 (mv 9), o 18 (.bin .neq (T 17) (ci 0))]
def r33_3 : LO := [o 19 (.build zV []), o 20 (ln 6 3), o 21 (mv 9), on (st 7 4 19), on (st 6 5 20)]
def r33_3t : LO := [o 6 (mv 21)]
def r33_3o : LN := [[], [], [], [0], [0, 1, 3]]
def k33_1 : ACode := .cond (T 18) (.seq (.drawn r33_3o r33_3 r33_3t) .ret) .skip
def k33_2 : ACode := .seq (.region r33_2) k33_1
def r33_9 : LO := [o 22 (mv 7), o 23 (ln 6 8), o 24 (.call (cf 62) [(T 23)]), o 25 (.conv (.num .u64) (T 24)), o 26 (.bin .gtr (T 22) (T 25))]
def r33_10 : LO := [o 27 (.build zV []), o 28 (ln 6 3), on (st 7 4 27)]
def r33_10t : LO := [on (st 6 5 28), o 6 (mi 4)]
def r33_10o : LN := [[], [], [0]]
def k33_3 : ACode := .cond (T 26) (.seq (.drawn r33_10o r33_10 r33_10t) .ret) .skip
def r33_16 : LO := [o 30 (ln 6 8), o 31 (mv 7), o 32 (.conv (.num .i64) (T 31)), o 33 (.call (cf 78) [(T 30), (T 32)]), o 29 (mv 33), o 34 (.extract 0 (T 29)), o 35 (.extract 1 (T 29)), o 36 (.extract 2 (T 29)), o 10 (mv 34), on (st 6 8 35), o 9 (mv 36)]
def r33_17 : LO := [o 37 (mv 9), o 38 (.bin .neq (T 37) (ci 0))]
def r33_18 : LO := [o 39 (.build zV []), o 40 (ln 6 3), o 41 (mv 9), on (st 7 4 39), on (st 6 5 40)]
def r33_18t : LO := [o 6 (mv 41)]
def r33_18o : LN := [[], [], [], [0], [0, 1, 3]]
def k33_4 : ACode := .cond (T 38) (.seq (.drawn r33_18o r33_18 r33_18t) .ret) .skip
def r33_24 : LO := [o 42 (mv 0), o 43 (.bin .eql (T 42) (ci 7)), o 44 (mv 43), og 45 (mv 10) 44 true, og 46 (.call (cf 79) [(T 45)]) 44 true, og 47 (.un .not (T 46)) 44 true, o 48 (.pick (T 44) (T 47) (cb false))]
def r33_25 : LO := [o 49 (.build zV []), o 50 (ln 6 3), on (st 7 4 49)]
def r33_25t : LO := [on (st 6 5 50), o 6 (mi 7)]
def r33_25o : LN := [[], [], [0]]
def k33_5 : ACode := .cond (T 48) (.seq (.drawn r33_25o r33_25 r33_25t) .ret) .skip
def r33_31 : LO := [o 51 (mv 0), o 52 (mv 10), o 53 (.build zV [((0, 1), (T 51)), ((2, 1), (T 52))]), o 54 (ln 6 8), on (st 7 4 53)]
def r33_31t : LO := [on (st 6 5 54), o 6 (mi 0)]
def r33_31o : LN := [[], [], [0, 1], [], [0, 1, 2]]
def k33_6 : ACode := .seq (.drawn r33_31o r33_31 r33_31t) .ret
def k33_7 : ACode := .seq (.seq (.region r33_24) k33_5) k33_6
def k33_8 : ACode := .seq (.seq (.region r33_17) k33_4) k33_7
def k33_9 : ACode := .seq (.region r33_16) k33_8
def k33_10 : ACode := .seq (.seq (.region r33_9) k33_3) k33_9
def k33_11 : ACode := .seq k33_2 k33_10
def k33_12 : ACode := .seq (.region r33_1) k33_11
def k33_13 : ACode := .seq (.region r33_0) k33_12
theorem fn33 : getFn Tryz.prog 33 = some (55, k33_13, [.cell 4 (some 7), .cell 5 (some 6), .tmp 6]) := by kernel_rfl
theorem row_text_step (kind : Int) (c : GCursor) (r : (GValue × GCursor × Int)) (hw : ∃ y1, row_number c y1 /\ (((y1.2.2 != 0) = true -> r = ((⟨0, 0, (⟨#[]⟩ : ByteArray), ([] : (List GValue)), ([] : (List (GValue × GValue))), ([] : (List (Int × GValue))), ([] : (List GRaw))⟩ : GValue), c, y1.2.2)) /\ ((y1.2.2 != 0) = false -> ∃ y2, cursor_Left y1.2.1 y2 /\ (((decide ((wU y2) < y1.1)) = true -> r = ((⟨0, 0, (⟨#[]⟩ : ByteArray), ([] : (List GValue)), ([] : (List (GValue × GValue))), ([] : (List (Int × GValue))), ([] : (List GRaw))⟩ : GValue), c, 4)) /\ ((decide ((wU y2) < y1.1)) = false -> ∃ y3, cursor_Text y1.2.1 (wI y1.1) y3 /\ (((y3.2.2 != 0) = true -> r = ((⟨0, 0, (⟨#[]⟩ : ByteArray), ([] : (List GValue)), ([] : (List (GValue × GValue))), ([] : (List (Int × GValue))), ([] : (List GRaw))⟩ : GValue), c, y3.2.2)) /\ ((y3.2.2 != 0) = false -> ∃ R1 : Bool -> Prop, (∀ bz1 : Bool, R1 bz1 -> ((bz1 = true -> r = ((⟨0, 0, (⟨#[]⟩ : ByteArray), ([] : (List GValue)), ([] : (List (GValue × GValue))), ([] : (List (Int × GValue))), ([] : (List GRaw))⟩ : GValue), c, 7)) /\ (bz1 = false -> r = ((⟨kind, 0, y3.1, ([] : (List GValue)), ([] : (List (GValue × GValue))), ([] : (List (Int × GValue))), ([] : (List GRaw))⟩ : GValue), y3.2.1, 0)))) /\ (((kind == 7) = true -> ∃ y4, utf_Valid y3.1 y4 /\ (R1 (!y4))) /\ ((kind == 7) = false -> R1 false))))))))) : row_text kind c r := by
 refine f_pureD fn33 nle rfl (ds (vg 4 [(5, .ptr 2 0), (4, .ptr 1 0), (3, .ptr 0 0)] [(eGCursor c), zV, [aE, aI 0, aI 0, aI 0, aI 0, aI 0]] [] (ve (ds (va 1 [(12, .agg (eGCursor c))] ?_)))))
 obtain ⟨y1, hy, hw⟩ := hw
 refine vo rfl (x_call hy pl34) rfl (vg 8 [(9, aI y1.2.2), (7, aU y1.1), (8, .ptr 3 0)] [(eGCursor y1.2.1)] [] (ve (d_seqQ (ds (va 2 [(18, aB (y1.2.2 != 0))] (ve (dw hw (fun _ hw => ?_) (fun _ hw => ?_))))))))
 ·exact d_seqQ (dS [(0, (eGCursor c))] (sa 1 3 [(21, aI y1.2.2), (20, .agg (eGCursor c)), (19, .agg zV)] (sw [] rfl (x_U (.tuple []) [] []) (sw [] rfl (x_U (.tuple []) [] [(2, (eGCursor c))]) (send (vp_start' (va 1 [(6, aI y1.2.2)] (ve (d_ret (rx hw (plr33 _)))))))))))
 refine d_skip (d_seqQ (ds (va 2 [(23, .agg (eGCursor y1.2.1)), (22, aU y1.1)] ?_)))
 obtain ⟨y2, hy, hw⟩ := hw
 refine vo rfl (x_call hy pl62) rfl (va 2 [(26, aB (decide ((wU y2) < y1.1)))] (ve (dw hw (fun _ hw => ?_) (fun _ hw => ?_))))
 ·exact d_seqQ (dS [(0, (eGCursor c))] (sa 1 2 [(28, .agg (eGCursor c)), (27, .agg zV)] (sw [] rfl (x_U (.tuple []) [] []) (send (vp_start' (vg 2 [(6, aI 4)] [] [(2, (eGCursor c))] (ve (d_ret (rx hw (plr33 _))))))))))
 refine d_skip (ds (va 3 [(32, aI (wI y1.1)), (30, .agg (eGCursor y1.2.1))] ?_))
 obtain ⟨y3, hy, hw⟩ := hw
 refine vo rfl (x_call hy pl78) rfl (vg 7 [(9, aI y3.2.2), (10, aS y3.1)] [] [(3, (eGCursor y3.2.1))] (ve (d_seqQ (ds (va 2 [(38, aB (y3.2.2 != 0))] (ve (dw hw (fun _ hw => ?_) (fun _ hw => ?_))))))))
 ·exact d_seqQ (dS [(0, (eGCursor c))] (sa 1 3 [(41, aI y3.2.2), (40, .agg (eGCursor c)), (39, .agg zV)] (sw [] rfl (x_U (.tuple []) [] []) (sw [] rfl (x_U (.tuple []) [] [(2, (eGCursor c))]) (send (vp_start' (va 1 [(6, aI y3.2.2)] (ve (d_ret (rx hw (plr33 _)))))))))))
 refine d_skip (d_seqQ (ds (va 3 [(44, aB (kind == 7))] ?_)))
 obtain ⟨R1, hR, hw⟩ := hw
 refine vr 44 48 7 (kind == 7) R1 (fun bz1 => aB bz1) km_d (fun bz1 hz => ?_) (fun key => ⟨fun hb5 => ?_, fun hb5 => ?_⟩)
 ·have hw := hR bz1 hz
  refine ve (dw hw (fun _ hw => ?_) (fun _ hw => ?_))
  ·exact d_seqQ (dS [(0, (eGCursor c))] (sa 1 2 [(50, .agg (eGCursor c)), (49, .agg zV)] (sw [] rfl (x_U (.tuple []) [] []) (send (vp_start' (vg 2 [(6, aI 7)] [] [(2, (eGCursor c))] (ve (d_ret (rx hw (plr33 _))))))))))
  exact d_skip (d_seqQ (dS [(3, (eGCursor y3.2.1))] (sa 4 4 [(54, .agg (eGCursor y3.2.1)), (53, .agg [aI kind, aU 0, aS y3.1, .nil, .nil, .nil, .nil])] (sw [] rfl (x_U (.tuple []) [] [(1, [aI kind, aU 0, aS y3.1, .nil, .nil, .nil, .nil])]) (send (vp_start' (vg 2 [(6, aI 0)] [] [(2, (eGCursor y3.2.1))] (ve (d_ret (rx hw (plr33 _)))))))))))
 ·have hw := hw.1 hb5
  refine va 1 [(45, aS y3.1)] ?_
  obtain ⟨y4, hy, hw⟩ := hw
  exact vo rfl (x_call hy pl79) rfl (va 1 [(47, aB (!y4))] (va 1 [(48, aB (!y4))] (vle km_d (key _ hw))))
 ·have hw := hw.2 hb5
  exact va 3 [(47, .tuple [])] (va 1 [(48, aB false)] (vle km_d (key _ hw)))
theorem plr34 (r : (Int × GCursor × Int)) : plain (e34 r) = true := (ptup (pcons rfl (pcons (pl_GCursor r.2.1) (pcons rfl rfl))))
def r34_0 : LO := [o 1 (bx 0), o 2 (.mv (.c (aU 0))), o 3 (.alloc [aE, (aI 0), (aI 0), (aI 0), (aI 0), (aI 0)]), o 4 (mi 0)]
def r34_1 : LO := [o 9 (ln 6 1), o 10 (.call (cf 80) [(T 9)]), o 8 (mv 10), o 11 (.extract 0 (T 8)), o 12 (.extract 1 (T 8)), o 13 (.extract 2 (T 8)), o 6 (.alloc [aE, (aI 0), (aI 0), (aI 0), (aI 0), (aI 0)]), o 5 (mv 11), on (st 6 6 12), o 7 (mv 13)]
def r34_2 : LO := [o 14 (mv 7), o 15 (.bin .neq (T 14) (ci 0))]
def r34_3 : LO := [o 16 (ln 6 1), o 17 (mv 7), o 2 (.mv (.c (aU 0))), on (st 6 3 16)]
def r34_3t : LO := [o 4 (mv 17)]
def r34_3o : LN := [[], [], [], [0, 2]]
def k34_1 : ACode := .cond (T 15) (.seq (.drawn r34_3o r34_3 r34_3t) .ret) .skip
def k34_2 : ACode := .seq (.region r34_2) k34_1
def r34_9 : LO := [o 18 (fa 1 6), o 19 (ld 18), o 20 (fa 1 1), o 21 (ld 20), o 22 (.bin .sub (T 19) (T 21)), o 23 (mv 5), o 24 (.call (cf 81) [(T 23)]), o 25 (.bin .neq (T 22) (T 24))]
def r34_9t : LO := []
def r34_9o : LN := [[], [0], [], [2], [1, 3], [], [5], [4, 6]]
def r34_10 : LO := [o 26 (ln 6 1), o 2 (.mv (.c (aU 0)))]
def r34_10t : LO := [on (st 6 3 26), o 4 (mi 5)]
def r34_10o : LN := [[], []]
def k34_3 : ACode := .cond (T 25) (.seq (.drawn r34_10o r34_10 r34_10t) .ret) .skip
def r34_16 : LO := [o 27 (mv 5), o 28 (ln 6 6), o 2 (mv 27)]
def r34_16t : LO := [on (st 6 3 28), o 4 (mi 0)]
def r34_16o : LN := [[], [], [0]]
def k34_4 : ACode := .seq (.drawn r34_16o r34_16 r34_16t) .ret
def k34_5 : ACode := .seq (.seq (.drawn r34_9o r34_9 r34_9t) k34_3) k34_4
def k34_6 : ACode := .seq k34_2 k34_5
def k34_7 : ACode := .seq (.region r34_1) k34_6
def k34_8 : ACode := .seq (.region r34_0) k34_7
theorem fn34 : getFn Tryz.prog 34 = some (29, k34_8, [.tmp 2, .cell 3 (some 6), .tmp 4]) := by kernel_rfl
theorem row_number_step (c : GCursor) (r : (Int × GCursor × Int)) (hw : ∃ y1, cursor_Varint c y1 /\ (((y1.2.2 != 0) = true -> r = (0, c, y1.2.2)) /\ ((y1.2.2 != 0) = false -> ∃ y2, varint_Len y1.1 y2 /\ ((((wI (y1.2.1.At - c.At)) != y2) = true -> r = (0, c, 5)) /\ (((wI (y1.2.1.At - c.At)) != y2) = false -> r = (y1.1, y1.2.1, 0)))))) : row_number c r := by
 refine f_pureD fn34 nle rfl (ds (vg 4 [(3, .ptr 1 0), (1, .ptr 0 0)] [(eGCursor c), [aE, aI 0, aI 0, aI 0, aI 0, aI 0]] [] (ve (ds (va 1 [(9, .agg (eGCursor c))] ?_)))))
 obtain ⟨y1, hy, hw⟩ := hw
 refine vo rfl (x_call hy pl80) rfl (vg 8 [(7, aI y1.2.2), (5, aU y1.1), (6, .ptr 2 0)] [(eGCursor y1.2.1)] [] (ve (d_seqQ (ds (va 2 [(15, aB (y1.2.2 != 0))] (ve (dw hw (fun _ hw => ?_) (fun _ hw => ?_))))))))
 ·exact d_seqQ (dS [(0, (eGCursor c))] (sa 1 3 [(2, aU 0), (17, aI y1.2.2), (16, .agg (eGCursor c))] (sw [] rfl (x_U (.tuple []) [] [(1, (eGCursor c))]) (send (vp_start' (va 1 [(4, aI y1.2.2)] (ve (d_ret (rx hw (plr34 _))))))))))
 refine d_skip (d_seqQ (d_seqQ (dS [(0, (eGCursor c)), (2, (eGCursor y1.2.1))] (sa 3 6 [(23, aU y1.1), (22, aI (wI (y1.2.1.At - c.At)))] ?_))))
 obtain ⟨y2, hy, hw⟩ := hw
 refine sq rfl (y_call hy pl81) rfl (sa 3 1 [(25, aB ((wI (y1.2.1.At - c.At)) != y2))] (send (vp_start' (ve (dw hw (fun _ hw => ?_) (fun _ hw => ?_))))))
 ·exact d_seqQ (dS [(0, (eGCursor c))] (sa 1 2 [(2, aU 0), (26, .agg (eGCursor c))] (send (vp_start' (vg 2 [(4, aI 5)] [] [(1, (eGCursor c))] (ve (d_ret (rx hw (plr34 _)))))))))
 exact d_skip (d_seqQ (dS [(2, (eGCursor y1.2.1))] (sa 3 3 [(2, aU y1.1), (28, .agg (eGCursor y1.2.1))] (send (vp_start' (vg 2 [(4, aI 0)] [] [(1, (eGCursor y1.2.1))] (ve (d_ret (rx hw (plr34 _))))))))))
theorem plr35 (r : Int) : plain (e35 r) = true := rfl
def r35_0 : LO := [o 2 (mi 0)]
def r35_1 : LO := [o 3 (mv 0), o 4 (.bin .shr (T 3) (.c (aU 1))), o 5 (.conv (.num .i64) (T 4)), o 6 (mv 0), o 7 (.bin .and (T 6) (.c (aU 1))), o 8 (.conv (.num .i64) (T 7)), o 9 (.un .neg (T 8)), o 10 (.bin .xor (T 5) (T 9)), o 2 (mv 10)]
def k35_1 : ACode := .seq (.region r35_1) .ret
def k35_2 : ACode := .seq (.region r35_0) k35_1
theorem fn35 : getFn Tryz.prog 35 = some (11, k35_2, [.tmp 2]) := by kernel_rfl
theorem varint_Zag_step (u : Int) (r : Int) (hw : r = (bitsOf .xor .i64 (wI (u.fdiv (2 ^ min (1 : Int).toNat IntKind.u64.bits))) (wI (0 - (wI (bitsOf .and .u64 u 1)))))) : varint_Zag u r := by
 exact f_pureD fn35 nle rfl (ds (va 1 [] (ve (ds (va 9 [(2, aI (bitsOf .xor .i64 (wI (u.fdiv (2 ^ min (1 : Int).toNat IntKind.u64.bits))) (wI (0 - (wI (bitsOf .and .u64 u 1))))))] (ve (d_ret (rx hw (plr35 _)))))))))
theorem plr36 (r : Bool) : plain (e36 r) = true := rfl
def r36_0 : LO := [o 3 (bx 1), o 4 (mb false)]
def r36_1 : LO := [o 5 (mv 0), o 6 (.call (cf 82) [(T 5)]), o 7 (.un .not (T 6)), o 8 (mv 7), og 9 (fa 0 3) 8 false, og 10 (ld 9) 8 false, og 11 (mv 0) 8 false, og 12 (.bin .neq (T 10) (T 11)) 8 false, o 13 (.pick (T 8) (cb true) (T 12)), o 14 (mv 13), og 15 (ln 7 3) 14 false, og 16 (.call (cf 83) [(T 15)]) 14 false, og 17 (.un .not (T 16)) 14 false, o 18 (.pick (T 14) (cb true) (T 17)), o 19 (mv 18), og 20 (mv 0) 19 false, og 21 (fa 1 3) 19 false, og 22 (ld 21) 19 false, og 23 (.call (cf 84) [(T 20), (T 22)]) 19 false, og 24 (.un .not (T 23)) 19 false, o 25 (.pick (T 19) (cb true) (T 24)), o 26 (mv 25), og 27 (fa 2 3) 26 false, og 28 (ld 27) 26 false, og 29 (.len true (T 28)) 26 false, og 30 (.bin .gtr (T 29) (ci 4096)) 26 false, o 31 (.pick (T 26) (cb true) (T 30))]
def r36_2 : LO := [o 4 (mb false)]
def k36_1 : ACode := .cond (T 31) (.seq (.region r36_2) .ret) .skip
def k36_2 : ACode := .seq (.region r36_1) k36_1
def r36_8 : LO := [o 32 (mv 0), o 33 (.bin .neq (T 32) (ci 7)), o 34 (mv 33), og 35 (fa 2 3) 34 false, og 36 (ld 35) 34 false, og 37 (.call (cf 79) [(T 36)]) 34 false, o 38 (.pick (T 34) (cb true) (T 37)), o 4 (mv 38)]
def k36_3 : ACode := .seq (.region r36_8) .ret
def k36_4 : ACode := .seq k36_2 k36_3
def k36_5 : ACode := .seq (.region r36_0) k36_4
theorem fn36 : getFn Tryz.prog 36 = some (39, k36_5, [.tmp 4]) := by kernel_rfl
theorem scalar_Fits_step (kind : Int) (v : GValue) (r : Bool) (hw : ∃ y1, scalar_Is kind y1 /\ (∃ R1 : Bool -> Prop, (∀ bz1 : Bool, R1 bz1 -> (∃ R2 : Bool -> Prop, (∀ bz2 : Bool, R2 bz2 -> (((bz2 || (decide (4096 < (v.Text.size : Int)))) = true -> r = false) /\ ((bz2 || (decide (4096 < (v.Text.size : Int)))) = false -> ((kind != 7) = true -> r = true) /\ ((kind != 7) = false -> ∃ y4, utf_Valid v.Text y4 /\ (r = y4))))) /\ ((bz1 = true -> R2 true) /\ (bz1 = false -> ∃ y3, scalar_within kind v.Bits y3 /\ (R2 (!y3)))))) /\ ((((!y1) || (v.Kind != kind)) = true -> R1 true) /\ (((!y1) || (v.Kind != kind)) = false -> ∃ y2, scalar_lean v y2 /\ (R1 (!y2)))))) : scalar_Fits kind v r := by
 refine f_pureD fn36 nle rfl (ds (vg 2 [(3, .ptr 0 0)] [(eGValue v)] [] (ve (d_seqQ (ds (va 1 [(5, aI kind)] ?_))))))
 obtain ⟨y1, hy, hw⟩ := hw
 refine vo rfl (x_call hy pl82) rfl (va 2 [(8, aB (!y1))] (vj 8 13 9 (!y1) (fun z => aB (z || (v.Kind != kind))) km_d (fun _ key => ?_) (fun _ key => ?_) ?_))
 ·exact va 4 [(12, .tuple [])] (va 1 [(13, aB true)] (vle km_d key))
 ·exact va 4 [(12, aB (v.Kind != kind))] (va 1 [(13, aB (v.Kind != kind))] (vle km_d key))
 refine va 1 [(14, aB ((!y1) || (v.Kind != kind)))] ?_
 obtain ⟨R1, hR, hw⟩ := hw
 refine vr 14 18 14 ((!y1) || (v.Kind != kind)) R1 (fun bz1 => aB bz1) km_d (fun bz1 hz => ?_) (fun key => ⟨fun hb3 => ?_, fun hb3 => ?_⟩)
 ·have hw := hR bz1 hz
  refine va 1 [(19, aB bz1)] ?_
  obtain ⟨R2, hR, hw⟩ := hw
  refine vr 19 25 21 bz1 R2 (fun bz2 => aB bz2) km_d (fun bz2 hz => ?_) (fun key => ⟨fun hb5 => ?_, fun hb5 => ?_⟩)
  ·have hw := hR bz2 hz
   refine va 1 [(26, aB bz2)] (vj 26 31 27 bz2 (fun z => aB (z || (decide (4096 < (v.Text.size : Int))))) km_d (fun _ key => ?_) (fun _ key => ?_) ?_)
   ·exact va 4 [(30, .tuple [])] (va 1 [(31, aB true)] (vle km_d key))
   ·exact va 2 [(28, aS v.Text)] (vo rfl (x_lenS v.Text) rfl (va 1 [(30, aB (decide (4096 < (v.Text.size : Int))))] (va 1 [(31, aB (decide (4096 < (v.Text.size : Int))))] (vle km_d key))))
   refine ve (dw hw (fun _ hw => ?_) (fun _ hw => ?_))
   ·exact ds (va 1 [(4, aB false)] (ve (d_ret (rx hw (plr36 _)))))
   refine d_skip (ds (va 3 [(34, aB (kind != 7))] (vw2 34 hw (fun _ hw => ?_) (fun _ hw => ?_))))
   ·exact va 5 [(4, aB true)] (ve (d_ret (rx hw (plr36 _))))
   refine va 2 [(36, aS v.Text)] ?_
   obtain ⟨y4, hy, hw⟩ := hw
   exact vo rfl (x_call hy pl79) rfl (va 2 [(4, aB y4)] (ve (d_ret (rx hw (plr36 _)))))
  ·have hw := hw.1 hb5
   exact va 5 [(24, .tuple [])] (va 1 [(25, aB true)] (vle km_d (key _ hw)))
  ·have hw := hw.2 hb5
   refine va 3 [(22, aU v.Bits), (20, aI kind)] ?_
   obtain ⟨y3, hy, hw⟩ := hw
   exact vo rfl (x_call hy pl84) rfl (va 1 [(24, aB (!y3))] (va 1 [(25, aB (!y3))] (vle km_d (key _ hw))))
 ·have hw := hw.1 hb3
  exact va 3 [(17, .tuple [])] (va 1 [(18, aB true)] (vle km_d (key _ hw)))
 ·have hw := hw.2 hb3
  refine va 1 [(15, .agg (eGValue v))] ?_
  obtain ⟨y2, hy, hw⟩ := hw
  exact vo rfl (x_call hy pl83) rfl (va 1 [(17, aB (!y2))] (va 1 [(18, aB (!y2))] (vle km_d (key _ hw))))
theorem plr37 (r : Bool) : plain (e37 r) = true := rfl
def r37_0 : LO := [o 3 (bx 0), o 5 (bx 2), o 6 (mb false)]
def r37_1 : LO := [o 8 (mv 1), o 9 (.bin .lss (T 8) (ci 0)), o 10 (mv 9), og 11 (mv 1) 10 false, og 12 (fa 1 3) 10 false, og 13 (ld 12) 10 false, og 14 (.len false (T 13)) 10 false, og 15 (.bin .geq (T 11) (T 14)) 10 false, o 16 (.pick (T 10) (cb true) (T 15)), o 17 (mv 16), og 18 (ld 5) 17 false, og 19 (.bin .gtr (T 18) (.c (aU 2147483647))) 17 false, o 20 (.pick (T 17) (cb true) (T 19))]
def r37_2 : LO := [o 6 (mb false)]
def k37_1 : ACode := .cond (T 20) (.seq (.region r37_2) .ret) .skip
def k37_2 : ACode := .seq (.region r37_1) k37_1
def r37_8 : LO := [o 21 (fa 1 3), o 22 (ld 21), o 23 (mv 1), o 24 (.idxSl 5 (T 22) (T 23)), o 25 (ln 5 24), o 7 (.alloc [aE, (aB false), .nil, .nil, .nil]), on (st 5 7 25)]
def r37_9 : LO := [o 26 (fa 1 7), o 27 (ld 26), o 28 (mv 27), og 29 (fa 2 7) 28 false, og 30 (ld 29) 28 false, og 31 (.func (.func 86) [] [(T 5)]) 28 false, og 32 (.call (cf 85) [(T 30), (T 31)]) 28 false, o 33 (.pick (T 28) (cb true) (T 32)), o 6 (mv 33)]
def k37_3 : ACode := .seq (.region r37_9) .ret
def k37_4 : ACode := .seq (.region r37_8) k37_3
def k37_5 : ACode := .seq k37_2 k37_4
def k37_6 : ACode := .seq (.region r37_0) k37_5
theorem fn37 : getFn Tryz.prog 37 = some (34, k37_6, [.tmp 6]) := by kernel_rfl
theorem plan_Accepts_step (p : GPlan) (enum : Int) (num : Int) (r : Bool) (hw : ((((decide (enum < 0)) || (decide ((p.Enums.length : Int) <= enum))) || (decide (2147483647 < num))) = true -> r = false) /\ ((((decide (enum < 0)) || (decide ((p.Enums.length : Int) <= enum))) || (decide (2147483647 < num))) = false -> ∃ y1, p.Enums[enum.toNat]? = some y1 /\ 0 <= enum /\ ((y1.Open = true -> r = true) /\ (y1.Open = false -> ∃ y2, slices_ContainsFunc_g85 y1.Items (⟨86, [], [.elt [aU num] 0], by simp⟩ : GFn) y2 /\ (r = y2))))) : plan_Accepts p enum num r := by
 refine f_pureD fn37 nle rfl (ds (vg 3 [(5, .ptr 1 0), (3, .ptr 0 0)] [(eGPlan p), [aU num]] [] (ve (d_seqQ (ds (va 3 [(10, aB (decide (enum < 0)))] (vj 10 16 9 (decide (enum < 0)) (fun z => aB (z || (decide ((p.Enums.length : Int) <= enum)))) km_d (fun _ key => ?_) (fun _ key => ?_) ?_)))))))
 ·exact va 5 [(15, .tuple [])] (va 1 [(16, aB true)] (vle km_d key))
 ·exact va 3 [(13, .sl (List.map eGEnum p.Enums) .no), (11, aI enum)] (vo rfl (x_len p.Enums eGEnum) rfl (va 1 [(15, aB (decide ((p.Enums.length : Int) <= enum)))] (va 1 [(16, aB (decide ((p.Enums.length : Int) <= enum)))] (vle km_d key))))
 refine va 1 [(17, aB ((decide (enum < 0)) || (decide ((p.Enums.length : Int) <= enum))))] (vj 17 20 13 ((decide (enum < 0)) || (decide ((p.Enums.length : Int) <= enum))) (fun z => aB (z || (decide (2147483647 < num)))) km_d (fun _ key => ?_) (fun _ key => ?_) ?_)
 ·exact va 2 [(19, .tuple [])] (va 1 [(20, aB true)] (vle km_d key))
 ·exact va 2 [(19, aB (decide (2147483647 < num)))] (va 1 [(20, aB (decide (2147483647 < num)))] (vle km_d key))
 refine ve (dw hw (fun _ hw => ?_) (fun _ hw => ?_))
 ·exact ds (va 1 [(6, aB false)] (ve (d_ret (rx hw (plr37 _)))))
 refine d_skip (ds (va 3 [(23, aI enum), (22, .sl (List.map eGEnum p.Enums) .no)] ?_))
 obtain ⟨y1, hy, h0, hw⟩ := hw
 refine vo rfl (x_idx h0 hy (rfl : eGEnum y1 = eGEnum y1)) rfl (vg 3 [(7, .ptr 2 0)] [(eGEnum y1)] [] (ve (d_seqQ (dfz 1 [true, false, true] 0 [aU num] [(7, .ptr 2 0), (24, .elt (eGEnum y1) 0), (23, aI enum), (22, .sl (List.map eGEnum p.Enums) .no), (20, aB (((decide (enum < 0)) || (decide ((p.Enums.length : Int) <= enum))) || (decide (2147483647 < num)))), (16, aB ((decide (enum < 0)) || (decide ((p.Enums.length : Int) <= enum)))), (5, .elt [aU num] 0), (3, .ptr 0 0), (0, .agg (eGPlan p)), (1, aI enum), (2, aU num)] [some (eGPlan p), none, some (eGEnum y1)] ⟨by first | rfl | simp, by first | rfl | simp⟩ (dr (va 3 [(28, aB y1.Open)] (vw2 28 hw (fun _ hw => ?_) (fun _ hw => ?_))))))))
 ·exact va 6 [(6, aB true)] (ve (d_ret (rx hw (plr37 _))))
 refine va 3 [(31, .clo (.func 86) [] [.elt [aU num] 0]), (30, .sl (List.map eGItem y1.Items) .no)] ?_
 obtain ⟨y2, hy, hw⟩ := hw
 exact vo rfl (x_call hy pl85) rfl (va 2 [(6, aB y2)] (ve (d_ret (rx hw (plr37 _)))))
theorem plr38 (r : (GValue × GCursor × Int)) : plain (e38 r) = true := (ptup (pcons (pl_GValue r.1) (pcons (pl_GCursor r.2.1) (pcons rfl rfl))))
def r38_0 : LO := [o 3 (bx 1), o 4 (.alloc zV), o 5 (.alloc [aE, (aI 0), (aI 0), (aI 0), (aI 0), (aI 0)]), o 6 (mi 0)]
def r38_1 : LO := [o 12 (ln 6 3), o 13 (.call (cf 43) [(T 12)]), o 11 (mv 13), o 14 (.extract 0 (T 11)), o 15 (.extract 1 (T 11)), o 16 (.extract 2 (T 11)), o 8 (.alloc [aE, (aI 0), (aI 0), (aI 0), (aI 0), (aI 0)]), o 7 (mv 14), on (st 6 8 15), o 9 (mv 16)]
def r38_2 : LO := [o 17 (mv 9), o 18 (.bin .neq (T 17) (ci 0))]
def r38_3 : LO := [o 19 (.build zV []), o 20 (ln 6 3), o 21 (mv 9), on (st 7 4 19), on (st 6 5 20)]
def r38_3t : LO := [o 6 (mv 21)]
def r38_3o : LN := [[], [], [], [0], [0, 1, 3]]
def k38_1 : ACode := .cond (T 18) (.seq (.drawn r38_3o r38_3 r38_3t) .ret) .skip
def k38_2 : ACode := .seq (.region r38_2) k38_1
def r38_9 : LO := [o 22 (mv 7), o 23 (ln 6 8), o 24 (.call (cf 87) [(T 23)]), o 25 (.conv (.num .u64) (T 24)), o 26 (.bin .gtr (T 22) (T 25))]
def r38_10 : LO := [o 27 (.build zV []), o 28 (ln 6 3), on (st 7 4 27)]
def r38_10t : LO := [on (st 6 5 28), o 6 (mi 4)]
def r38_10o : LN := [[], [], [0]]
def k38_3 : ACode := .cond (T 26) (.seq (.drawn r38_10o r38_10 r38_10t) .ret) .skip
def r38_16 : LO := [o 30 (ln 6 8), o 31 (mv 7), o 32 (.conv (.num .i64) (T 31)), o 33 (.call (cf 88) [(T 30), (T 32)]), o 29 (mv 33), o 34 (.extract 0 (T 29)), o 35 (.extract 1 (T 29)), o 36 (.extract 2 (T 29)), o 10 (mv 34), on (st 6 8 35), o 9 (mv 36)]
def r38_17 : LO := [o 37 (mv 9), o 38 (.bin .neq (T 37) (ci 0))]
def r38_18 : LO := [o 39 (.build zV []), o 40 (ln 6 3), o 41 (mv 9), on (st 7 4 39), on (st 6 5 40)]
def r38_18t : LO := [o 6 (mv 41)]
def r38_18o : LN := [[], [], [], [0], [0, 1, 3]]
def k38_4 : ACode := .cond (T 38) (.seq (.drawn r38_18o r38_18 r38_18t) .ret) .skip
def r38_24 : LO := [o 42 (mv 0), o 43 (.bin .eql (T 42) (ci 7)), o 44 (mv 43), og 45 (mv 10) 44 true, og 46 (.call (cf 89) [(T 45)]) 44 true, og 47 (.un .not (T 46)) 44 true, o 48 (.pick (T 44) (T 47) (cb false))]
def r38_25 : LO := [o 49 (.build zV []), o 50 (ln 6 3), on (st 7 4 49)]
def r38_25t : LO := [on (st 6 5 50), o 6 (mi 7)]
def r38_25o : LN := [[], [], [0]]
def k38_5 : ACode := .cond (T 48) (.seq (.drawn r38_25o r38_25 r38_25t) .ret) .skip
def r38_31 : LO := [o 51 (mv 0), o 52 (mv 10), o 53 (.build zV [((0, 1), (T 51)), ((2, 1), (T 52))]), o 54 (ln 6 8), on (st 7 4 53)]
def r38_31t : LO := [on (st 6 5 54), o 6 (mi 0)]
def r38_31o : LN := [[], [], [0, 1], [], [0, 1, 2]]
def k38_6 : ACode := .seq (.drawn r38_31o r38_31 r38_31t) .ret
def k38_7 : ACode := .seq (.seq (.region r38_24) k38_5) k38_6
def k38_8 : ACode := .seq (.seq (.region r38_17) k38_4) k38_7
def k38_9 : ACode := .seq (.region r38_16) k38_8
def k38_10 : ACode := .seq (.seq (.region r38_9) k38_3) k38_9
def k38_11 : ACode := .seq k38_2 k38_10
def k38_12 : ACode := .seq (.region r38_1) k38_11
def k38_13 : ACode := .seq (.region r38_0) k38_12
theorem fn38 : getFn Tryz.prog 38 = some (55, k38_13, [.cell 4 (some 7), .cell 5 (some 6), .tmp 6]) := by kernel_rfl
theorem ref28_text_step (kind : Int) (c : GCursor) (r : (GValue × GCursor × Int)) (hw : ∃ y1, ref28_number c y1 /\ (((y1.2.2 != 0) = true -> r = ((⟨0, 0, (⟨#[]⟩ : ByteArray), ([] : (List GValue)), ([] : (List (GValue × GValue))), ([] : (List (Int × GValue))), ([] : (List GRaw))⟩ : GValue), c, y1.2.2)) /\ ((y1.2.2 != 0) = false -> ∃ y2, ref02_Left y1.2.1 y2 /\ (((decide ((wU y2) < y1.1)) = true -> r = ((⟨0, 0, (⟨#[]⟩ : ByteArray), ([] : (List GValue)), ([] : (List (GValue × GValue))), ([] : (List (Int × GValue))), ([] : (List GRaw))⟩ : GValue), c, 4)) /\ ((decide ((wU y2) < y1.1)) = false -> ∃ y3, ref02_Text y1.2.1 (wI y1.1) y3 /\ (((y3.2.2 != 0) = true -> r = ((⟨0, 0, (⟨#[]⟩ : ByteArray), ([] : (List GValue)), ([] : (List (GValue × GValue))), ([] : (List (Int × GValue))), ([] : (List GRaw))⟩ : GValue), c, y3.2.2)) /\ ((y3.2.2 != 0) = false -> ∃ R1 : Bool -> Prop, (∀ bz1 : Bool, R1 bz1 -> ((bz1 = true -> r = ((⟨0, 0, (⟨#[]⟩ : ByteArray), ([] : (List GValue)), ([] : (List (GValue × GValue))), ([] : (List (Int × GValue))), ([] : (List GRaw))⟩ : GValue), c, 7)) /\ (bz1 = false -> r = ((⟨kind, 0, y3.1, ([] : (List GValue)), ([] : (List (GValue × GValue))), ([] : (List (Int × GValue))), ([] : (List GRaw))⟩ : GValue), y3.2.1, 0)))) /\ (((kind == 7) = true -> ∃ y4, ref03_Valid y3.1 y4 /\ (R1 (!y4))) /\ ((kind == 7) = false -> R1 false))))))))) : ref28_text kind c r := by
 refine f_pureD fn38 nle rfl (ds (vg 4 [(5, .ptr 2 0), (4, .ptr 1 0), (3, .ptr 0 0)] [(eGCursor c), zV, [aE, aI 0, aI 0, aI 0, aI 0, aI 0]] [] (ve (ds (va 1 [(12, .agg (eGCursor c))] ?_)))))
 obtain ⟨y1, hy, hw⟩ := hw
 refine vo rfl (x_call hy pl43) rfl (vg 8 [(9, aI y1.2.2), (7, aU y1.1), (8, .ptr 3 0)] [(eGCursor y1.2.1)] [] (ve (d_seqQ (ds (va 2 [(18, aB (y1.2.2 != 0))] (ve (dw hw (fun _ hw => ?_) (fun _ hw => ?_))))))))
 ·exact d_seqQ (dS [(0, (eGCursor c))] (sa 1 3 [(21, aI y1.2.2), (20, .agg (eGCursor c)), (19, .agg zV)] (sw [] rfl (x_U (.tuple []) [] []) (sw [] rfl (x_U (.tuple []) [] [(2, (eGCursor c))]) (send (vp_start' (va 1 [(6, aI y1.2.2)] (ve (d_ret (rx hw (plr38 _)))))))))))
 refine d_skip (d_seqQ (ds (va 2 [(23, .agg (eGCursor y1.2.1)), (22, aU y1.1)] ?_)))
 obtain ⟨y2, hy, hw⟩ := hw
 refine vo rfl (x_call hy pl87) rfl (va 2 [(26, aB (decide ((wU y2) < y1.1)))] (ve (dw hw (fun _ hw => ?_) (fun _ hw => ?_))))
 ·exact d_seqQ (dS [(0, (eGCursor c))] (sa 1 2 [(28, .agg (eGCursor c)), (27, .agg zV)] (sw [] rfl (x_U (.tuple []) [] []) (send (vp_start' (vg 2 [(6, aI 4)] [] [(2, (eGCursor c))] (ve (d_ret (rx hw (plr38 _))))))))))
 refine d_skip (ds (va 3 [(32, aI (wI y1.1)), (30, .agg (eGCursor y1.2.1))] ?_))
 obtain ⟨y3, hy, hw⟩ := hw
 refine vo rfl (x_call hy pl88) rfl (vg 7 [(9, aI y3.2.2), (10, aS y3.1)] [] [(3, (eGCursor y3.2.1))] (ve (d_seqQ (ds (va 2 [(38, aB (y3.2.2 != 0))] (ve (dw hw (fun _ hw => ?_) (fun _ hw => ?_))))))))
 ·exact d_seqQ (dS [(0, (eGCursor c))] (sa 1 3 [(41, aI y3.2.2), (40, .agg (eGCursor c)), (39, .agg zV)] (sw [] rfl (x_U (.tuple []) [] []) (sw [] rfl (x_U (.tuple []) [] [(2, (eGCursor c))]) (send (vp_start' (va 1 [(6, aI y3.2.2)] (ve (d_ret (rx hw (plr38 _)))))))))))
 refine d_skip (d_seqQ (ds (va 3 [(44, aB (kind == 7))] ?_)))
 obtain ⟨R1, hR, hw⟩ := hw
 refine vr 44 48 7 (kind == 7) R1 (fun bz1 => aB bz1) km_d (fun bz1 hz => ?_) (fun key => ⟨fun hb5 => ?_, fun hb5 => ?_⟩)
 ·have hw := hR bz1 hz
  refine ve (dw hw (fun _ hw => ?_) (fun _ hw => ?_))
  ·exact d_seqQ (dS [(0, (eGCursor c))] (sa 1 2 [(50, .agg (eGCursor c)), (49, .agg zV)] (sw [] rfl (x_U (.tuple []) [] []) (send (vp_start' (vg 2 [(6, aI 7)] [] [(2, (eGCursor c))] (ve (d_ret (rx hw (plr38 _))))))))))
  exact d_skip (d_seqQ (dS [(3, (eGCursor y3.2.1))] (sa 4 4 [(54, .agg (eGCursor y3.2.1)), (53, .agg [aI kind, aU 0, aS y3.1, .nil, .nil, .nil, .nil])] (sw [] rfl (x_U (.tuple []) [] [(1, [aI kind, aU 0, aS y3.1, .nil, .nil, .nil, .nil])]) (send (vp_start' (vg 2 [(6, aI 0)] [] [(2, (eGCursor y3.2.1))] (ve (d_ret (rx hw (plr38 _)))))))))))
 ·have hw := hw.1 hb5
  refine va 1 [(45, aS y3.1)] ?_
  obtain ⟨y4, hy, hw⟩ := hw
  exact vo rfl (x_call hy pl89) rfl (va 1 [(47, aB (!y4))] (va 1 [(48, aB (!y4))] (vle km_d (key _ hw))))
 ·have hw := hw.2 hb5
  exact va 3 [(47, .tuple [])] (va 1 [(48, aB false)] (vle km_d (key _ hw)))
theorem plr39 (r : (Int × GCursor × Int)) : plain (e39 r) = true := (ptup (pcons rfl (pcons (pl_GCursor r.2.1) (pcons rfl rfl))))
def r39_0 : LO := [o 1 (bx 0), o 2 (.mv (.c (aC 0))), o 3 (.alloc [aE, (aI 0), (aI 0), (aI 0), (aI 0), (aI 0)]), o 4 (mi 0)]
def r39_1 : LO := [o 6 (ln 6 1), o 7 (.call (cf 90) [(T 6)]), o 5 (mv 7)]
def r39_2 : LO := [o 8 (mv 5), o 9 (.bin .eql (T 8) (.c aE))]
def r39_3 : LO := [o 10 (ln 6 1), o 2 (.mv (.c (aC 0)))]
def r39_3t : LO := [on (st 6 3 10), o 4 (mi 4)]
def r39_3o : LN := [[], []]
def k39_1 : ACode := .cond (T 9) (.seq (.drawn r39_3o r39_3 r39_3t) .ret) .skip
def k39_2 : ACode := .seq (.region r39_2) k39_1
def r39_9 : LO := [o 11 (mv 5), o 12 (.idxS (T 11) (ci 0)), o 13 (ln 6 1), o 14 (.call (cf 91) [(T 13), (ci 1)]), o 2 (mv 12)]
def r39_9t : LO := [on (st 6 3 14), o 4 (mi 0)]
def r39_9o : LN := [[], [0], [], [2], [0, 1, 3]]
def k39_3 : ACode := .seq (.drawn r39_9o r39_9 r39_9t) .ret
def k39_4 : ACode := .seq k39_2 k39_3
def k39_5 : ACode := .seq (.region r39_1) k39_4
def k39_6 : ACode := .seq (.region r39_0) k39_5
theorem fn39 : getFn Tryz.prog 39 = some (15, k39_6, [.tmp 2, .cell 3 (some 6), .tmp 4]) := by kernel_rfl
theorem ref02_Byte_step (c : GCursor) (r : (Int × GCursor × Int)) (hw : ∃ y1, ref02_rest c y1 /\ (((decide (y1 = (⟨#[]⟩ : ByteArray))) = true -> r = (0, c, 4)) /\ ((decide (y1 = (⟨#[]⟩ : ByteArray))) = false -> (0 <= (0 : Int) /\ (0 : Int) < (y1.size : Int)) /\ (∃ y2, ref02_behind c 1 y2 /\ (r = ((byteAt y1 (0 : Int).toNat), y2, 0)))))) : ref02_Byte c r := by
 refine f_pureD fn39 nle rfl (ds (vg 4 [(3, .ptr 1 0), (1, .ptr 0 0)] [(eGCursor c), [aE, aI 0, aI 0, aI 0, aI 0, aI 0]] [] (ve (ds (va 1 [(6, .agg (eGCursor c))] ?_)))))
 obtain ⟨y1, hy, hw⟩ := hw
 refine vo rfl (x_call hy pl90) rfl (va 1 [(5, aS y1)] (ve (d_seqQ (ds (va 1 [(8, aS y1)] (vo rfl (x_eqS y1 (⟨#[]⟩ : ByteArray)) rfl (ve (dw hw (fun _ hw => ?_) (fun _ hw => ?_)))))))))
 ·exact d_seqQ (dS [(0, (eGCursor c))] (sa 1 2 [(2, aC 0), (10, .agg (eGCursor c))] (send (vp_start' (vg 2 [(4, aI 4)] [] [(1, (eGCursor c))] (ve (d_ret (rx hw (plr39 _)))))))))
 refine d_skip (d_seqQ (dS [(0, (eGCursor c))] (sa 1 1 [(11, aS y1)] ?_)))
 obtain ⟨h0, hw⟩ := hw
 refine sq rfl (fun _ _ => x_idxS h0) rfl (sa 1 1 [(13, .agg (eGCursor c))] ?_)
 obtain ⟨y2, hy, hw⟩ := hw
 exact sq rfl (y_call hy pl91) rfl (sa 1 1 [(2, aC (byteAt y1 (0 : Int).toNat))] (send (vp_start' (vg 2 [(4, aI 0)] [] [(1, (eGCursor y2))] (ve (d_ret (rx hw (plr39 _))))))))
theorem plr40 (r : (Int × GCursor × Int)) : plain (e40 r) = true := (ptup (pcons rfl (pcons (pl_GCursor r.2.1) (pcons rfl rfl))))
def r40_0 : LO := [o 1 (bx 0), o 2 (.mv (.c (aU 0))), o 3 (.alloc [aE, (aI 0), (aI 0), (aI 0), (aI 0), (aI 0)]), o 4 (mi 0)]
def r40_1 : LO := [o 8 (ln 6 1), o 9 (.call (cf 90) [(T 8)]), o 5 (mv 9)]
def r40_2 : LO := [o 10 (mv 5), o 11 (.len true (T 10)), o 12 (.bin .lss (T 11) (ci 8))]
def r40_3 : LO := [o 13 (ln 6 1), o 2 (.mv (.c (aU 0)))]
def r40_3t : LO := [on (st 6 3 13), o 4 (mi 4)]
def r40_3o : LN := [[], []]
def k40_1 : ACode := .cond (T 12) (.seq (.drawn r40_3o r40_3 r40_3t) .ret) .skip
def k40_2 : ACode := .seq (.region r40_2) k40_1
def r40_9 : LO := [o 6 (.mv (.c (aU 0)))]
def r40_10 : LO := [o 7 (mi 7)]
def r40_11 : LO := [o 14 (mv 7), o 15 (.bin .geq (T 14) (ci 0))]
def k40_3 : ACode := .cond (T 15) .skip (.exit 0)
def r40_16 : LO := [o 18 (mv 6), o 19 (.bin .mul (T 18) (.c (aU 256))), o 20 (mv 5), o 21 (mv 7), o 22 (.idxS (T 20) (T 21)), o 23 (.conv (.num .u64) (T 22)), o 24 (.bin .add (T 19) (T 23)), o 6 (mv 24)]
def r40_18 : LO := [o 16 (mv 7), o 17 (.bin .sub (T 16) (ci 1)), o 7 (mv 17)]
def k40_4 : ACode := .seq (.block 1 (.region r40_16)) (.region r40_18)
def k40_5 : ACode := .seq (.seq (.region r40_11) k40_3) k40_4
def k40_6 : ACode := .block 0 (.loop k40_5)
def r40_24 : LO := [o 25 (mv 6), o 26 (ln 6 1), o 27 (.call (cf 91) [(T 26), (ci 8)]), o 2 (mv 25), on (st 6 3 27), o 4 (mi 0)]
def k40_7 : ACode := .seq (.region r40_24) .ret
def k40_8 : ACode := .seq (.seq (.region r40_10) k40_6) k40_7
def k40_9 : ACode := .seq (.region r40_9) k40_8
def k40_10 : ACode := .seq k40_2 k40_9
def k40_11 : ACode := .seq (.region r40_1) k40_10
def k40_12 : ACode := .seq (.region r40_0) k40_11
theorem fn40 : getFn Tryz.prog 40 = some (28, k40_12, [.tmp 2, .cell 3 (some 6), .tmp 4]) := by kernel_rfl
def q40_0 (r : (Int × GCursor × Int)) : QP := qret [.tmp 2, .cell 3 (some 6), .tmp 4] (e40 r)
def q40_7 (r : (Int × GCursor × Int)) : QP := tq Tryz.prog 28 k40_7 (q40_0 r)
def q40_9 (r : (Int × GCursor × Int)) : QP := inBlockA 0 (q40_7 r)
def ref02_Fixed_j2 (ij1 : Int) (ij2 : Int) (y1 : ByteArray) (c : GCursor) (r : (Int × GCursor × Int)) : Prop := DL Tryz.prog 28 0 0 k40_5 (q40_9 r) [(7, aI ij1), (6, aU ij2), (5, aS y1), (3, .ptr 1 0), (1, .ptr 0 0)] ⟨[some (eGCursor c), some [aE, aI 0, aI 0, aI 0, aI 0, aI 0]], [], []⟩
theorem ref02_Fixed_j2_step (ij1 : Int) (ij2 : Int) (y1 : ByteArray) (c : GCursor) (r : (Int × GCursor × Int)) (hw : ((decide (0 <= ij1)) = true -> (0 <= ij1 /\ ij1 < (y1.size : Int)) /\ (ref02_Fixed_j2 (wI (ij1 - 1)) (wU ((wU (ij2 * 256)) + (wU (byteAt y1 ij1.toNat)))) y1 c r)) /\ ((decide (0 <= ij1)) = false -> ∃ y2, ref02_behind c 8 y2 /\ (r = (ij2, y2, 0)))) : ref02_Fixed_j2 ij1 ij2 y1 c r := by
 refine dl_unroll (d_seqQ (ds (va 2 [(15, aB (decide (0 <= ij1)))] (ve (dw hw (fun _ hw => ?_) (fun _ hw => ?_))))))
 ·refine d_skip (d_seqQ (d_blockQ (dr (va 4 [(21, aI ij1), (20, aS y1), (19, aU (wU (ij2 * 256)))] ?_))))
  obtain ⟨h0, hw⟩ := hw
  exact vo rfl (x_idxS h0) rfl (va 3 [(6, aU (wU ((wU (ij2 * 256)) + (wU (byteAt y1 ij1.toNat)))))] (ve (dr (va 3 [(7, aI (wI (ij1 - 1)))] (ve (jl0 hw))))))
 refine d_exit (ds (va 2 [(26, .agg (eGCursor c)), (25, aU ij2)] ?_))
 obtain ⟨y2, hy, hw⟩ := hw
 exact vo rfl (x_call hy pl91) rfl (vg 3 [(4, aI 0), (2, aU ij2)] [] [(1, (eGCursor y2))] (ve (d_ret (rx hw (plr40 _)))))
theorem ref02_Fixed_step (c : GCursor) (r : (Int × GCursor × Int)) (hw : ∃ y1, ref02_rest c y1 /\ (((decide ((y1.size : Int) < 8)) = true -> r = (0, c, 4)) /\ ((decide ((y1.size : Int) < 8)) = false -> ref02_Fixed_j2 7 0 y1 c r))) : ref02_Fixed c r := by
 refine f_pureD fn40 nle rfl (ds (vg 4 [(3, .ptr 1 0), (1, .ptr 0 0)] [(eGCursor c), [aE, aI 0, aI 0, aI 0, aI 0, aI 0]] [] (ve (ds (va 1 [(8, .agg (eGCursor c))] ?_)))))
 obtain ⟨y1, hy, hw⟩ := hw
 refine vo rfl (x_call hy pl90) rfl (va 1 [(5, aS y1)] (ve (d_seqQ (ds (va 1 [(10, aS y1)] (vo rfl (x_lenS y1) rfl (va 1 [(12, aB (decide ((y1.size : Int) < 8)))] (ve (dw hw (fun _ hw => ?_) (fun _ hw => ?_))))))))))
 ·exact d_seqQ (dS [(0, (eGCursor c))] (sa 1 2 [(2, aU 0), (13, .agg (eGCursor c))] (send (vp_start' (vg 2 [(4, aI 4)] [] [(1, (eGCursor c))] (ve (d_ret (rx hw (plr40 _)))))))))
 exact d_skip (ds (va 1 [(6, aU 0)] (ve (d_seqQ (ds (va 1 [(7, aI 7)] (ve (d_blockQ (d_loopQ (jl0 hw))))))))))
theorem plr41 (r : GValue) : plain (e41 r) = true := (pl_GValue r)
def r41_0 : LO := [o 1 (bx 0), o 2 (.alloc zV)]
def r41_1 : LO := [o 3 (fa 0 1), o 4 (ld 3), o 5 (.bin .eql (T 4) (ci 6)), o 6 (mv 5), og 7 (fa 1 1) 6 true, og 8 (ld 7) 6 true, og 9 (.call (cf 92) [(T 8)]) 6 true, og 10 (.bin .eql (T 9) (ci 0)) 6 true, o 11 (.pick (T 6) (T 10) (cb false))]
def r41_2 : LO := [o 12 (fa 1 1), on (.store 1 (T 12) (.c (aU 9221120237041090560)))]
def k41_1 : ACode := .cond (T 11) (.region r41_2) .skip
def r41_6 : LO := [o 13 (ln 7 1), on (st 7 2 13)]
def k41_2 : ACode := .seq (.region r41_6) .ret
def k41_3 : ACode := .seq (.seq (.region r41_1) k41_1) k41_2
def k41_4 : ACode := .seq (.region r41_0) k41_3
theorem fn41 : getFn Tryz.prog 41 = some (14, k41_4, [.cell 2 (some 7)]) := by kernel_rfl
theorem ref04_Norm_step (v : GValue) (r : GValue) (hw : ((v.Kind == 6) = true -> ∃ y1, ref04_Class v.Bits y1 /\ (((y1 == 0) = true -> r = (⟨v.Kind, 9221120237041090560, v.Text, v.List_, v.Pairs, v.Slots, v.Raws⟩ : GValue)) /\ ((y1 == 0) = false -> r = v))) /\ ((v.Kind == 6) = false -> r = v)) : ref04_Norm v r := by
 refine f_pureD fn41 nle rfl (ds (vg 2 [(2, .ptr 1 0), (1, .ptr 0 0)] [(eGValue v), zV] [] (ve (d_seqQ (ds (va 4 [(6, aB (v.Kind == 6))] (vw2 6 hw (fun _ hw => ?_) (fun _ hw => ?_))))))))
 ·refine va 2 [(8, aU v.Bits)] ?_
  obtain ⟨y1, hy, hw⟩ := hw
  refine vo rfl (x_call hy pl92) rfl (va 2 [(11, aB (y1 == 0))] (ve (dw hw (fun _ hw => ?_) (fun _ hw => ?_))))
  ·exact dr (vg 2 [] [] [(0, [aI v.Kind, aU 9221120237041090560, aS v.Text, .sl (List.map eGValue' v.List_) .no, .sl (List.map eGPair' v.Pairs) .no, .sl (List.map eGSlot' v.Slots) .no, .sl (List.map eGRaw v.Raws) .no])] (ve (ds (vg 2 [] [] [(1, [aI v.Kind, aU 9221120237041090560, aS v.Text, .sl (List.map eGValue' v.List_) .no, .sl (List.map eGPair' v.Pairs) .no, .sl (List.map eGSlot' v.Slots) .no, .sl (List.map eGRaw v.Raws) .no])] (ve (d_ret (rx hw (plr41 _))))))))
  exact d_skip (ds (vg 2 [] [] [(1, (eGValue v))] (ve (d_ret (rx hw (plr41 _))))))
 exact va 5 [(11, aB false)] (ve (df (d_skip (ds (vg 2 [] [] [(1, (eGValue v))] (ve (d_ret (rx hw (plr41 _)))))))))
end
section
attribute [-simp] List.map_take List.map_drop List.map_append List.map_set List.map_replicate List.map_cons List.map_map
attribute [local simp] plain plainL lowE lowB keepB low lowL lowLL plm_I_i8 plm_I_i16 plm_I_i32 plm_I_i64 plm_I_u8 plm_I_u16 plm_I_u32 plm_I_u64 plm_Bool plm_Str gfn_fi gfn_cap plm_Fn pl_GOp plm_GOp pl_GProg plm_GProg pl_GRaw plm_GRaw pl_GValue plm_GValue pl_GPair plm_GPair pl_GSlot plm_GSlot pl_GNote plm_GNote pl_GItem plm_GItem pl_GSpan plm_GSpan pl_GEnum plm_GEnum pl_GPlan plm_GPlan pl_GS26 plm_GS26 pl_GCursor plm_GCursor pl_GLimits eI_i8 eI_i16 eI_i32 eI_i64 eI_u8 eI_u16 eI_u32 eI_u64 eBool eStr eFn lwr_Bool lwm_I_u8 lwm_GEnum lwc_GValue lwc_GEnum lwc_GPlan lwc_GCursor
theorem plr42 (r : Bool) : plain (e42 r) = true := rfl
def r42_0 : LO := [o 2 (mb false)]
def r42_1 : LO := [o 3 (mv 0), o 4 (.bin .geq (T 3) (ci 1)), o 5 (mv 4), og 6 (mv 0) 5 true, og 7 (.bin .leq (T 6) (ci 9)) 5 true, o 8 (.pick (T 5) (T 7) (cb false)), o 2 (mv 8)]
def k42_1 : ACode := .seq (.region r42_1) .ret
def k42_2 : ACode := .seq (.region r42_0) k42_1
theorem fn42 : getFn Tryz.prog 42 = some (9, k42_2, [.tmp 2]) := by kernel_rfl
theorem ref04_Is_step (kind : Int) (r : Bool) (hw : r = ((decide (1 <= kind)) && (decide (kind <= 9)))) : ref04_Is kind r := by
 refine f_pureD fn42 nle rfl (ds (va 1 [] (ve (ds (va 3 [(5, aB (decide (1 <= kind)))] (vj 5 8 6 (decide (1 <= kind)) (fun z => aB (z && (decide (kind <= 9)))) km_d (fun _ key => ?_) (fun _ key => ?_) ?_))))))
 ·exact va 2 [(7, aB (decide (kind <= 9)))] (va 1 [(8, aB (decide (kind <= 9)))] (vle km_d key))
 ·exact va 2 [(7, .tuple [])] (va 1 [(8, aB false)] (vle km_d key))
 exact va 1 [(2, aB ((decide (1 <= kind)) && (decide (kind <= 9))))] (ve (d_ret (rx hw (plr42 _))))
theorem plr43 (r : (Int × GCursor × Int)) : plain (e43 r) = true := (ptup (pcons rfl (pcons (pl_GCursor r.2.1) (pcons rfl rfl))))
def r43_0 : LO := [o 1 (bx 0), o 2 (.mv (.c (aU 0))), o 3 (.alloc [aE, (aI 0), (aI 0), (aI 0), (aI 0), (aI 0)]), o 4 (mi 0)]
def r43_1 : LO := [o 9 (ln 6 1), o 10 (.call (cf 93) [(T 9)]), o 8 (mv 10), o 11 (.extract 0 (T 8)), o 12 (.extract 1 (T 8)), o 13 (.extract 2 (T 8)), o 6 (.alloc [aE, (aI 0), (aI 0), (aI 0), (aI 0), (aI 0)]), o 5 (mv 11), on (st 6 6 12), o 7 (mv 13)]
def r43_2 : LO := [o 14 (mv 7), o 15 (.bin .neq (T 14) (ci 0))]
def r43_3 : LO := [o 16 (ln 6 1), o 17 (mv 7), o 2 (.mv (.c (aU 0))), on (st 6 3 16)]
def r43_3t : LO := [o 4 (mv 17)]
def r43_3o : LN := [[], [], [], [0, 2]]
def k43_1 : ACode := .cond (T 15) (.seq (.drawn r43_3o r43_3 r43_3t) .ret) .skip
def k43_2 : ACode := .seq (.region r43_2) k43_1
def r43_9 : LO := [o 18 (fa 1 6), o 19 (ld 18), o 20 (fa 1 1), o 21 (ld 20), o 22 (.bin .sub (T 19) (T 21)), o 23 (mv 5), o 24 (.call (cf 94) [(T 23)]), o 25 (.bin .neq (T 22) (T 24))]
def r43_9t : LO := []
def r43_9o : LN := [[], [0], [], [2], [1, 3], [], [5], [4, 6]]
def r43_10 : LO := [o 26 (ln 6 1), o 2 (.mv (.c (aU 0)))]
def r43_10t : LO := [on (st 6 3 26), o 4 (mi 5)]
def r43_10o : LN := [[], []]
def k43_3 : ACode := .cond (T 25) (.seq (.drawn r43_10o r43_10 r43_10t) .ret) .skip
def r43_16 : LO := [o 27 (mv 5), o 28 (ln 6 6), o 2 (mv 27)]
def r43_16t : LO := [on (st 6 3 28), o 4 (mi 0)]
def r43_16o : LN := [[], [], [0]]
def k43_4 : ACode := .seq (.drawn r43_16o r43_16 r43_16t) .ret
def k43_5 : ACode := .seq (.seq (.drawn r43_9o r43_9 r43_9t) k43_3) k43_4
def k43_6 : ACode := .seq k43_2 k43_5
def k43_7 : ACode := .seq (.region r43_1) k43_6
def k43_8 : ACode := .seq (.region r43_0) k43_7
theorem fn43 : getFn Tryz.prog 43 = some (29, k43_8, [.tmp 2, .cell 3 (some 6), .tmp 4]) := by kernel_rfl
theorem ref28_number_step (c : GCursor) (r : (Int × GCursor × Int)) (hw : ∃ y1, ref02_Varint c y1 /\ (((y1.2.2 != 0) = true -> r = (0, c, y1.2.2)) /\ ((y1.2.2 != 0) = false -> ∃ y2, ref01_Len y1.1 y2 /\ ((((wI (y1.2.1.At - c.At)) != y2) = true -> r = (0, c, 5)) /\ (((wI (y1.2.1.At - c.At)) != y2) = false -> r = (y1.1, y1.2.1, 0)))))) : ref28_number c r := by
 refine f_pureD fn43 nle rfl (ds (vg 4 [(3, .ptr 1 0), (1, .ptr 0 0)] [(eGCursor c), [aE, aI 0, aI 0, aI 0, aI 0, aI 0]] [] (ve (ds (va 1 [(9, .agg (eGCursor c))] ?_)))))
 obtain ⟨y1, hy, hw⟩ := hw
 refine vo rfl (x_call hy pl93) rfl (vg 8 [(7, aI y1.2.2), (5, aU y1.1), (6, .ptr 2 0)] [(eGCursor y1.2.1)] [] (ve (d_seqQ (ds (va 2 [(15, aB (y1.2.2 != 0))] (ve (dw hw (fun _ hw => ?_) (fun _ hw => ?_))))))))
 ·exact d_seqQ (dS [(0, (eGCursor c))] (sa 1 3 [(2, aU 0), (17, aI y1.2.2), (16, .agg (eGCursor c))] (sw [] rfl (x_U (.tuple []) [] [(1, (eGCursor c))]) (send (vp_start' (va 1 [(4, aI y1.2.2)] (ve (d_ret (rx hw (plr43 _))))))))))
 refine d_skip (d_seqQ (d_seqQ (dS [(0, (eGCursor c)), (2, (eGCursor y1.2.1))] (sa 3 6 [(23, aU y1.1), (22, aI (wI (y1.2.1.At - c.At)))] ?_))))
 obtain ⟨y2, hy, hw⟩ := hw
 refine sq rfl (y_call hy pl94) rfl (sa 3 1 [(25, aB ((wI (y1.2.1.At - c.At)) != y2))] (send (vp_start' (ve (dw hw (fun _ hw => ?_) (fun _ hw => ?_))))))
 ·exact d_seqQ (dS [(0, (eGCursor c))] (sa 1 2 [(2, aU 0), (26, .agg (eGCursor c))] (send (vp_start' (vg 2 [(4, aI 5)] [] [(1, (eGCursor c))] (ve (d_ret (rx hw (plr43 _)))))))))
 exact d_skip (d_seqQ (dS [(2, (eGCursor y1.2.1))] (sa 3 3 [(2, aU y1.1), (28, .agg (eGCursor y1.2.1))] (send (vp_start' (vg 2 [(4, aI 0)] [] [(1, (eGCursor y1.2.1))] (ve (d_ret (rx hw (plr43 _))))))))))
theorem plr44 (r : Int) : plain (e44 r) = true := rfl
def r44_0 : LO := [o 2 (mi 0)]
def r44_1 : LO := [o 3 (mv 0), o 4 (.bin .rem (T 3) (.c (aU 2))), o 5 (.bin .eql (T 4) (.c (aU 0)))]
def r44_2 : LO := [o 6 (mv 0), o 7 (.bin .quo (T 6) (.c (aU 2))), o 8 (.conv (.num .i64) (T 7)), o 2 (mv 8)]
def k44_1 : ACode := .cond (T 5) (.seq (.region r44_2) .ret) .skip
def k44_2 : ACode := .seq (.region r44_1) k44_1
def r44_8 : LO := [o 9 (mv 0), o 10 (.bin .quo (T 9) (.c (aU 2))), o 11 (.conv (.num .i64) (T 10)), o 12 (.un .neg (T 11)), o 13 (.bin .sub (T 12) (ci 1)), o 2 (mv 13)]
def k44_3 : ACode := .seq (.region r44_8) .ret
def k44_4 : ACode := .seq k44_2 k44_3
def k44_5 : ACode := .seq (.region r44_0) k44_4
theorem fn44 : getFn Tryz.prog 44 = some (14, k44_5, [.tmp 2]) := by kernel_rfl
theorem ref01_Zag_step (u : Int) (r : Int) (hw : (((u.tmod 2) == 0) = true -> r = (wI (wU (u.tdiv 2)))) /\ (((u.tmod 2) == 0) = false -> r = (wI ((wI (0 - (wI (wU (u.tdiv 2))))) - 1)))) : ref01_Zag u r := by
 refine f_pureD fn44 nle rfl (ds (va 1 [] (ve (d_seqQ (ds (va 3 [(5, aB ((u.tmod 2) == 0))] (ve (dw hw (fun _ hw => ?_) (fun _ hw => ?_)))))))))
 ·exact ds (va 4 [(2, aI (wI (wU (u.tdiv 2))))] (ve (d_ret (rx hw (plr44 _)))))
 exact d_skip (ds (va 6 [(2, aI (wI ((wI (0 - (wI (wU (u.tdiv 2))))) - 1)))] (ve (d_ret (rx hw (plr44 _))))))
theorem plr45 (r : Bool) : plain (e45 r) = true := rfl
def r45_0 : LO := [o 3 (bx 1), o 4 (mb false)]
def r45_1 : LO := [o 6 (mv 0), o 7 (.call (cf 42) [(T 6)]), o 8 (.un .not (T 7)), o 9 (mv 8), og 10 (fa 0 3) 9 false, og 11 (ld 10) 9 false, og 12 (mv 0) 9 false, og 13 (.bin .neq (T 11) (T 12)) 9 false, o 14 (.pick (T 9) (cb true) (T 13)), o 15 (mv 14), og 16 (ln 7 3) 15 false, og 17 (.call (cf 95) [(T 16)]) 15 false, og 18 (.un .not (T 17)) 15 false, o 19 (.pick (T 15) (cb true) (T 18))]
def r45_2 : LO := [o 4 (mb false)]
def k45_1 : ACode := .cond (T 19) (.seq (.region r45_2) .ret) .skip
def k45_2 : ACode := .seq (.region r45_1) k45_1
def r45_8 : LO := [o 20 (mv 0), o 21 (.call (cf 96) [(T 20)])]
def r45_9 : LO := [o 22 (fa 1 3), o 23 (ld 22), o 24 (.bin .eql (T 23) (.c (aU 0))), o 25 (mv 24), og 26 (fa 2 3) 25 true, og 27 (ld 26) 25 true, og 28 (.len true (T 27)) 25 true, og 29 (.bin .leq (T 28) (ci 4096)) 25 true, o 30 (.pick (T 25) (T 29) (cb false)), o 31 (mv 30), og 32 (mv 0) 31 true, og 33 (.bin .eql (T 32) (ci 8)) 31 true, og 34 (mv 33) 31 true, og 35 (fa 2 3) 34 false, og 36 (ld 35) 34 false, og 37 (.call (cf 89) [(T 36)]) 34 false, og 38 (.pick (T 34) (cb true) (T 37)) 31 true, o 39 (.pick (T 31) (T 38) (cb false)), o 4 (mv 39)]
def k45_3 : ACode := .cond (T 21) (.seq (.region r45_9) .ret) .skip
def k45_4 : ACode := .seq (.region r45_8) k45_3
def r45_15 : LO := [o 40 (fa 2 3), o 41 (ld 40), o 42 (.bin .neq (T 41) (.c aE))]
def r45_16 : LO := [o 4 (mb false)]
def k45_5 : ACode := .cond (T 42) (.seq (.region r45_16) .ret) .skip
def k45_6 : ACode := .seq (.region r45_15) k45_5
def r45_22 : LO := [o 43 (mv 0)]
def r45_23 : LO := [o 45 (.bin .eql (T 43) (ci 1)), o 44 (mv 45)]
def r45_24 : LO := [o 46 (fa 1 3), o 47 (ld 46), o 48 (.bin .leq (T 47) (.c (aU 1))), o 4 (mv 48)]
def r45_27 : LO := [o 50 (.bin .eql (T 43) (ci 2)), o 49 (mv 50)]
def r45_28 : LO := [o 51 (fa 1 3), o 52 (ld 51), o 53 (.conv (.num .i64) (T 52)), o 5 (mv 53)]
def r45_29 : LO := [o 54 (mv 5), o 55 (.bin .geq (T 54) (ci (-2147483648))), o 56 (mv 55), og 57 (mv 5) 56 true, og 58 (.bin .leq (T 57) (ci 2147483647)) 56 true, o 59 (.pick (T 56) (T 58) (cb false)), o 4 (mv 59)]
def k45_7 : ACode := .seq (.region r45_29) .ret
def r45_33 : LO := [o 61 (.bin .eql (T 43) (ci 4)), o 60 (mv 61)]
def r45_34 : LO := [o 62 (fa 1 3), o 63 (ld 62), o 64 (.bin .lss (T 63) (.c (aU 4294967296))), o 4 (mv 64)]
def r45_37 : LO := [o 66 (.bin .eql (T 43) (ci 9)), o 65 (mv 66)]
def r45_38 : LO := [o 67 (fa 1 3), o 68 (ld 67), o 69 (.bin .lss (T 68) (.c (aU 2147483648))), o 4 (mv 69)]
def k45_8 : ACode := .cond (T 65) (.seq (.region r45_38) .ret) .skip
def k45_9 : ACode := .seq (.region r45_37) k45_8
def k45_10 : ACode := .cond (T 60) (.seq (.region r45_34) .ret) k45_9
def k45_11 : ACode := .seq (.region r45_33) k45_10
def k45_12 : ACode := .cond (T 49) (.seq (.region r45_28) k45_7) k45_11
def k45_13 : ACode := .cond (T 44) (.seq (.region r45_24) .ret) (.seq (.region r45_27) k45_12)
def k45_14 : ACode := .block 0 (.seq (.region r45_23) k45_13)
def k45_15 : ACode := .seq (.region r45_22) k45_14
def r45_52 : LO := [o 4 (mb true)]
def k45_16 : ACode := .seq (.region r45_52) .ret
def k45_17 : ACode := .seq k45_15 k45_16
def k45_18 : ACode := .seq k45_6 k45_17
def k45_19 : ACode := .seq k45_4 k45_18
def k45_20 : ACode := .seq k45_2 k45_19
def k45_21 : ACode := .seq (.region r45_0) k45_20
theorem fn45 : getFn Tryz.prog 45 = some (70, k45_21, [.tmp 4]) := by kernel_rfl
theorem ref04_Fits_step (kind : Int) (v : GValue) (r : Bool) (hw : ∃ y1, ref04_Is kind y1 /\ (∃ R1 : Bool -> Prop, (∀ bz1 : Bool, R1 bz1 -> ((bz1 = true -> r = false) /\ (bz1 = false -> ∃ y3, ref04_texts kind y3 /\ ((y3 = true -> ∃ R2 : Bool -> Prop, (∀ bz2 : Bool, R2 bz2 -> (r = bz2)) /\ ((((v.Bits == 0) && (decide ((v.Text.size : Int) <= 4096))) = true -> ∃ R3 : Bool -> Prop, (∀ bz3 : Bool, R3 bz3 -> (R2 bz3)) /\ (((kind == 8) = true -> R3 true) /\ ((kind == 8) = false -> ∃ y4, ref03_Valid v.Text y4 /\ (R3 y4)))) /\ (((v.Bits == 0) && (decide ((v.Text.size : Int) <= 4096))) = false -> R2 false))) /\ (y3 = false -> ((!(decide (v.Text = (⟨#[]⟩ : ByteArray)))) = true -> r = false) /\ ((!(decide (v.Text = (⟨#[]⟩ : ByteArray)))) = false -> ((kind == 1) = true -> r = (decide (v.Bits <= 1))) /\ ((kind == 1) = false -> ((kind == 2) = true -> r = ((decide ((-2147483648) <= (wI v.Bits))) && (decide ((wI v.Bits) <= 2147483647)))) /\ ((kind == 2) = false -> ((kind == 4) = true -> r = (decide (v.Bits < 4294967296))) /\ ((kind == 4) = false -> ((kind == 9) = true -> r = (decide (v.Bits < 2147483648))) /\ ((kind == 9) = false -> r = true)))))))))) /\ ((((!y1) || (v.Kind != kind)) = true -> R1 true) /\ (((!y1) || (v.Kind != kind)) = false -> ∃ y2, ref04_lone v y2 /\ (R1 (!y2)))))) : ref04_Fits kind v r := by
 refine f_pureD fn45 nle rfl (ds (vg 2 [(3, .ptr 0 0)] [(eGValue v)] [] (ve (d_seqQ (ds (va 1 [(6, aI kind)] ?_))))))
 obtain ⟨y1, hy, hw⟩ := hw
 refine vo rfl (x_call hy pl42) rfl (va 2 [(9, aB (!y1))] (vj 9 14 9 (!y1) (fun z => aB (z || (v.Kind != kind))) km_d (fun _ key => ?_) (fun _ key => ?_) ?_))
 ·exact va 4 [(13, .tuple [])] (va 1 [(14, aB true)] (vle km_d key))
 ·exact va 4 [(13, aB (v.Kind != kind))] (va 1 [(14, aB (v.Kind != kind))] (vle km_d key))
 refine va 1 [(15, aB ((!y1) || (v.Kind != kind)))] ?_
 obtain ⟨R1, hR, hw⟩ := hw
 refine vr 15 19 14 ((!y1) || (v.Kind != kind)) R1 (fun bz1 => aB bz1) km_d (fun bz1 hz => ?_) (fun key => ⟨fun hb3 => ?_, fun hb3 => ?_⟩)
 ·have hw := hR bz1 hz
  refine ve (dw hw (fun _ hw => ?_) (fun _ hw => ?_))
  ·exact ds (va 1 [(4, aB false)] (ve (d_ret (rx hw (plr45 _)))))
  refine d_skip (d_seqQ (ds (va 1 [(20, aI kind)] ?_)))
  obtain ⟨y3, hy, hw⟩ := hw
  refine vo rfl (x_call hy pl96) rfl (ve (dw hw (fun _ hw => ?_) (fun _ hw => ?_)))
  ·refine ds (va 4 [(25, aB (v.Bits == 0))] (vj 25 30 9 (v.Bits == 0) (fun z => aB (z && (decide ((v.Text.size : Int) <= 4096)))) km_d (fun _ key => ?_) (fun _ key => ?_) ?_))
   ·exact va 2 [(27, aS v.Text)] (vo rfl (x_lenS v.Text) rfl (va 1 [(29, aB (decide ((v.Text.size : Int) <= 4096)))] (va 1 [(30, aB (decide ((v.Text.size : Int) <= 4096)))] (vle km_d key))))
   ·exact va 4 [(29, .tuple [])] (va 1 [(30, aB false)] (vle km_d key))
   refine va 1 [(31, aB ((v.Bits == 0) && (decide ((v.Text.size : Int) <= 4096))))] ?_
   obtain ⟨R2, hR, hw⟩ := hw
   refine vr 31 39 18 ((v.Bits == 0) && (decide ((v.Text.size : Int) <= 4096))) R2 (fun bz2 => aB bz2) km_d (fun bz2 hz => ?_) (fun key => ⟨fun hb9 => ?_, fun hb9 => ?_⟩)
   ·have hw := hR bz2 hz
    exact va 1 [(4, aB bz2)] (ve (d_ret (rx hw (plr45 _))))
   ·have hw := hw.1 hb9
    refine va 3 [(34, aB (kind == 8))] ?_
    obtain ⟨R3, hR, hw⟩ := hw
    refine vr 34 38 17 (kind == 8) R3 (fun bz3 => aB bz3) km_d (fun bz3 hz => ?_) (fun key => ⟨fun hb11 => ?_, fun hb11 => ?_⟩)
    ·have hw := hR bz3 hz
     exact va 1 [(39, aB bz3)] (vle km_d (key _ hw))
    ·have hw := hw.1 hb11
     exact va 3 [(37, .tuple [])] (va 1 [(38, aB true)] (vle km_d (key _ hw)))
    ·have hw := hw.2 hb11
     refine va 2 [(36, aS v.Text)] ?_
     obtain ⟨y4, hy, hw⟩ := hw
     exact vo rfl (x_call hy pl89) rfl (va 1 [(38, aB y4)] (vle km_d (key _ hw)))
   ·have hw := hw.2 hb9
    exact va 7 [(38, .tuple [])] (va 1 [(39, aB false)] (vle km_d (key _ hw)))
  refine d_skip (d_seqQ (ds (va 2 [(41, aS v.Text)] (vo rfl (x_neS v.Text (⟨#[]⟩ : ByteArray)) rfl (ve (dw hw (fun _ hw => ?_) (fun _ hw => ?_)))))))
  ·exact ds (va 1 [(4, aB false)] (ve (d_ret (rx hw (plr45 _)))))
  refine d_skip (d_seqQ (ds (va 1 [(43, aI kind)] (ve (d_blockQ (ds (va 2 [(44, aB (kind == 1))] (ve (dw hw (fun _ hw => ?_) (fun _ hw => ?_))))))))))
  ·exact ds (va 4 [(4, aB (decide (v.Bits <= 1)))] (ve (d_ret (rx hw (plr45 _)))))
  refine ds (va 2 [(49, aB (kind == 2))] (ve (dw hw (fun _ hw => ?_) (fun _ hw => ?_))))
  ·refine ds (va 4 [(5, aI (wI v.Bits))] (ve (ds (va 3 [(56, aB (decide ((-2147483648) <= (wI v.Bits))))] (vj 56 59 6 (decide ((-2147483648) <= (wI v.Bits))) (fun z => aB (z && (decide ((wI v.Bits) <= 2147483647)))) km_d (fun _ key => ?_) (fun _ key => ?_) ?_)))))
   ·exact va 2 [(58, aB (decide ((wI v.Bits) <= 2147483647)))] (va 1 [(59, aB (decide ((wI v.Bits) <= 2147483647)))] (vle km_d key))
   ·exact va 2 [(58, .tuple [])] (va 1 [(59, aB false)] (vle km_d key))
   exact va 1 [(4, aB ((decide ((-2147483648) <= (wI v.Bits))) && (decide ((wI v.Bits) <= 2147483647))))] (ve (d_ret (rx hw (plr45 _))))
  refine ds (va 2 [(60, aB (kind == 4))] (ve (dw hw (fun _ hw => ?_) (fun _ hw => ?_))))
  ·exact ds (va 4 [(4, aB (decide (v.Bits < 4294967296)))] (ve (d_ret (rx hw (plr45 _)))))
  refine ds (va 2 [(65, aB (kind == 9))] (ve (dw hw (fun _ hw => ?_) (fun _ hw => ?_))))
  ·exact ds (va 4 [(4, aB (decide (v.Bits < 2147483648)))] (ve (d_ret (rx hw (plr45 _)))))
  exact d_skip (ds (va 1 [(4, aB true)] (ve (d_ret (rx hw (plr45 _))))))
 ·have hw := hw.1 hb3
  exact va 3 [(18, .tuple [])] (va 1 [(19, aB true)] (vle km_d (key _ hw)))
 ·have hw := hw.2 hb3
  refine va 1 [(16, .agg (eGValue v))] ?_
  obtain ⟨y2, hy, hw⟩ := hw
  exact vo rfl (x_call hy pl95) rfl (va 1 [(18, aB (!y2))] (va 1 [(19, aB (!y2))] (vle km_d (key _ hw))))
theorem plr46 (r : Bool) : plain (e46 r) = true := rfl
def r46_0 : LO := [o 3 (bx 0), o 6 (mb false)]
def r46_1 : LO := [o 9 (mv 1), o 10 (.bin .lss (T 9) (ci 0)), o 11 (mv 10), og 12 (mv 1) 11 false, og 13 (fa 1 3) 11 false, og 14 (ld 13) 11 false, og 15 (.len false (T 14)) 11 false, og 16 (.bin .geq (T 12) (T 15)) 11 false, o 17 (.pick (T 11) (cb true) (T 16)), o 18 (mv 17), og 19 (mv 2) 18 false, og 20 (.bin .gtr (T 19) (.c (aU 2147483647))) 18 false, o 21 (.pick (T 18) (cb true) (T 20))]
def r46_2 : LO := [o 6 (mb false)]
def k46_1 : ACode := .cond (T 21) (.seq (.region r46_2) .ret) .skip
def k46_2 : ACode := .seq (.region r46_1) k46_1
def r46_8 : LO := [o 22 (fa 1 3), o 23 (ld 22), o 24 (mv 1), o 25 (.idxSl 5 (T 23) (T 24)), o 26 (fa 1 25), o 27 (ld 26), o 7 (mv 27)]
def r46_9 : LO := [o 8 (mi 0)]
def r46_10 : LO := [o 28 (mv 8), o 29 (fa 1 3), o 30 (ld 29), o 31 (mv 1), o 32 (.idxSl 5 (T 30) (T 31)), o 33 (fa 2 32), o 34 (ld 33), o 35 (.len false (T 34)), o 36 (.bin .lss (T 28) (T 35))]
def k46_3 : ACode := .cond (T 36) .skip (.exit 0)
def r46_15 : LO := [o 39 (mv 7), o 40 (mv 39), og 41 (fa 1 3) 40 false, og 42 (ld 41) 40 false, og 43 (mv 1) 40 false, og 44 (.idxSl 5 (T 42) (T 43)) 40 false, og 45 (fa 2 44) 40 false, og 46 (ld 45) 40 false, og 47 (mv 8) 40 false, og 48 (.idxSl 3 (T 46) (T 47)) 40 false, og 49 (fa 1 48) 40 false, og 50 (ld 49) 40 false, og 51 (mv 2) 40 false, og 52 (.conv (.num .i64) (T 51)) 40 false, og 53 (.bin .eql (T 50) (T 52)) 40 false, o 54 (.pick (T 40) (cb true) (T 53)), o 7 (mv 54)]
def r46_17 : LO := [o 37 (mv 8), o 38 (.bin .add (T 37) (ci 1)), o 8 (mv 38)]
def k46_4 : ACode := .seq (.block 1 (.region r46_15)) (.region r46_17)
def k46_5 : ACode := .seq (.seq (.region r46_10) k46_3) k46_4
def k46_6 : ACode := .block 0 (.loop k46_5)
def r46_23 : LO := [o 55 (mv 7), o 6 (mv 55)]
def k46_7 : ACode := .seq (.region r46_23) .ret
def k46_8 : ACode := .seq (.seq (.region r46_9) k46_6) k46_7
def k46_9 : ACode := .seq (.region r46_8) k46_8
def k46_10 : ACode := .seq k46_2 k46_9
def k46_11 : ACode := .seq (.region r46_0) k46_10
theorem fn46 : getFn Tryz.prog 46 = some (56, k46_11, [.tmp 6]) := by kernel_rfl
def q46_0 (r : Bool) : QP := qret [.tmp 6] (e46 r)
def q46_6 (r : Bool) : QP := tq Tryz.prog 56 k46_7 (q46_0 r)
def q46_8 (r : Bool) : QP := inBlockA 0 (q46_6 r)
def ref22_Accepts_j2 (ij1 : Int) (bj2 : Bool) (enum : Int) (num : Int) (p : GPlan) (r : Bool) : Prop := DL Tryz.prog 56 0 0 k46_5 (q46_8 r) [(8, aI ij1), (7, aB bj2), (3, .ptr 0 0), (1, aI enum), (2, aU num)] ⟨[some (eGPlan p)], [], []⟩
theorem ref22_Accepts_j2_step (ij1 : Int) (bj2 : Bool) (enum : Int) (num : Int) (p : GPlan) (r : Bool) (hw : ∃ y6, p.Enums[enum.toNat]? = some y6 /\ 0 <= enum /\ (((decide (ij1 < (y6.Items.length : Int))) = true -> (bj2 = true -> ref22_Accepts_j2 (wI (ij1 + 1)) true enum num p r) /\ (bj2 = false -> ∃ y8, p.Enums[enum.toNat]? = some y8 /\ 0 <= enum /\ (∃ y9, y8.Items[ij1.toNat]? = some y9 /\ 0 <= ij1 /\ (ref22_Accepts_j2 (wI (ij1 + 1)) (y9.Num == (wI num)) enum num p r)))) /\ ((decide (ij1 < (y6.Items.length : Int))) = false -> r = bj2))) : ref22_Accepts_j2 ij1 bj2 enum num p r := by
 refine dl_unroll (d_seqQ (ds (va 4 [(31, aI enum), (30, .sl (List.map eGEnum p.Enums) .no), (28, aI ij1)] ?_)))
 obtain ⟨y6, hy, h0, hw⟩ := hw
 refine vo rfl (x_idx h0 hy (rfl : eGEnum y6 = eGEnum y6)) rfl (va 2 [(34, .sl (List.map eGItem y6.Items) .no)] (vo rfl (x_len y6.Items eGItem) rfl (va 1 [(36, aB (decide (ij1 < (y6.Items.length : Int))))] (ve (dw hw (fun _ hw => ?_) (fun _ hw => ?_))))))
 ·refine d_skip (d_seqQ (d_blockQ (dr (va 2 [(40, aB bj2)] (vw2 40 hw (fun _ hw => ?_) (fun _ hw => ?_))))))
  ·exact va 15 [(7, aB true)] (ve (dr (va 3 [(8, aI (wI (ij1 + 1)))] (ve (jl0 hw)))))
  refine va 3 [(43, aI enum), (42, .sl (List.map eGEnum p.Enums) .no)] ?_
  obtain ⟨y8, hy, h0, hw⟩ := hw
  refine vo rfl (x_idx h0 hy (rfl : eGEnum y8 = eGEnum y8)) rfl (va 3 [(47, aI ij1), (46, .sl (List.map eGItem y8.Items) .no)] ?_)
  obtain ⟨y9, hy, h0, hw⟩ := hw
  exact vo rfl (x_idx h0 hy (rfl : eGItem y9 = eGItem y9)) rfl (va 7 [(7, aB (y9.Num == (wI num)))] (ve (dr (va 3 [(8, aI (wI (ij1 + 1)))] (ve (jl0 hw))))))
 exact d_exit (ds (va 2 [(6, aB bj2)] (ve (d_ret (rx hw (plr46 _))))))
theorem ref22_Accepts_step (p : GPlan) (enum : Int) (num : Int) (r : Bool) (hw : ((((decide (enum < 0)) || (decide ((p.Enums.length : Int) <= enum))) || (decide (2147483647 < num))) = true -> r = false) /\ ((((decide (enum < 0)) || (decide ((p.Enums.length : Int) <= enum))) || (decide (2147483647 < num))) = false -> ∃ y1, p.Enums[enum.toNat]? = some y1 /\ 0 <= enum /\ (ref22_Accepts_j2 0 y1.Open enum num p r))) : ref22_Accepts p enum num r := by
 refine f_pureD fn46 nle rfl (ds (vg 2 [(3, .ptr 0 0)] [(eGPlan p)] [] (ve (d_seqQ (ds (va 3 [(11, aB (decide (enum < 0)))] (vj 11 17 9 (decide (enum < 0)) (fun z => aB (z || (decide ((p.Enums.length : Int) <= enum)))) km_d (fun _ key => ?_) (fun _ key => ?_) ?_)))))))
 ·exact va 5 [(16, .tuple [])] (va 1 [(17, aB true)] (vle km_d key))
 ·exact va 3 [(14, .sl (List.map eGEnum p.Enums) .no), (12, aI enum)] (vo rfl (x_len p.Enums eGEnum) rfl (va 1 [(16, aB (decide ((p.Enums.length : Int) <= enum)))] (va 1 [(17, aB (decide ((p.Enums.length : Int) <= enum)))] (vle km_d key))))
 refine va 1 [(18, aB ((decide (enum < 0)) || (decide ((p.Enums.length : Int) <= enum))))] (vj 18 21 13 ((decide (enum < 0)) || (decide ((p.Enums.length : Int) <= enum))) (fun z => aB (z || (decide (2147483647 < num)))) km_d (fun _ key => ?_) (fun _ key => ?_) ?_)
 ·exact va 2 [(20, .tuple [])] (va 1 [(21, aB true)] (vle km_d key))
 ·exact va 2 [(20, aB (decide (2147483647 < num)))] (va 1 [(21, aB (decide (2147483647 < num)))] (vle km_d key))
 refine ve (dw hw (fun _ hw => ?_) (fun _ hw => ?_))
 ·exact ds (va 1 [(6, aB false)] (ve (d_ret (rx hw (plr46 _)))))
 refine d_skip (ds (va 3 [(24, aI enum), (23, .sl (List.map eGEnum p.Enums) .no)] ?_))
 obtain ⟨y1, hy, h0, hw⟩ := hw
 exact vo rfl (x_idx h0 hy (rfl : eGEnum y1 = eGEnum y1)) rfl (va 3 [(7, aB y1.Open)] (ve (d_seqQ (ds (va 1 [(8, aI 0)] (ve (d_blockQ (d_loopQ (jl0 hw)))))))))
theorem plr47 (r : ByteArray) : plain (e47 r) = true := rfl
def r47_0 : LO := [o 2 (.mv (.c aE))]
def r47_1 : LO := [o 3 (.mv (.c .nil))]
def r47_2 : LO := [o 4 (mv 0), o 5 (.bin .geq (T 4) (.c (aU 128)))]
def k47_1 : ACode := .cond (T 5) .skip (.exit 0)
def r47_7 : LO := [o 6 (mv 3), o 7 (mv 0), o 8 (.conv (.num .u8) (T 7)), o 9 (.bin .or (T 8) (.c (aC 128))), o 10 (.sliceLit 1 1 [(aC 0)] [((0, 1), (T 9))]), o 11 (.append 1 1 (T 6) (T 10)), o 3 (mv 11)]
def r47_8 : LO := [o 12 (mv 0), o 13 (.bin .shr (T 12) (.c (aU 7))), o 0 (mv 13)]
def k47_2 : ACode := .block 1 (.seq (.region r47_7) (.region r47_8))
def k47_3 : ACode := .seq (.seq (.region r47_2) k47_1) k47_2
def r47_14 : LO := [o 14 (mv 3), o 15 (mv 0), o 16 (.conv (.num .u8) (T 15)), o 17 (.sliceLit 1 1 [(aC 0)] [((0, 1), (T 16))]), o 18 (.append 1 1 (T 14) (T 17)), o 19 (.conv .str (T 18)), o 2 (mv 19)]
def k47_4 : ACode := .seq (.region r47_14) .ret
def k47_5 : ACode := .seq (.block 0 (.loop k47_3)) k47_4
def k47_6 : ACode := .seq (.region r47_1) k47_5
def k47_7 : ACode := .seq (.region r47_0) k47_6
theorem fn47 : getFn Tryz.prog 47 = some (20, k47_7, [.tmp 2]) := by kernel_rfl
def q47_0 (r : ByteArray) : QP := qret [.tmp 2] (e47 r)
def q47_3 (r : ByteArray) : QP := tq Tryz.prog 20 k47_4 (q47_0 r)
def q47_4 (r : ByteArray) : QP := inBlockA 0 (q47_3 r)
def varint_Put_j2 (lj1 : (List Int)) (ij2 : Int) (r : ByteArray) : Prop := DL Tryz.prog 20 0 0 k47_3 (q47_4 r) [(3, .sl (List.map eI_u8 lj1) (.own 0)), (0, aU ij2)] ⟨[], [(lj1.length, 1)], []⟩
theorem varint_Put_j2_step (lj1 : (List Int)) (ij2 : Int) (r : ByteArray) (hw : ((decide (128 <= ij2)) = true -> (lj1.length + [(bitsOf .or .u8 (IntKind.u8.wrap ij2) 128)].length) * 1 <= 140737488355328 /\ (varint_Put_j2 (lj1 ++ [(bitsOf .or .u8 (IntKind.u8.wrap ij2) 128)]) (ij2.fdiv (2 ^ min (7 : Int).toNat IntKind.u64.bits)) r)) /\ ((decide (128 <= ij2)) = false -> (lj1.length + [(IntKind.u8.wrap ij2)].length) * 1 <= 140737488355328 /\ (∃ y2, (lj1 ++ [(IntKind.u8.wrap ij2)]) = bI y2 /\ (r = y2)))) : varint_Put_j2 lj1 ij2 r := by
 refine dl_unroll (d_seqQ (ds (va 2 [(5, aB (decide (128 <= ij2)))] (ve (dw hw (fun _ hw => ?_) (fun _ hw => ?_))))))
 ·refine d_skip (d_blockQ (ds (va 5 [(10, .sl [[aC (bitsOf .or .u8 (IntKind.u8.wrap ij2) 128)]] .full), (6, .sl (List.map eI_u8 lj1) (.own 0))] ?_)))
  obtain ⟨h0, hw⟩ := hw
  exact vo rfl (x_app 0 eI_u8 lj1 [(bitsOf .or .u8 (IntKind.u8.wrap ij2) 128)] h0 (fun _ => rfl) (by kernel_rfl)) rfl (va 1 [(3, .sl (List.map eI_u8 (lj1 ++ [(bitsOf .or .u8 (IntKind.u8.wrap ij2) 128)])) (.own 0))] (ve (dr (va 3 [(0, aU (ij2.fdiv (2 ^ min (7 : Int).toNat IntKind.u64.bits)))] (ve (jl0 hw))))))
 refine d_exit (ds (va 4 [(17, .sl [[aC (IntKind.u8.wrap ij2)]] .full), (14, .sl (List.map eI_u8 lj1) (.own 0))] ?_))
 obtain ⟨h0, hw⟩ := hw
 refine vo rfl (x_app 0 eI_u8 lj1 [(IntKind.u8.wrap ij2)] h0 (fun _ => rfl) (by kernel_rfl)) rfl ?_
 obtain ⟨y2, hy, hw⟩ := hw
 exact vo rfl (x_str hy) rfl (va 1 [(2, aS y2)] (ve (d_ret (rx hw (plr47 _)))))
theorem varint_Put_step (u : Int) (r : ByteArray) (hw : varint_Put_j2 ([] : List Int) u r) : varint_Put u r := by
 exact f_pureD fn47 nle rfl (ds (va 1 [] (ve (ds (va 1 [(3, .nil)] (ve (d_seqQ (d_blockQ (d_loopQ (dl_own (t := 3) 1 (by kernel_rfl) (jl0 hw)))))))))))
theorem plr48 (r : Int) : plain (e48 r) = true := rfl
def r48_0 : LO := [o 2 (.mv (.c (aU 0)))]
def r48_1 : LO := [o 3 (mv 0), o 4 (.conv (.num .u64) (T 3)), o 5 (.bin .shl (T 4) (.c (aU 1))), o 6 (mv 0), o 7 (.bin .shr (T 6) (.c (aU 63))), o 8 (.conv (.num .u64) (T 7)), o 9 (.bin .xor (T 5) (T 8)), o 2 (mv 9)]
def k48_1 : ACode := .seq (.region r48_1) .ret
def k48_2 : ACode := .seq (.region r48_0) k48_1
theorem fn48 : getFn Tryz.prog 48 = some (10, k48_2, [.tmp 2]) := by kernel_rfl
theorem varint_Zig_step (n : Int) (r : Int) (hw : r = (bitsOf .xor .u64 (wU ((wU n) * 2 ^ min (1 : Int).toNat IntKind.u64.bits)) (wU (n.fdiv (2 ^ min (63 : Int).toNat IntKind.i64.bits))))) : varint_Zig n r := by
 exact f_pureD fn48 nle rfl (ds (va 1 [] (ve (ds (va 8 [(2, aU (bitsOf .xor .u64 (wU ((wU n) * 2 ^ min (1 : Int).toNat IntKind.u64.bits)) (wU (n.fdiv (2 ^ min (63 : Int).toNat IntKind.i64.bits)))))] (ve (d_ret (rx hw (plr48 _)))))))))
theorem plr49 (r : ByteArray) : plain (e49 r) = true := rfl
def r49_0 : LO := [o 2 (.mv (.c aE))]
def r49_1 : LO := [o 5 (.make 1 1 [(aC 0)] (ci 8) (ci 8)), o 3 (mv 5)]
def r49_2 : LO := [o 6 (mv 3), o 7 (.len false (T 6)), o 8 (mi 0)]
def r49_3 : LO := [o 9 (.bin .lss (T 8) (T 7))]
def r49_7 : LO := [o 10 (mv 8), o 4 (mv 10)]
def r49_8 : LO := [o 11 (mv 3), o 12 (mv 4), o 13 (mv 0), o 14 (mv 4), o 15 (.bin .mul (ci 8) (T 14)), o 16 (.bin .shr (T 13) (T 15)), o 17 (.conv (.num .u8) (T 16)), o 18 (.idxSl 1 (T 11) (T 12)), on (st 1 18 17)]
def r49_11 : LO := [o 19 (.bin .add (T 8) (ci 1)), o 8 (mv 19)]
def k49_1 : ACode := .seq (.block 1 (.seq (.region r49_7) (.region r49_8))) (.region r49_11)
def k49_2 : ACode := .seq (.cond (T 9) .skip (.exit 0)) k49_1
def k49_3 : ACode := .seq (.region r49_3) k49_2
def k49_4 : ACode := .block 0 (.loop k49_3)
def r49_18 : LO := [o 20 (mv 3), o 21 (.conv .str (T 20)), o 2 (mv 21)]
def k49_5 : ACode := .seq (.region r49_18) .ret
def k49_6 : ACode := .seq (.seq (.region r49_2) k49_4) k49_5
def k49_7 : ACode := .seq (.region r49_1) k49_6
def k49_8 : ACode := .seq (.region r49_0) k49_7
theorem fn49 : getFn Tryz.prog 49 = some (22, k49_8, [.tmp 2]) := by kernel_rfl
def q49_0 (r : ByteArray) : QP := qret [.tmp 2] (e49 r)
def q49_3 (r : ByteArray) : QP := tq Tryz.prog 22 k49_5 (q49_0 r)
def q49_5 (r : ByteArray) : QP := inBlockA 0 (q49_3 r)
def varint_Fixed_j2 (ij1 : Int) (u : Int) (lj2 : (List Int)) (r : ByteArray) : Prop := DL Tryz.prog 22 0 0 k49_3 (q49_5 r) [(8, aI ij1), (7, aI (8 : Int)), (3, .row 0 0 1 8 8), (0, aU u)] ⟨[some (cellsOf eI_u8 lj2)], [], []⟩
theorem varint_Fixed_j2_step (ij1 : Int) (u : Int) (lj2 : (List Int)) (r : ByteArray) (hw : ((decide (ij1 < (8 : Int))) = true -> 0 <= (wI (8 * ij1)) /\ ((0 <= ij1 /\ ij1 < (8 : Int)) /\ (ij1.toNat < lj2.length /\ (varint_Fixed_j2 (wI (ij1 + 1)) u (lj2.set ij1.toNat (IntKind.u8.wrap (u.fdiv (2 ^ min (wI (8 * ij1)).toNat IntKind.u64.bits)))) r)))) /\ ((decide (ij1 < (8 : Int))) = false -> lj2.length = 8 /\ (∃ y2, lj2 = bI y2 /\ (r = y2)))) : varint_Fixed_j2 ij1 u lj2 r := by
 refine dl_unroll (ds (va 1 [(9, aB (decide (ij1 < (8 : Int))))] (ve (d_seqQ (dw hw (fun _ hw => ?_) (fun _ hw => ?_))))))
 ·refine d_skip (d_seqQ (d_blockQ (ds (va 2 [(4, aI ij1)] (ve (dr (va 5 [(15, aI (wI (8 * ij1))), (13, aU u), (12, aI ij1), (11, .row 0 0 1 8 8)] ?_)))))))
  obtain ⟨h0, hw⟩ := hw
  refine vo rfl (x_bin (.int .u64 (u.fdiv (2 ^ min (wI (8 * ij1)).toNat IntKind.u64.bits))) h0) rfl (va 1 [(17, aC (IntKind.u8.wrap (u.fdiv (2 ^ min (wI (8 * ij1)).toNat IntKind.u64.bits))))] ?_)
  obtain ⟨h0, hw⟩ := hw
  refine vo rfl (x_ridx 0 8 8 h0) rfl ?_
  obtain ⟨h0, hw⟩ := hw
  exact vw rfl (x_rst (sz := 1) (r := 0) (e := eI_u8) (i := ij1.toNat) (off := (0 + ij1.toNat * 1)) (l := lj2) (av := aC (IntKind.u8.wrap (u.fdiv (2 ^ min (wI (8 * ij1)).toNat IntKind.u64.bits)))) (IntKind.u8.wrap (u.fdiv (2 ^ min (wI (8 * ij1)).toNat IntKind.u64.bits))) (fun _ => rfl) (fun _ => rfl) h0 rfl (by omega)) (ve (dr (va 2 [(8, aI (wI (ij1 + 1)))] (ve (jl0 hw)))))
 refine d_exit (d_seqQ ?_)
 obtain ⟨h0, hw⟩ := hw
 refine drf (sz := 1) (f := eI_u8) 0 [false] 0 1 lj2 8 [(9, aB (decide (ij1 < (8 : Int)))), (8, aI ij1), (7, aI (8 : Int)), (3, .sl (List.map eI_u8 lj2) .no), (0, aU u)] [none] (fun _ => rfl) (fun _ => rfl) h0 ⟨by first | rfl | simp, by first | rfl | simp⟩ (dr (va 1 [(20, .sl (List.map eI_u8 lj2) .no)] ?_))
 obtain ⟨y2, hy, hw⟩ := hw
 exact vo rfl (x_str hy) rfl (va 1 [(2, aS y2)] (ve (d_ret (rx hw (plr49 _)))))
theorem varint_Fixed_step (u : Int) (r : ByteArray) (hw : (0 <= (8 : Int) /\ (8 : Int) <= (8 : Int) /\ (8 : Int) * 1 <= 140737488355328) /\ (varint_Fixed_j2 0 u (List.replicate 8 0) r)) : varint_Fixed u r := by
 refine f_pureD fn49 nle rfl (ds (va 1 [] (ve (ds ?_))))
 obtain ⟨h0, hw⟩ := hw
 exact vo rfl (x_make eI_u8 0 (8 : Int) (8 : Int) h0) rfl (va 1 [(3, .row 0 0 1 8 8)] (ve (d_seqQ (ds (va 3 [(8, aI 0), (7, aI (8 : Int))] (ve (d_blockQ (d_loopQ (jl0 hw)))))))))
theorem plr50 (r : GValue) : plain (e50 r) = true := (pl_GValue r)
def r50_0 : LO := [o 1 (bx 0), o 2 (.alloc zV)]
def r50_1 : LO := [o 3 (fa 0 1), o 4 (ld 3), o 5 (.bin .eql (T 4) (ci 6)), o 6 (mv 5), og 7 (fa 1 1) 6 true, og 8 (ld 7) 6 true, og 9 (.call (cf 97) [(T 8)]) 6 true, og 10 (.bin .eql (T 9) (ci 0)) 6 true, o 11 (.pick (T 6) (T 10) (cb false))]
def r50_2 : LO := [o 12 (fa 1 1), on (.store 1 (T 12) (.c (aU 9221120237041090560)))]
def k50_1 : ACode := .cond (T 11) (.region r50_2) .skip
def r50_6 : LO := [o 13 (ln 7 1), on (st 7 2 13)]
def k50_2 : ACode := .seq (.region r50_6) .ret
def k50_3 : ACode := .seq (.seq (.region r50_1) k50_1) k50_2
def k50_4 : ACode := .seq (.region r50_0) k50_3
theorem fn50 : getFn Tryz.prog 50 = some (14, k50_4, [.cell 2 (some 7)]) := by kernel_rfl
theorem scalar_Norm_step (v : GValue) (r : GValue) (hw : ((v.Kind == 6) = true -> ∃ y1, scalar_Class v.Bits y1 /\ (((y1 == 0) = true -> r = (⟨v.Kind, 9221120237041090560, v.Text, v.List_, v.Pairs, v.Slots, v.Raws⟩ : GValue)) /\ ((y1 == 0) = false -> r = v))) /\ ((v.Kind == 6) = false -> r = v)) : scalar_Norm v r := by
 refine f_pureD fn50 nle rfl (ds (vg 2 [(2, .ptr 1 0), (1, .ptr 0 0)] [(eGValue v), zV] [] (ve (d_seqQ (ds (va 4 [(6, aB (v.Kind == 6))] (vw2 6 hw (fun _ hw => ?_) (fun _ hw => ?_))))))))
 ·refine va 2 [(8, aU v.Bits)] ?_
  obtain ⟨y1, hy, hw⟩ := hw
  refine vo rfl (x_call hy pl97) rfl (va 2 [(11, aB (y1 == 0))] (ve (dw hw (fun _ hw => ?_) (fun _ hw => ?_))))
  ·exact dr (vg 2 [] [] [(0, [aI v.Kind, aU 9221120237041090560, aS v.Text, .sl (List.map eGValue' v.List_) .no, .sl (List.map eGPair' v.Pairs) .no, .sl (List.map eGSlot' v.Slots) .no, .sl (List.map eGRaw v.Raws) .no])] (ve (ds (vg 2 [] [] [(1, [aI v.Kind, aU 9221120237041090560, aS v.Text, .sl (List.map eGValue' v.List_) .no, .sl (List.map eGPair' v.Pairs) .no, .sl (List.map eGSlot' v.Slots) .no, .sl (List.map eGRaw v.Raws) .no])] (ve (d_ret (rx hw (plr50 _))))))))
  exact d_skip (ds (vg 2 [] [] [(1, (eGValue v))] (ve (d_ret (rx hw (plr50 _))))))
 exact va 5 [(11, aB false)] (ve (df (d_skip (ds (vg 2 [] [] [(1, (eGValue v))] (ve (d_ret (rx hw (plr50 _)))))))))
theorem plr51 (r : Bool) : plain (e51 r) = true := rfl
def r51_0 : LO := [o 2 (bx 0), o 3 (bx 1), o 4 (mb false)]
def r51_1 : LO := [o 5 (ln 7 2), o 6 (ln 7 3), o 7 (.call (cf 98) [(T 5), (T 6)]), o 8 (.bin .eql (T 7) (ci 0)), o 4 (mv 8)]
def k51_1 : ACode := .seq (.region r51_1) .ret
def k51_2 : ACode := .seq (.region r51_0) k51_1
theorem fn51 : getFn Tryz.prog 51 = some (9, k51_2, [.tmp 4]) := by kernel_rfl
theorem ref16_Equal_step (a : GValue) (b : GValue) (r : Bool) (hw : ∃ y1, ref16_Cmp a b y1 /\ (r = (y1 == 0))) : ref16_Equal a b r := by
 refine f_pureD fn51 nle rfl (ds (vg 3 [(3, .ptr 1 0), (2, .ptr 0 0)] [(eGValue a), (eGValue b)] [] (ve (ds (va 2 [(6, .agg (eGValue b)), (5, .agg (eGValue a))] ?_)))))
 obtain ⟨y1, hy, hw⟩ := hw
 exact vo rfl (x_call hy pl98) rfl (va 2 [(4, aB (y1 == 0))] (ve (d_ret (rx hw (plr51 _)))))
theorem plr52 (r : ByteArray) : plain (e52 r) = true := rfl
def r52_0 : LO := [o 2 (.mv (.c aE))]
def r52_1 : LO := [o 3 (.mv (.c .nil))]
def r52_2 : LO := [o 4 (mv 0), o 5 (.bin .geq (T 4) (.c (aU 128)))]
def k52_1 : ACode := .cond (T 5) .skip (.exit 0)
def r52_7 : LO := [o 6 (mv 3), o 7 (mv 0), o 8 (.bin .rem (T 7) (.c (aU 128))), o 9 (.bin .add (T 8) (.c (aU 128))), o 10 (.conv (.num .u8) (T 9)), o 11 (.sliceLit 1 1 [(aC 0)] [((0, 1), (T 10))]), o 12 (.append 1 1 (T 6) (T 11)), o 3 (mv 12)]
def r52_8 : LO := [o 13 (mv 0), o 14 (.bin .quo (T 13) (.c (aU 128))), o 0 (mv 14)]
def k52_2 : ACode := .block 1 (.seq (.region r52_7) (.region r52_8))
def k52_3 : ACode := .seq (.seq (.region r52_2) k52_1) k52_2
def r52_14 : LO := [o 15 (mv 3), o 16 (mv 0), o 17 (.conv (.num .u8) (T 16)), o 18 (.sliceLit 1 1 [(aC 0)] [((0, 1), (T 17))]), o 19 (.append 1 1 (T 15) (T 18)), o 20 (.conv .str (T 19)), o 2 (mv 20)]
def k52_4 : ACode := .seq (.region r52_14) .ret
def k52_5 : ACode := .seq (.block 0 (.loop k52_3)) k52_4
def k52_6 : ACode := .seq (.region r52_1) k52_5
def k52_7 : ACode := .seq (.region r52_0) k52_6
theorem fn52 : getFn Tryz.prog 52 = some (21, k52_7, [.tmp 2]) := by kernel_rfl
def q52_0 (r : ByteArray) : QP := qret [.tmp 2] (e52 r)
def q52_3 (r : ByteArray) : QP := tq Tryz.prog 21 k52_4 (q52_0 r)
def q52_4 (r : ByteArray) : QP := inBlockA 0 (q52_3 r)
def ref01_Put_j2 (lj1 : (List Int)) (ij2 : Int) (r : ByteArray) : Prop := DL Tryz.prog 21 0 0 k52_3 (q52_4 r) [(3, .sl (List.map eI_u8 lj1) (.own 0)), (0, aU ij2)] ⟨[], [(lj1.length, 1)], []⟩
theorem ref01_Put_j2_step (lj1 : (List Int)) (ij2 : Int) (r : ByteArray) (hw : ((decide (128 <= ij2)) = true -> (lj1.length + [(IntKind.u8.wrap (wU ((ij2.tmod 128) + 128)))].length) * 1 <= 140737488355328 /\ (ref01_Put_j2 (lj1 ++ [(IntKind.u8.wrap (wU ((ij2.tmod 128) + 128)))]) (wU (ij2.tdiv 128)) r)) /\ ((decide (128 <= ij2)) = false -> (lj1.length + [(IntKind.u8.wrap ij2)].length) * 1 <= 140737488355328 /\ (∃ y2, (lj1 ++ [(IntKind.u8.wrap ij2)]) = bI y2 /\ (r = y2)))) : ref01_Put_j2 lj1 ij2 r := by
 refine dl_unroll (d_seqQ (ds (va 2 [(5, aB (decide (128 <= ij2)))] (ve (dw hw (fun _ hw => ?_) (fun _ hw => ?_))))))
 ·refine d_skip (d_blockQ (ds (va 6 [(11, .sl [[aC (IntKind.u8.wrap (wU ((ij2.tmod 128) + 128)))]] .full), (6, .sl (List.map eI_u8 lj1) (.own 0))] ?_)))
  obtain ⟨h0, hw⟩ := hw
  exact vo rfl (x_app 0 eI_u8 lj1 [(IntKind.u8.wrap (wU ((ij2.tmod 128) + 128)))] h0 (fun _ => rfl) (by kernel_rfl)) rfl (va 1 [(3, .sl (List.map eI_u8 (lj1 ++ [(IntKind.u8.wrap (wU ((ij2.tmod 128) + 128)))])) (.own 0))] (ve (dr (va 3 [(0, aU (wU (ij2.tdiv 128)))] (ve (jl0 hw))))))
 refine d_exit (ds (va 4 [(18, .sl [[aC (IntKind.u8.wrap ij2)]] .full), (15, .sl (List.map eI_u8 lj1) (.own 0))] ?_))
 obtain ⟨h0, hw⟩ := hw
 refine vo rfl (x_app 0 eI_u8 lj1 [(IntKind.u8.wrap ij2)] h0 (fun _ => rfl) (by kernel_rfl)) rfl ?_
 obtain ⟨y2, hy, hw⟩ := hw
 exact vo rfl (x_str hy) rfl (va 1 [(2, aS y2)] (ve (d_ret (rx hw (plr52 _)))))
theorem ref01_Put_step (u : Int) (r : ByteArray) (hw : ref01_Put_j2 ([] : List Int) u r) : ref01_Put u r := by
 exact f_pureD fn52 nle rfl (ds (va 1 [] (ve (ds (va 1 [(3, .nil)] (ve (d_seqQ (d_blockQ (d_loopQ (dl_own (t := 3) 1 (by kernel_rfl) (jl0 hw)))))))))))
theorem plr53 (r : Int) : plain (e53 r) = true := rfl
def r53_0 : LO := [o 2 (.mv (.c (aU 0)))]
def r53_1 : LO := [o 3 (mv 0), o 4 (.bin .geq (T 3) (ci 0))]
def r53_2 : LO := [o 5 (mv 0), o 6 (.conv (.num .u64) (T 5)), o 7 (.bin .mul (.c (aU 2)) (T 6)), o 2 (mv 7)]
def k53_1 : ACode := .cond (T 4) (.seq (.region r53_2) .ret) .skip
def k53_2 : ACode := .seq (.region r53_1) k53_1
def r53_8 : LO := [o 8 (mv 0), o 9 (.bin .add (T 8) (ci 1)), o 10 (.un .neg (T 9)), o 11 (.conv (.num .u64) (T 10)), o 12 (.bin .mul (.c (aU 2)) (T 11)), o 13 (.bin .add (T 12) (.c (aU 1))), o 2 (mv 13)]
def k53_3 : ACode := .seq (.region r53_8) .ret
def k53_4 : ACode := .seq k53_2 k53_3
def k53_5 : ACode := .seq (.region r53_0) k53_4
theorem fn53 : getFn Tryz.prog 53 = some (14, k53_5, [.tmp 2]) := by kernel_rfl
theorem ref01_Zig_step (n : Int) (r : Int) (hw : ((decide (0 <= n)) = true -> r = (wU (2 * (wU n)))) /\ ((decide (0 <= n)) = false -> r = (wU ((wU (2 * (wU (wI (0 - (wI (n + 1))))))) + 1)))) : ref01_Zig n r := by
 refine f_pureD fn53 nle rfl (ds (va 1 [] (ve (d_seqQ (ds (va 2 [(4, aB (decide (0 <= n)))] (ve (dw hw (fun _ hw => ?_) (fun _ hw => ?_)))))))))
 ·exact ds (va 4 [(2, aU (wU (2 * (wU n))))] (ve (d_ret (rx hw (plr53 _)))))
 exact d_skip (ds (va 7 [(2, aU (wU ((wU (2 * (wU (wI (0 - (wI (n + 1))))))) + 1)))] (ve (d_ret (rx hw (plr53 _))))))
theorem plr54 (r : ByteArray) : plain (e54 r) = true := rfl
def r54_0 : LO := [o 2 (.mv (.c aE))]
def r54_1 : LO := [o 3 (.mv (.c .nil))]
def r54_2 : LO := [o 4 (mi 0)]
def r54_3 : LO := [o 5 (mv 4), o 6 (.bin .lss (T 5) (ci 8))]
def k54_1 : ACode := .cond (T 6) .skip (.exit 0)
def r54_8 : LO := [o 9 (mv 3), o 10 (mv 0), o 11 (.bin .rem (T 10) (.c (aU 256))), o 12 (.conv (.num .u8) (T 11)), o 13 (.sliceLit 1 1 [(aC 0)] [((0, 1), (T 12))]), o 14 (.append 1 1 (T 9) (T 13)), o 3 (mv 14)]
def r54_9 : LO := [o 15 (mv 0), o 16 (.bin .quo (T 15) (.c (aU 256))), o 0 (mv 16)]
def r54_12 : LO := [o 7 (mv 4), o 8 (.bin .add (T 7) (ci 1)), o 4 (mv 8)]
def k54_2 : ACode := .seq (.block 1 (.seq (.region r54_8) (.region r54_9))) (.region r54_12)
def k54_3 : ACode := .seq (.seq (.region r54_3) k54_1) k54_2
def k54_4 : ACode := .block 0 (.loop k54_3)
def r54_18 : LO := [o 17 (mv 3), o 18 (.conv .str (T 17)), o 2 (mv 18)]
def k54_5 : ACode := .seq (.region r54_18) .ret
def k54_6 : ACode := .seq (.seq (.region r54_2) k54_4) k54_5
def k54_7 : ACode := .seq (.region r54_1) k54_6
def k54_8 : ACode := .seq (.region r54_0) k54_7
theorem fn54 : getFn Tryz.prog 54 = some (19, k54_8, [.tmp 2]) := by kernel_rfl
def q54_0 (r : ByteArray) : QP := qret [.tmp 2] (e54 r)
def q54_3 (r : ByteArray) : QP := tq Tryz.prog 19 k54_5 (q54_0 r)
def q54_5 (r : ByteArray) : QP := inBlockA 0 (q54_3 r)
def ref01_Fixed_j2 (ij1 : Int) (lj2 : (List Int)) (ij3 : Int) (r : ByteArray) : Prop := DL Tryz.prog 19 0 0 k54_3 (q54_5 r) [(4, aI ij1), (3, .sl (List.map eI_u8 lj2) (.own 0)), (0, aU ij3)] ⟨[], [(lj2.length, 1)], []⟩
theorem ref01_Fixed_j2_step (ij1 : Int) (lj2 : (List Int)) (ij3 : Int) (r : ByteArray) (hw : ((decide (ij1 < 8)) = true -> (lj2.length + [(IntKind.u8.wrap (ij3.tmod 256))].length) * 1 <= 140737488355328 /\ (ref01_Fixed_j2 (wI (ij1 + 1)) (lj2 ++ [(IntKind.u8.wrap (ij3.tmod 256))]) (wU (ij3.tdiv 256)) r)) /\ ((decide (ij1 < 8)) = false -> ∃ y1, lj2 = bI y1 /\ (r = y1))) : ref01_Fixed_j2 ij1 lj2 ij3 r := by
 refine dl_unroll (d_seqQ (ds (va 2 [(6, aB (decide (ij1 < 8)))] (ve (dw hw (fun _ hw => ?_) (fun _ hw => ?_))))))
 ·refine d_skip (d_seqQ (d_blockQ (ds (va 5 [(13, .sl [[aC (IntKind.u8.wrap (ij3.tmod 256))]] .full), (9, .sl (List.map eI_u8 lj2) (.own 0))] ?_))))
  obtain ⟨h0, hw⟩ := hw
  exact vo rfl (x_app 0 eI_u8 lj2 [(IntKind.u8.wrap (ij3.tmod 256))] h0 (fun _ => rfl) (by kernel_rfl)) rfl (va 1 [(3, .sl (List.map eI_u8 (lj2 ++ [(IntKind.u8.wrap (ij3.tmod 256))])) (.own 0))] (ve (dr (va 3 [(0, aU (wU (ij3.tdiv 256)))] (ve (dr (va 3 [(4, aI (wI (ij1 + 1)))] (ve (jl0 hw)))))))))
 refine d_exit (ds (va 1 [(17, .sl (List.map eI_u8 lj2) (.own 0))] ?_))
 obtain ⟨y1, hy, hw⟩ := hw
 exact vo rfl (x_str hy) rfl (va 1 [(2, aS y1)] (ve (d_ret (rx hw (plr54 _)))))
theorem ref01_Fixed_step (u : Int) (r : ByteArray) (hw : ref01_Fixed_j2 0 ([] : List Int) u r) : ref01_Fixed u r := by
 exact f_pureD fn54 nle rfl (ds (va 1 [] (ve (ds (va 1 [(3, .nil)] (ve (d_seqQ (ds (va 1 [(4, aI 0)] (ve (d_blockQ (d_loopQ (dl_own (t := 3) 1 (by kernel_rfl) (jl0 hw))))))))))))))
def r55_0 : LO := [o 2 (bx 0), o 3 (bx 1), o 4 (mi 0), o 5 (mb false)]
def r55_1 : LO := [o 7 (fa 0 2), o 8 (ld 7), o 9 (.func (.func 100) [] [(T 3)]), o 10 (.call (cf 99) [(T 8), (T 9)]), o 6 (mv 10)]
def r55_2 : LO := [o 11 (mv 6), o 12 (.minmax true [(T 11), (ci 0)]), o 13 (mv 6), o 14 (.bin .geq (T 13) (ci 0)), o 4 (mv 12), o 5 (mv 14)]
def k55_1 : ACode := .seq (.region r55_2) .ret
def k55_2 : ACode := .seq (.region r55_1) k55_1
def k55_3 : ACode := .seq (.region r55_0) k55_2
theorem fn55 : getFn Tryz.prog 55 = some (15, k55_3, [.tmp 4, .tmp 5]) := by kernel_rfl
def r56_0 : LO := [o 3 (bx 0), o 5 (bx 2), o 6 (mi 0)]
def r56_1 : LO := [o 8 (mv 1), o 9 (.bin .lss (T 8) (ci 0)), o 10 (mv 9), og 11 (mv 1) 10 false, og 12 (fa 0 3) 10 false, og 13 (ld 12) 10 false, og 14 (.len false (T 13)) 10 false, og 15 (.bin .geq (T 11) (T 14)) 10 false, o 16 (.pick (T 10) (cb true) (T 15))]
def r56_2 : LO := [o 6 (mi 10)]
def k56_1 : ACode := .cond (T 16) (.seq (.region r56_2) .ret) .skip
def k56_2 : ACode := .seq (.region r56_1) k56_1
def r56_8 : LO := [o 17 (ln 2 3), o 18 (.build [.nil, .nil] [((0, 2), (T 17))]), o 19 (fa 0 3), o 20 (ld 19), o 21 (mv 1), o 22 (.idxSl 3 (T 20) (T 21)), o 23 (ln 3 22), o 24 (ln 7 5), o 25 (.call (cf 101) [(T 18), (T 23), (T 24), (ci 1)])]
def r56_8t : LO := [o 7 (mv 25)]
def r56_8o : LN := [[], [0], [], [2], [], [3, 4], [5], [], [1, 6, 7]]
def r56_9 : LO := [o 26 (mv 7), o 27 (.bin .neq (T 26) (ci 0))]
def r56_10 : LO := [o 28 (mv 7), o 6 (mv 28)]
def k56_3 : ACode := .cond (T 27) (.seq (.region r56_10) .ret) .skip
def k56_4 : ACode := .seq (.region r56_9) k56_3
def r56_17 : LO := [o 29 (ln 7 5), o 30 (.call (cf 102) [(T 29)]), o 31 (.bin .gtr (T 30) (ci 4096))]
def r56_18 : LO := [o 6 (mi 3)]
def k56_5 : ACode := .cond (T 31) (.seq (.region r56_18) .ret) .skip
def k56_6 : ACode := .seq (.region r56_17) k56_5
def r56_24 : LO := [o 6 (mi 0)]
def k56_7 : ACode := .seq (.region r56_24) .ret
def k56_8 : ACode := .seq k56_6 k56_7
def k56_9 : ACode := .seq (.seq (.drawn r56_8o r56_8 r56_8t) k56_4) k56_8
def k56_10 : ACode := .seq k56_2 k56_9
def k56_11 : ACode := .seq (.region r56_0) k56_10
theorem fn56 : getFn Tryz.prog 56 = some (32, k56_11, [.tmp 6]) := by kernel_rfl
def r57_0 : LO := [o 1 (bx 0), o 2 (mb false)]
def r57_1 : LO := [o 9 (fa 6 1), o 10 (ld 9), o 11 (.len false (T 10)), o 12 (.bin .gtr (T 11) (ci 0))]
def r57_2 : LO := [o 2 (mb true)]
def k57_1 : ACode := .cond (T 12) (.seq (.region r57_2) .ret) .skip
def k57_2 : ACode := .seq (.region r57_1) k57_1
def r57_8 : LO := [o 13 (fa 5 1), o 14 (ld 13), o 15 (.len false (T 14)), o 16 (mi 0)]
def r57_9 : LO := [o 17 (.bin .lss (T 16) (T 15))]
def r57_13 : LO := [o 18 (.idxSl 8 (T 14) (T 16)), o 19 (ln 8 18), o 4 (.alloc [(aI 0), (aI 0), (aU 0), aE, .nil, .nil, .nil, .nil]), on (st 8 4 19)]
def r57_14 : LO := [o 20 (fa 1 4), o 21 (ln 7 20), o 22 (.call (cf 57) [(T 21)])]
def r57_15 : LO := [o 2 (mb true)]
def k57_3 : ACode := .cond (T 22) (.seq (.region r57_15) .ret) .skip
def k57_4 : ACode := .seq (.region r57_14) k57_3
def r57_23 : LO := [o 23 (.bin .add (T 16) (ci 1)), o 16 (mv 23)]
def k57_5 : ACode := .seq (.block 1 (.seq (.region r57_13) k57_4)) (.region r57_23)
def k57_6 : ACode := .seq (.cond (T 17) .skip (.exit 0)) k57_5
def k57_7 : ACode := .seq (.region r57_9) k57_6
def k57_8 : ACode := .block 0 (.loop k57_7)
def r57_30 : LO := [o 24 (fa 3 1), o 25 (ld 24), o 26 (.len false (T 25)), o 27 (mi 0)]
def r57_31 : LO := [o 28 (.bin .lss (T 27) (T 26))]
def r57_35 : LO := [o 29 (.idxSl 7 (T 25) (T 27)), o 30 (ln 7 29), o 6 (.alloc zV), on (st 7 6 30)]
def r57_36 : LO := [o 31 (ln 7 6), o 32 (.call (cf 57) [(T 31)])]
def r57_37 : LO := [o 2 (mb true)]
def k57_9 : ACode := .cond (T 32) (.seq (.region r57_37) .ret) .skip
def k57_10 : ACode := .seq (.region r57_36) k57_9
def r57_45 : LO := [o 33 (.bin .add (T 27) (ci 1)), o 27 (mv 33)]
def k57_11 : ACode := .seq (.block 3 (.seq (.region r57_35) k57_10)) (.region r57_45)
def k57_12 : ACode := .seq (.cond (T 28) .skip (.exit 2)) k57_11
def k57_13 : ACode := .seq (.region r57_31) k57_12
def k57_14 : ACode := .block 2 (.loop k57_13)
def r57_52 : LO := [o 34 (fa 4 1), o 35 (ld 34), o 36 (.len false (T 35)), o 37 (mi 0)]
def r57_53 : LO := [o 38 (.bin .lss (T 37) (T 36))]
def r57_57 : LO := [o 39 (.idxSl 14 (T 35) (T 37)), o 40 (ln 14 39), o 8 (.alloc [(aI 0), (aU 0), aE, .nil, .nil, .nil, .nil, (aI 0), (aU 0), aE, .nil, .nil, .nil, .nil]), on (st 14 8 40)]
def r57_58 : LO := [o 41 (fa 7 8), o 42 (ln 7 41), o 43 (.call (cf 57) [(T 42)])]
def r57_59 : LO := [o 2 (mb true)]
def k57_15 : ACode := .cond (T 43) (.seq (.region r57_59) .ret) .skip
def k57_16 : ACode := .seq (.region r57_58) k57_15
def r57_67 : LO := [o 44 (.bin .add (T 37) (ci 1)), o 37 (mv 44)]
def k57_17 : ACode := .seq (.block 5 (.seq (.region r57_57) k57_16)) (.region r57_67)
def k57_18 : ACode := .seq (.cond (T 38) .skip (.exit 4)) k57_17
def k57_19 : ACode := .seq (.region r57_53) k57_18
def k57_20 : ACode := .block 4 (.loop k57_19)
def r57_74 : LO := [o 2 (mb false)]
def k57_21 : ACode := .seq (.region r57_74) .ret
def k57_22 : ACode := .seq (.seq (.region r57_52) k57_20) k57_21
def k57_23 : ACode := .seq (.seq (.region r57_30) k57_14) k57_22
def k57_24 : ACode := .seq (.seq (.region r57_8) k57_8) k57_23
def k57_25 : ACode := .seq k57_2 k57_24
def k57_26 : ACode := .seq (.region r57_0) k57_25
theorem fn57 : getFn Tryz.prog 57 = some (45, k57_26, [.tmp 2]) := by kernel_rfl
def r58_0 : LO := [o 5 (bx 2)]
def r58_1 : LO := [o 6 (mi 0)]
def r58_2 : LO := [o 15 (mv 0), o 16 (.nilCheck (T 15)), o 17 (fa 0 16), o 18 (fa 0 17), o 19 (ld 18), o 20 (mv 1), o 21 (.idxSl 3 (T 19) (T 20)), o 22 (fa 1 21), o 23 (ld 22), o 24 (.len false (T 23)), o 25 (mi 0)]
def r58_3 : LO := [o 26 (.bin .lss (T 25) (T 24))]
def r58_7 : LO := [o 27 (.idxSl 8 (T 23) (T 25)), o 28 (ln 8 27), o 8 (.alloc [(aI 0), aE, aE, (aI 0), (aI 0), (aI 0), (aI 0), (aI 0)]), on (st 8 8 28)]
def r58_8 : LO := [o 29 (mv 6), o 30 (fa 5 5), o 31 (ld 30), o 32 (.len false (T 31)), o 33 (.bin .lss (T 29) (T 32)), o 34 (mv 33), og 35 (fa 5 5) 34 true, og 36 (ld 35) 34 true, og 37 (mv 6) 34 true, og 38 (.idxSl 8 (T 36) (T 37)) 34 true, og 39 (fa 0 38) 34 true, og 40 (ld 39) 34 true, og 41 (fa 0 8) 34 true, og 42 (ld 41) 34 true, og 43 (.bin .eql (T 40) (T 42)) 34 true, o 44 (.pick (T 34) (T 43) (cb false))]
def r58_8t : LO := [o 9 (mv 44)]
def r58_8o : LN := [[], [], [1], [2], [0, 3], [4], [5], [5, 6], [5], [5, 7, 8], [5, 9], [5, 10], [5], [5, 12], [5, 11, 13], [5, 14]]
def r58_9 : LO := [o 10 (.alloc zV)]
def r58_10 : LO := [o 45 (mv 9)]
def r58_11 : LO := [o 46 (fa 5 5), o 47 (ld 46), o 48 (mv 6), o 49 (.idxSl 8 (T 47) (T 48)), o 50 (fa 1 49), o 51 (ln 7 50), on (st 7 10 51)]
def r58_12 : LO := [o 52 (mv 6), o 53 (.bin .add (T 52) (ci 1)), o 6 (mv 53)]
def k58_1 : ACode := .cond (T 45) (.seq (.region r58_11) (.region r58_12)) .skip
def k58_2 : ACode := .seq (.region r58_10) k58_1
def r58_17 : LO := [o 54 (fa 3 8), o 55 (ld 54)]
def r58_18 : LO := [o 67 (.bin .eql (T 55) (ci 1)), o 66 (mv 67)]
def r58_19 : LO := [o 68 (mv 0), o 69 (ln 8 8), o 70 (ln 7 10), o 71 (.call (cf 103) [(T 68), (T 69), (T 70)])]
def r58_20 : LO := [o 73 (.bin .eql (T 55) (ci 4)), o 72 (mv 73)]
def r58_21 : LO := [o 74 (mv 0), o 75 (fa 3 10), o 76 (ld 75), o 77 (.len false (T 76)), o 78 (.conv (.num .u64) (T 77)), o 79 (.call (cf 47) [(T 78)]), o 80 (.call (cf 104) [(T 74), (T 79)])]
def r58_22 : LO := [o 81 (fa 3 10), o 82 (ld 81), o 83 (.len false (T 82)), o 84 (mi 0)]
def r58_23 : LO := [o 85 (.bin .lss (T 84) (T 83))]
def r58_27 : LO := [o 86 (.idxSl 7 (T 82) (T 84)), o 87 (ln 7 86), o 12 (.alloc zV), on (st 7 12 87)]
def r58_28 : LO := [o 88 (mv 0), o 89 (ln 8 8), o 90 (ln 7 12), o 91 (.call (cf 103) [(T 88), (T 89), (T 90)])]
def r58_31 : LO := [o 92 (.bin .add (T 84) (ci 1)), o 84 (mv 92)]
def k58_3 : ACode := .seq (.block 4 (.seq (.region r58_27) (.region r58_28))) (.region r58_31)
def k58_4 : ACode := .seq (.cond (T 85) .skip (.exit 3)) k58_3
def k58_5 : ACode := .seq (.region r58_23) k58_4
def k58_6 : ACode := .block 3 (.loop k58_5)
def k58_7 : ACode := .seq (.region r58_22) k58_6
def k58_8 : ACode := .seq (.region r58_21) k58_7
def r58_39 : LO := [o 94 (.bin .eql (T 55) (ci 5)), o 93 (mv 94)]
def r58_40 : LO := [o 95 (mv 0), o 96 (fa 4 10), o 97 (ld 96), o 98 (.len false (T 97)), o 99 (.conv (.num .u64) (T 98)), o 100 (.call (cf 47) [(T 99)]), o 101 (.call (cf 104) [(T 95), (T 100)])]
def r58_41 : LO := [o 102 (fa 4 10), o 103 (ld 102), o 104 (.len false (T 103)), o 105 (mi 0)]
def r58_42 : LO := [o 106 (.bin .lss (T 105) (T 104))]
def r58_46 : LO := [o 107 (.idxSl 14 (T 103) (T 105)), o 108 (ln 14 107), o 14 (.alloc [(aI 0), (aU 0), aE, .nil, .nil, .nil, .nil, (aI 0), (aU 0), aE, .nil, .nil, .nil, .nil]), on (st 14 14 108)]
def r58_47 : LO := [o 109 (mv 0), o 110 (fa 0 14), o 111 (ln 7 110), o 112 (.call (cf 12) [(T 111)]), o 113 (.call (cf 104) [(T 109), (T 112)])]
def r58_48 : LO := [o 114 (mv 0), o 115 (ln 8 8), o 116 (fa 7 14), o 117 (ln 7 116), o 118 (.call (cf 103) [(T 114), (T 115), (T 117)])]
def k58_9 : ACode := .seq (.region r58_47) (.region r58_48)
def k58_10 : ACode := .seq (.region r58_46) k58_9
def r58_52 : LO := [o 119 (.bin .add (T 105) (ci 1)), o 105 (mv 119)]
def k58_11 : ACode := .seq (.block 6 k58_10) (.region r58_52)
def k58_12 : ACode := .seq (.cond (T 106) .skip (.exit 5)) k58_11
def k58_13 : ACode := .seq (.region r58_42) k58_12
def k58_14 : ACode := .block 5 (.loop k58_13)
def k58_15 : ACode := .seq (.region r58_41) k58_14
def k58_16 : ACode := .seq (.region r58_40) k58_15
def r58_60 : LO := [o 56 (mv 9), o 57 (.un .not (T 56))]
def r58_61 : LO := [o 58 (mv 0), o 59 (.call (cf 104) [(T 58), (.c (aS ⟨#[0]⟩))])]
def k58_17 : ACode := .cond (T 57) (.seq (.region r58_61) (.exit 1)) .skip
def k58_18 : ACode := .seq (.region r58_60) k58_17
def r58_67 : LO := [o 60 (mv 0), o 61 (.call (cf 104) [(T 60), (.c (aS ⟨#[1]⟩))])]
def r58_68 : LO := [o 62 (mv 0), o 63 (ln 8 8), o 64 (ln 7 10), o 65 (.call (cf 103) [(T 62), (T 63), (T 64)])]
def k58_19 : ACode := .seq (.region r58_67) (.region r58_68)
def k58_20 : ACode := .cond (T 93) k58_16 (.seq k58_18 k58_19)
def k58_21 : ACode := .cond (T 72) k58_8 (.seq (.region r58_39) k58_20)
def k58_22 : ACode := .seq (.region r58_20) k58_21
def k58_23 : ACode := .cond (T 66) (.region r58_19) k58_22
def k58_24 : ACode := .block 2 (.seq (.region r58_18) k58_23)
def k58_25 : ACode := .seq (.region r58_17) k58_24
def k58_26 : ACode := .seq k58_2 k58_25
def k58_27 : ACode := .seq (.region r58_9) k58_26
def k58_28 : ACode := .seq (.drawn r58_8o r58_8 r58_8t) k58_27
def k58_29 : ACode := .seq (.region r58_7) k58_28
def r58_84 : LO := [o 120 (.bin .add (T 25) (ci 1)), o 25 (mv 120)]
def k58_30 : ACode := .seq (.block 1 k58_29) (.region r58_84)
def k58_31 : ACode := .seq (.cond (T 26) .skip (.exit 0)) k58_30
def k58_32 : ACode := .seq (.region r58_3) k58_31
def k58_33 : ACode := .block 0 (.loop k58_32)
def k58_34 : ACode := .seq (.region r58_2) k58_33
def k58_35 : ACode := .seq (.region r58_1) k58_34
def k58_36 : ACode := .seq (.region r58_0) k58_35
theorem fn58 : getFn Tryz.prog 58 = some (121, k58_36, []) := by kernel_rfl
def r59_0 : LO := [o 3 (bx 0), o 5 (bx 2), o 6 (.alloc zV)]
def r59_1 : LO := [o 14 (fa 6 5), o 15 (ld 14), o 16 (.call (cf 105) [(T 15)]), o 17 (.build zV [((0, 1), (ci 10)), ((6, 1), (T 16))]), o 7 (.alloc zV), on (st 7 7 17)]
def r59_2 : LO := [o 18 (mv 1), o 19 (.bin .lss (T 18) (ci 0)), o 20 (mv 19), og 21 (mv 1) 20 false, og 22 (fa 0 3) 20 false, og 23 (ld 22) 20 false, og 24 (.len false (T 23)) 20 false, og 25 (.bin .geq (T 21) (T 24)) 20 false, o 26 (.pick (T 20) (cb true) (T 25))]
def r59_3 : LO := [o 27 (ln 7 7), on (st 7 6 27)]
def k59_1 : ACode := .cond (T 26) (.seq (.region r59_3) .ret) .skip
def k59_2 : ACode := .seq (.region r59_2) k59_1
def r59_9 : LO := [o 28 (fa 5 5), o 29 (ld 28), o 30 (.call (cf 106) [(T 29)]), o 31 (.len false (T 30)), o 32 (mi 0)]
def r59_10 : LO := [o 33 (.bin .lss (T 32) (T 31))]
def r59_14 : LO := [o 34 (.idxSl 8 (T 30) (T 32)), o 35 (ln 8 34), o 9 (.alloc [(aI 0), (aI 0), (aU 0), aE, .nil, .nil, .nil, .nil]), on (st 8 9 35)]
def r59_15 : LO := [o 37 (fa 0 3), o 38 (ld 37), o 39 (mv 1), o 40 (.idxSl 3 (T 38) (T 39)), o 41 (ln 3 40), o 42 (fa 0 9), o 43 (ld 42), o 44 (.call (cf 107) [(T 41), (T 43)]), o 36 (mv 44), o 45 (.extract 0 (T 36)), o 46 (.extract 1 (T 36)), o 10 (.alloc [(aI 0), aE, aE, (aI 0), (aI 0), (aI 0), (aI 0), (aI 0)]), on (st 8 10 45)]
def r59_15t : LO := [o 11 (mv 46)]
def r59_15o : LN := [[], [0], [], [1, 2], [3], [], [5], [4, 6], [7], [8], [8], [], [0, 1, 2, 3, 4, 5, 6, 7, 8, 9, 11]]
def r59_16 : LO := [o 47 (fa 3 10), o 48 (ld 47), o 49 (.bin .eql (T 48) (ci 3)), o 50 (mv 49), og 51 (fa 3 10) 50 false, og 52 (ld 51) 50 false, og 53 (.bin .eql (T 52) (ci 4)) 50 false, o 54 (.pick (T 50) (cb true) (T 53)), o 55 (mv 54), og 56 (fa 3 10) 55 false, og 57 (ld 56) 55 false, og 58 (.bin .eql (T 57) (ci 5)) 55 false, o 59 (.pick (T 55) (cb true) (T 58)), o 12 (mv 59)]
def r59_17 : LO := [o 60 (ln 2 3), o 61 (ln 8 10), o 62 (fa 1 9), o 63 (ln 7 62), o 64 (.call (cf 108) [(T 60), (T 61), (T 63)]), o 13 (.alloc zV), on (st 7 13 64)]
def r59_18 : LO := [o 65 (mv 12), o 66 (.un .not (T 65)), o 67 (mv 66), og 68 (ln 7 13) 67 false, og 69 (.call (cf 109) [(T 68)]) 67 false, og 70 (.un .not (T 69)) 67 false, o 71 (.pick (T 67) (cb true) (T 70))]
def r59_19 : LO := [o 72 (fa 5 7), o 73 (ld 72), o 74 (fa 0 9), o 75 (ld 74), o 76 (ln 7 13), o 77 (.build [(aI 0), (aI 0), (aU 0), aE, .nil, .nil, .nil, .nil] [((0, 1), (T 75)), ((1, 7), (T 76))]), o 78 (.sliceLit 8 1 [(aI 0), (aI 0), (aU 0), aE, .nil, .nil, .nil, .nil] [((0, 8), (T 77))]), o 79 (.append 8 136 (T 73) (T 78)), o 80 (fa 5 7), on (st 1 80 79)]
def k59_3 : ACode := .cond (T 71) (.region r59_19) .skip
def k59_4 : ACode := .seq (.region r59_18) k59_3
def k59_5 : ACode := .seq (.region r59_17) k59_4
def k59_6 : ACode := .seq (.region r59_16) k59_5
def k59_7 : ACode := .seq (.drawn r59_15o r59_15 r59_15t) k59_6
def r59_28 : LO := [o 81 (.bin .add (T 32) (ci 1)), o 32 (mv 81)]
def k59_8 : ACode := .seq (.block 1 (.seq (.region r59_14) k59_7)) (.region r59_28)
def k59_9 : ACode := .seq (.cond (T 33) .skip (.exit 0)) k59_8
def k59_10 : ACode := .seq (.region r59_10) k59_9
def k59_11 : ACode := .block 0 (.loop k59_10)
def r59_35 : LO := [o 82 (fa 6 7), o 83 (ld 82), o 84 (.call (cf 110) [(T 83), (cf 111)])]
def r59_36 : LO := [o 85 (ln 7 7), on (st 7 6 85)]
def k59_12 : ACode := .seq (.region r59_36) .ret
def k59_13 : ACode := .seq (.region r59_35) k59_12
def k59_14 : ACode := .seq (.seq (.region r59_9) k59_11) k59_13
def k59_15 : ACode := .seq k59_2 k59_14
def k59_16 : ACode := .seq (.region r59_1) k59_15
def k59_17 : ACode := .seq (.region r59_0) k59_16
theorem fn59 : getFn Tryz.prog 59 = some (86, k59_17, [.cell 6 (some 7)]) := by kernel_rfl
def r60_0 : LO := [o 3 (bx 1), o 4 (.alloc [aE, (aI 0), (aI 0), (aI 0), (aI 0), (aI 0)]), o 5 (mi 0)]
def r60_1 : LO := [o 7 (fa 0 3), o 8 (ld 7), o 9 (.bin .lss (T 8) (ci 0)), o 10 (mv 9), og 11 (fa 1 3) 10 false, og 12 (ld 11) 10 false, og 13 (.bin .lss (T 12) (ci 0)) 10 false, o 14 (.pick (T 10) (cb true) (T 13)), o 15 (mv 14), og 16 (fa 2 3) 15 false, og 17 (ld 16) 15 false, og 18 (.bin .lss (T 17) (ci 0)) 15 false, o 19 (.pick (T 15) (cb true) (T 18)), o 20 (mv 19), og 21 (fa 3 3) 20 false, og 22 (ld 21) 20 false, og 23 (.bin .lss (T 22) (ci 0)) 20 false, o 24 (.pick (T 20) (cb true) (T 23)), o 6 (mv 24)]
def r60_2 : LO := [o 25 (.build [aE, (aI 0), (aI 0), (aI 0), (aI 0), (aI 0)] []), on (st 6 4 25), o 5 (mi 1)]
def r60_5 : LO := [o 27 (mv 0), o 28 (.len true (T 27)), o 29 (fa 0 3), o 30 (ld 29), o 31 (.bin .gtr (T 28) (T 30)), o 26 (mv 31)]
def r60_6 : LO := [o 32 (.build [aE, (aI 0), (aI 0), (aI 0), (aI 0), (aI 0)] []), on (st 6 4 32), o 5 (mi 3)]
def k60_1 : ACode := .cond (T 26) (.seq (.region r60_6) .ret) .skip
def k60_2 : ACode := .seq (.region r60_5) k60_1
def k60_3 : ACode := .cond (T 6) (.seq (.region r60_2) .ret) k60_2
def k60_4 : ACode := .seq (.region r60_1) k60_3
def r60_15 : LO := [o 33 (mv 0), o 34 (mv 0), o 35 (.len true (T 34)), o 36 (fa 1 3), o 37 (ld 36), o 38 (fa 2 3), o 39 (ld 38), o 40 (fa 3 3), o 41 (ld 40), o 42 (.build [aE, (aI 0), (aI 0), (aI 0), (aI 0), (aI 0)] [((0, 1), (T 33)), ((2, 1), (T 35)), ((3, 1), (T 37)), ((4, 1), (T 39)), ((5, 1), (T 41))]), on (st 6 4 42), o 5 (mi 0)]
def k60_5 : ACode := .seq (.region r60_15) .ret
def k60_6 : ACode := .seq (.block 0 k60_4) k60_5
def k60_7 : ACode := .seq (.region r60_0) k60_6
theorem fn60 : getFn Tryz.prog 60 = some (43, k60_7, [.cell 4 (some 6), .tmp 5]) := by kernel_rfl
end
section
attribute [-simp] List.map_take List.map_drop List.map_append List.map_set List.map_replicate List.map_cons List.map_map
attribute [local simp] plain plainL lowE lowB keepB low lowL lowLL plm_I_i8 plm_I_i16 plm_I_i32 plm_I_i64 plm_I_u8 plm_I_u16 plm_I_u32 plm_I_u64 plm_Bool plm_Str gfn_fi gfn_cap plm_Fn pl_GOp plm_GOp pl_GProg plm_GProg pl_GRaw plm_GRaw pl_GValue plm_GValue pl_GPair plm_GPair pl_GSlot plm_GSlot pl_GNote plm_GNote pl_GItem plm_GItem pl_GSpan plm_GSpan pl_GEnum plm_GEnum pl_GPlan plm_GPlan pl_GS26 plm_GS26 pl_GCursor plm_GCursor pl_GLimits eI_i8 eI_i16 eI_i32 eI_i64 eI_u8 eI_u16 eI_u32 eI_u64 eBool eStr eFn lwr_Bool lwm_I_u8 lwm_GEnum lwc_GValue lwc_GEnum lwc_GPlan lwc_GCursor
def r61_0 : LO := [o 4 (.alloc zV), o 5 (mi 0)]
def r61_1 : LO := [o 14 (.build zV [((0, 1), (ci 10))]), o 6 (.alloc zV), on (st 7 6 14)]
def r61_2 : LO := [o 15 (mv 0), o 16 (.nilCheck (T 15)), o 17 (fa 2 16), o 18 (fa 3 17), o 19 (ld 18), o 20 (.bin .lss (T 19) (ci 1))]
def r61_3 : LO := [o 21 (ln 7 6), on (st 7 4 21), o 5 (mi 17)]
def k61_1 : ACode := .cond (T 20) (.seq (.region r61_3) .ret) .skip
def k61_2 : ACode := .seq (.region r61_2) k61_1
def r61_9 : LO := [o 22 (mv 0), o 23 (.call (cf 113) [(T 22), (ci 1)]), o 7 (mv 23)]
def r61_10 : LO := [o 24 (mv 7), o 25 (.bin .neq (T 24) (ci 0))]
def r61_11 : LO := [o 26 (ln 7 6), o 27 (mv 7), on (st 7 4 26), o 5 (mv 27)]
def k61_3 : ACode := .cond (T 25) (.seq (.region r61_11) .ret) .skip
def k61_4 : ACode := .seq (.region r61_10) k61_3
def r61_18 : LO := [o 28 (mv 0), o 29 (.nilCheck (T 28)), o 30 (fa 2 29), o 31 (fa 3 30), o 32 (ld 31), o 33 (.bin .sub (T 32) (ci 1)), o 34 (.nilCheck (T 28)), o 35 (fa 2 34), o 36 (fa 3 35), on (st 1 36 33)]
def r61_19 : LO := [o 37 (mv 0), o 38 (.nilCheck (T 37)), o 39 (fa 0 38), o 40 (fa 0 39), o 41 (ld 40), o 42 (mv 1), o 43 (.idxSl 3 (T 41) (T 42)), o 44 (ln 3 43), o 8 (.alloc [aE, .nil, (aI 0)]), on (st 3 8 44)]
def r61_20 : LO := [o 9 (mi 0)]
def r61_21 : LO := [o 10 (.alloc [(aI 0), aE, aE, (aI 0), (aI 0), (aI 0), (aI 0), (aI 0)])]
def r61_22 : LO := [o 11 (.alloc zV)]
def r61_23 : LO := [o 12 (mb false)]
def r61_24 : LO := [o 13 (mi 0)]
def r61_26 : LO := [o 45 (mv 9), o 46 (fa 1 8), o 47 (ld 46), o 48 (.len false (T 47)), o 49 (.bin .eql (T 45) (T 48))]
def r61_27 : LO := [o 50 (mv 0), o 51 (.nilCheck (T 50)), o 52 (fa 2 51), o 53 (fa 3 52), o 54 (ld 53), o 55 (.bin .add (T 54) (ci 1)), o 56 (.nilCheck (T 50)), o 57 (fa 2 56), o 58 (fa 3 57), on (st 1 58 55)]
def r61_28 : LO := [o 59 (ln 7 6), on (st 7 4 59), o 5 (mi 0)]
def k61_5 : ACode := .seq (.region r61_28) .ret
def k61_6 : ACode := .cond (T 49) (.seq (.region r61_27) k61_5) .skip
def r61_35 : LO := [o 60 (fa 1 8), o 61 (ld 60), o 62 (mv 9), o 63 (.idxSl 8 (T 61) (T 62)), o 64 (ln 8 63), on (st 8 10 64)]
def r61_36 : LO := [o 65 (fa 3 10), o 66 (ld 65)]
def r61_37 : LO := [o 77 (.bin .eql (T 66) (ci 1)), o 76 (mv 77)]
def r61_38 : LO := [o 79 (mv 0), o 80 (ln 8 10), o 81 (.call (cf 114) [(T 79), (T 80)]), o 78 (mv 81), o 82 (.extract 0 (T 78)), o 83 (.extract 1 (T 78)), on (st 7 11 82), o 13 (mv 83)]
def r61_39 : LO := [o 12 (mb true)]
def r61_41 : LO := [o 85 (.bin .eql (T 66) (ci 4)), o 84 (mv 85)]
def r61_42 : LO := [o 87 (mv 0), o 88 (ln 8 10), o 89 (.call (cf 115) [(T 87), (T 88)]), o 86 (mv 89), o 90 (.extract 0 (T 86)), o 91 (.extract 1 (T 86)), on (st 7 11 90), o 13 (mv 91)]
def r61_43 : LO := [o 92 (fa 3 11), o 93 (ld 92), o 94 (.len false (T 93)), o 95 (.bin .gtr (T 94) (ci 0)), o 12 (mv 95)]
def r61_45 : LO := [o 97 (.bin .eql (T 66) (ci 5)), o 96 (mv 97)]
def r61_46 : LO := [o 99 (mv 0), o 100 (ln 8 10), o 101 (.call (cf 116) [(T 99), (T 100)]), o 98 (mv 101), o 102 (.extract 0 (T 98)), o 103 (.extract 1 (T 98)), on (st 7 11 102), o 13 (mv 103)]
def r61_47 : LO := [o 104 (fa 4 11), o 105 (ld 104), o 106 (.len false (T 105)), o 107 (.bin .gtr (T 106) (ci 0)), o 12 (mv 107)]
def r61_49 : LO := [o 68 (mv 0), o 69 (ln 3 8), o 70 (ln 7 6), o 71 (ln 8 10), o 72 (.call (cf 117) [(T 68), (T 69), (T 70), (T 71)]), o 67 (mv 72), o 73 (.extract 0 (T 67)), o 74 (.extract 1 (T 67)), o 75 (.extract 2 (T 67)), on (st 7 11 73), o 12 (mv 74), o 13 (mv 75)]
def k61_7 : ACode := .cond (T 96) (.seq (.region r61_46) (.region r61_47)) (.region r61_49)
def k61_8 : ACode := .cond (T 84) (.seq (.region r61_42) (.region r61_43)) (.seq (.region r61_45) k61_7)
def k61_9 : ACode := .cond (T 76) (.seq (.region r61_38) (.region r61_39)) (.seq (.region r61_41) k61_8)
def k61_10 : ACode := .block 0 (.seq (.region r61_37) k61_9)
def k61_11 : ACode := .seq (.region r61_36) k61_10
def r61_58 : LO := [o 108 (mv 13), o 109 (.bin .neq (T 108) (ci 0))]
def r61_59 : LO := [o 110 (ln 7 6), o 111 (mv 13), on (st 7 4 110), o 5 (mv 111)]
def k61_12 : ACode := .cond (T 109) (.seq (.region r61_59) .ret) .skip
def k61_13 : ACode := .seq (.region r61_58) k61_12
def r61_65 : LO := [o 112 (mv 12)]
def r61_66 : LO := [o 113 (fa 5 6), o 114 (ld 113), o 115 (fa 0 10), o 116 (ld 115), o 117 (ln 7 11), o 118 (.build [(aI 0), (aI 0), (aU 0), aE, .nil, .nil, .nil, .nil] [((0, 1), (T 116)), ((1, 7), (T 117))]), o 119 (.sliceLit 8 1 [(aI 0), (aI 0), (aU 0), aE, .nil, .nil, .nil, .nil] [((0, 8), (T 118))]), o 120 (.append 8 136 (T 114) (T 119)), o 121 (fa 5 6), on (st 1 121 120)]
def k61_14 : ACode := .cond (T 112) (.region r61_66) .skip
def r61_70 : LO := [o 122 (mv 9), o 123 (.bin .add (T 122) (ci 1)), o 9 (mv 123)]
def k61_15 : ACode := .seq (.region r61_70) (.goto 0)
def k61_16 : ACode := .seq (.seq (.region r61_65) k61_14) k61_15
def k61_17 : ACode := .seq k61_13 k61_16
def k61_18 : ACode := .seq k61_11 k61_17
def k61_19 : ACode := .seq (.region r61_35) k61_18
def k61_20 : ACode := .seq (.seq (.region r61_26) k61_6) k61_19
def k61_21 : ACode := .seq (.label 0) k61_20
def k61_22 : ACode := .seq (.region r61_24) k61_21
def k61_23 : ACode := .seq (.region r61_23) k61_22
def k61_24 : ACode := .seq (.region r61_22) k61_23
def k61_25 : ACode := .seq (.region r61_21) k61_24
def k61_26 : ACode := .seq (.region r61_20) k61_25
def k61_27 : ACode := .seq (.region r61_19) k61_26
def k61_28 : ACode := .seq (.region r61_18) k61_27
def k61_29 : ACode := .seq (.seq (.region r61_9) k61_4) k61_28
def k61_30 : ACode := .seq k61_2 k61_29
def k61_31 : ACode := .seq (.region r61_1) k61_30
def k61_32 : ACode := .seq (.region r61_0) (.scope k61_31)
theorem fn61 : getFn Tryz.prog 61 = some (124, k61_32, [.cell 4 (some 7), .tmp 5]) := by kernel_rfl
theorem plr62 (r : Int) : plain (e62 r) = true := rfl
def r62_0 : LO := [o 1 (bx 0), o 2 (mi 0)]
def r62_1 : LO := [o 3 (ln 6 1), o 4 (.call (cf 118) [(T 3)]), o 5 (.un .not (T 4))]
def r62_2 : LO := [o 2 (mi 0)]
def k62_1 : ACode := .cond (T 5) (.seq (.region r62_2) .ret) .skip
def k62_2 : ACode := .seq (.region r62_1) k62_1
def r62_8 : LO := [o 6 (fa 2 1), o 7 (ld 6), o 8 (fa 1 1), o 9 (ld 8), o 10 (.bin .sub (T 7) (T 9)), o 2 (mv 10)]
def k62_3 : ACode := .seq (.region r62_8) .ret
def k62_4 : ACode := .seq k62_2 k62_3
def k62_5 : ACode := .seq (.region r62_0) k62_4
theorem fn62 : getFn Tryz.prog 62 = some (11, k62_5, [.tmp 2]) := by kernel_rfl
theorem cursor_Left_step (c : GCursor) (r : Int) (hw : ∃ y1, cursor_Sound c y1 /\ (((!y1) = true -> r = 0) /\ ((!y1) = false -> r = (wI (c.End - c.At))))) : cursor_Left c r := by
 refine f_pureD fn62 nle rfl (ds (vg 2 [(1, .ptr 0 0)] [(eGCursor c)] [] (ve (d_seqQ (ds (va 1 [(3, .agg (eGCursor c))] ?_))))))
 obtain ⟨y1, hy, hw⟩ := hw
 refine vo rfl (x_call hy pl118) rfl (va 1 [(5, aB (!y1))] (ve (dw hw (fun _ hw => ?_) (fun _ hw => ?_))))
 ·exact ds (va 1 [(2, aI 0)] (ve (d_ret (rx hw (plr62 _)))))
 exact d_skip (ds (va 6 [(2, aI (wI (c.End - c.At)))] (ve (d_ret (rx hw (plr62 _))))))
end
section
attribute [-simp] List.map_take List.map_drop List.map_append List.map_set List.map_replicate List.map_cons List.map_map
attribute [local simp] plain plainL lowE lowB keepB low lowL lowLL plm_I_i8 plm_I_i16 plm_I_i32 plm_I_i64 plm_I_u8 plm_I_u16 plm_I_u32 plm_I_u64 plm_Bool plm_Str gfn_fi gfn_cap plm_Fn pl_GOp plm_GOp pl_GProg plm_GProg pl_GRaw plm_GRaw pl_GValue plm_GValue pl_GPair plm_GPair pl_GSlot plm_GSlot pl_GNote plm_GNote pl_GItem plm_GItem pl_GSpan plm_GSpan pl_GEnum plm_GEnum pl_GPlan plm_GPlan pl_GS26 plm_GS26 pl_GCursor plm_GCursor pl_GLimits eI_i8 eI_i16 eI_i32 eI_i64 eI_u8 eI_u16 eI_u32 eI_u64 eBool eStr eFn lwr_Bool lwm_I_u8 lwm_GEnum lwc_GValue lwc_GEnum lwc_GPlan lwc_GCursor
theorem plr69 (r : Bool) : plain (e69 r) = true := rfl
def r69_0 : LO := [o 1 (bx 0), o 2 (mb false)]
def r69_1 : LO := [o 7 (fa 0 1), o 8 (ld 7), o 9 (.len false (T 8)), o 10 (.bin .leq (T 9) (ci 64)), o 11 (mv 10), og 12 (fa 1 1) 11 true, og 13 (ld 12) 11 true, og 14 (.len false (T 13)) 11 true, og 15 (.bin .leq (T 14) (ci 64)) 11 true, o 16 (.pick (T 11) (T 15) (cb false)), o 3 (mv 16)]
def r69_2 : LO := [o 4 (mi 0)]
def r69_3 : LO := [o 17 (mv 4), o 18 (fa 0 1), o 19 (ld 18), o 20 (.len false (T 19)), o 21 (.bin .lss (T 17) (T 20))]
def k69_1 : ACode := .cond (T 21) .skip (.exit 0)
def r69_8 : LO := [o 24 (mv 3), o 25 (mv 24), og 26 (fa 0 1) 25 true, og 27 (ld 26) 25 true, og 28 (mv 4) 25 true, og 29 (.idxSl 3 (T 27) (T 28)) 25 true, og 30 (fa 1 29) 25 true, og 31 (ld 30) 25 true, og 32 (.len false (T 31)) 25 true, og 33 (.bin .leq (T 32) (ci 64)) 25 true, o 34 (.pick (T 25) (T 33) (cb false)), o 3 (mv 34)]
def r69_10 : LO := [o 22 (mv 4), o 23 (.bin .add (T 22) (ci 1)), o 4 (mv 23)]
def k69_2 : ACode := .seq (.block 1 (.region r69_8)) (.region r69_10)
def k69_3 : ACode := .seq (.seq (.region r69_3) k69_1) k69_2
def k69_4 : ACode := .block 0 (.loop k69_3)
def r69_16 : LO := [o 5 (mi 0)]
def r69_17 : LO := [o 35 (mv 5), o 36 (fa 1 1), o 37 (ld 36), o 38 (.len false (T 37)), o 39 (.bin .lss (T 35) (T 38))]
def k69_5 : ACode := .cond (T 39) .skip (.exit 2)
def r69_22 : LO := [o 42 (fa 1 1), o 43 (ld 42), o 44 (mv 5), o 45 (.idxSl 5 (T 43) (T 44)), o 46 (fa 2 45), o 47 (ld 46), o 48 (.len false (T 47)), o 6 (mv 48)]
def r69_23 : LO := [o 49 (mv 3), o 50 (mv 49), og 51 (mv 6) 50 true, og 52 (.bin .geq (T 51) (ci 1)) 50 true, o 53 (.pick (T 50) (T 52) (cb false)), o 54 (mv 53), og 55 (mv 6) 54 true, og 56 (.bin .leq (T 55) (ci 64)) 54 true, o 57 (.pick (T 54) (T 56) (cb false)), o 58 (mv 57), og 59 (fa 1 1) 58 true, og 60 (ld 59) 58 true, og 61 (mv 5) 58 true, og 62 (.idxSl 5 (T 60) (T 61)) 58 true, og 63 (fa 3 62) 58 true, og 64 (ld 63) 58 true, og 65 (.len false (T 64)) 58 true, og 66 (.bin .leq (T 65) (ci 16)) 58 true, o 67 (.pick (T 58) (T 66) (cb false)), o 3 (mv 67)]
def r69_26 : LO := [o 40 (mv 5), o 41 (.bin .add (T 40) (ci 1)), o 5 (mv 41)]
def k69_6 : ACode := .seq (.block 3 (.seq (.region r69_22) (.region r69_23))) (.region r69_26)
def k69_7 : ACode := .seq (.seq (.region r69_17) k69_5) k69_6
def k69_8 : ACode := .block 2 (.loop k69_7)
def r69_32 : LO := [o 68 (mv 3), o 2 (mv 68)]
def k69_9 : ACode := .seq (.region r69_32) .ret
def k69_10 : ACode := .seq (.seq (.region r69_16) k69_8) k69_9
def k69_11 : ACode := .seq (.seq (.region r69_2) k69_4) k69_10
def k69_12 : ACode := .seq (.region r69_1) k69_11
def k69_13 : ACode := .seq (.region r69_0) k69_12
theorem fn69 : getFn Tryz.prog 69 = some (69, k69_13, [.tmp 2]) := by kernel_rfl
def q69_0 (r : Bool) : QP := qret [.tmp 2] (e69 r)
def q69_9 (r : Bool) : QP := tq Tryz.prog 69 k69_9 (q69_0 r)
def q69_11 (r : Bool) : QP := inBlockA 2 (q69_9 r)
def ref22_limits_j6 (ij5 : Int) (bj6 : Bool) (p : GPlan) (r : Bool) : Prop := DL Tryz.prog 69 0 0 k69_7 (q69_11 r) [(5, aI ij5), (3, aB bj6), (1, .ptr 0 0)] ⟨[some (eGPlan p)], [], []⟩
def q69_3 (r : Bool) : QP := tq Tryz.prog 69 k69_10 (q69_0 r)
def q69_5 (r : Bool) : QP := inBlockA 0 (q69_3 r)
def ref22_limits_j4 (ij3 : Int) (bj4 : Bool) (p : GPlan) (r : Bool) : Prop := DL Tryz.prog 69 0 0 k69_3 (q69_5 r) [(4, aI ij3), (3, aB bj4), (1, .ptr 0 0)] ⟨[some (eGPlan p)], [], []⟩
theorem ref22_limits_j6_step (ij5 : Int) (bj6 : Bool) (p : GPlan) (r : Bool) (hw : ((decide (ij5 < (p.Enums.length : Int))) = true -> ∃ y12, p.Enums[ij5.toNat]? = some y12 /\ 0 <= ij5 /\ ((((bj6 && (decide (1 <= (y12.Items.length : Int)))) && (decide ((y12.Items.length : Int) <= 64))) = true -> ∃ y14, p.Enums[ij5.toNat]? = some y14 /\ 0 <= ij5 /\ (ref22_limits_j6 (wI (ij5 + 1)) (decide ((y14.Reserved.length : Int) <= 16)) p r)) /\ (((bj6 && (decide (1 <= (y12.Items.length : Int)))) && (decide ((y12.Items.length : Int) <= 64))) = false -> ref22_limits_j6 (wI (ij5 + 1)) false p r))) /\ ((decide (ij5 < (p.Enums.length : Int))) = false -> r = bj6)) : ref22_limits_j6 ij5 bj6 p r := by
 refine dl_unroll (d_seqQ (ds (va 3 [(37, .sl (List.map eGEnum p.Enums) .no), (35, aI ij5)] (vo rfl (x_len p.Enums eGEnum) rfl (va 1 [(39, aB (decide (ij5 < (p.Enums.length : Int))))] (ve (dw hw (fun _ hw => ?_) (fun _ hw => ?_))))))))
 ·refine d_skip (d_seqQ (d_blockQ (ds (va 3 [(44, aI ij5), (43, .sl (List.map eGEnum p.Enums) .no)] ?_))))
  obtain ⟨y12, hy, h0, hw⟩ := hw
  refine vo rfl (x_idx h0 hy (rfl : eGEnum y12 = eGEnum y12)) rfl (va 2 [(47, .sl (List.map eGItem y12.Items) .no)] (vo rfl (x_len y12.Items eGItem) rfl (va 1 [(6, aI (y12.Items.length : Int))] (ve (dr (va 2 [(50, aB bj6)] (vj 50 53 5 bj6 (fun z => aB (z && (decide (1 <= (y12.Items.length : Int))))) km_d (fun _ key => ?_) (fun _ key => ?_) ?_)))))))
  ·exact va 2 [(52, aB (decide (1 <= (y12.Items.length : Int))))] (va 1 [(53, aB (decide (1 <= (y12.Items.length : Int))))] (vle km_d key))
  ·exact va 2 [(52, .tuple [])] (va 1 [(53, aB false)] (vle km_d key))
  refine va 1 [(54, aB (bj6 && (decide (1 <= (y12.Items.length : Int)))))] (vj 54 57 9 (bj6 && (decide (1 <= (y12.Items.length : Int)))) (fun z => aB (z && (decide ((y12.Items.length : Int) <= 64)))) km_d (fun _ key => ?_) (fun _ key => ?_) ?_)
  ·exact va 2 [(56, aB (decide ((y12.Items.length : Int) <= 64)))] (va 1 [(57, aB (decide ((y12.Items.length : Int) <= 64)))] (vle km_d key))
  ·exact va 2 [(56, .tuple [])] (va 1 [(57, aB false)] (vle km_d key))
  refine va 1 [(58, aB ((bj6 && (decide (1 <= (y12.Items.length : Int)))) && (decide ((y12.Items.length : Int) <= 64))))] (vw2 58 hw (fun _ hw => ?_) (fun _ hw => ?_))
  ·refine va 3 [(61, aI ij5), (60, .sl (List.map eGEnum p.Enums) .no)] ?_
   obtain ⟨y14, hy, h0, hw⟩ := hw
   exact vo rfl (x_idx h0 hy (rfl : eGEnum y14 = eGEnum y14)) rfl (va 2 [(64, .sl (List.map eGSpan y14.Reserved) .no)] (vo rfl (x_len y14.Reserved eGSpan) rfl (va 3 [(3, aB (decide ((y14.Reserved.length : Int) <= 16)))] (ve (dr (va 3 [(5, aI (wI (ij5 + 1)))] (ve (jl0 hw))))))))
  exact va 10 [(3, aB false)] (ve (dr (va 3 [(5, aI (wI (ij5 + 1)))] (ve (jl0 hw)))))
 exact d_exit (ds (va 2 [(2, aB bj6)] (ve (d_ret (rx hw (plr69 _))))))
theorem ref22_limits_j4_step (ij3 : Int) (bj4 : Bool) (p : GPlan) (r : Bool) (hw : ((decide (ij3 < (p.Progs.length : Int))) = true -> (bj4 = true -> ∃ y16, p.Progs[ij3.toNat]? = some y16 /\ 0 <= ij3 /\ (ref22_limits_j4 (wI (ij3 + 1)) (decide ((y16.Ops.length : Int) <= 64)) p r)) /\ (bj4 = false -> ref22_limits_j4 (wI (ij3 + 1)) false p r)) /\ ((decide (ij3 < (p.Progs.length : Int))) = false -> ref22_limits_j6 0 bj4 p r)) : ref22_limits_j4 ij3 bj4 p r := by
 refine dl_unroll (d_seqQ (ds (va 3 [(19, .sl (List.map eGProg p.Progs) .no), (17, aI ij3)] (vo rfl (x_len p.Progs eGProg) rfl (va 1 [(21, aB (decide (ij3 < (p.Progs.length : Int))))] (ve (dw hw (fun _ hw => ?_) (fun _ hw => ?_))))))))
 ·refine d_skip (d_seqQ (d_blockQ (dr (va 2 [(25, aB bj4)] (vw2 25 hw (fun _ hw => ?_) (fun _ hw => ?_))))))
  ·refine va 3 [(28, aI ij3), (27, .sl (List.map eGProg p.Progs) .no)] ?_
   obtain ⟨y16, hy, h0, hw⟩ := hw
   exact vo rfl (x_idx h0 hy (rfl : eGProg y16 = eGProg y16)) rfl (va 2 [(31, .sl (List.map eGOp y16.Ops) .no)] (vo rfl (x_len y16.Ops eGOp) rfl (va 3 [(3, aB (decide ((y16.Ops.length : Int) <= 64)))] (ve (dr (va 3 [(4, aI (wI (ij3 + 1)))] (ve (jl0 hw))))))))
  exact va 10 [(3, aB false)] (ve (dr (va 3 [(4, aI (wI (ij3 + 1)))] (ve (jl0 hw)))))
 exact d_exit (d_seqQ (ds (va 1 [(5, aI 0)] (ve (d_blockQ (d_loopQ (jl0 hw)))))))
theorem ref22_limits_step (p : GPlan) (r : Bool) (hw : ref22_limits_j4 0 ((decide ((p.Progs.length : Int) <= 64)) && (decide ((p.Enums.length : Int) <= 64))) p r) : ref22_limits p r := by
 refine f_pureD fn69 nle rfl (ds (vg 2 [(1, .ptr 0 0)] [(eGPlan p)] [] (ve (ds (va 2 [(8, .sl (List.map eGProg p.Progs) .no)] (vo rfl (x_len p.Progs eGProg) rfl (va 2 [(11, aB (decide ((p.Progs.length : Int) <= 64)))] (vj 11 16 10 (decide ((p.Progs.length : Int) <= 64)) (fun z => aB (z && (decide ((p.Enums.length : Int) <= 64)))) km_d (fun _ key => ?_) (fun _ key => ?_) ?_))))))))
 ·exact va 2 [(13, .sl (List.map eGEnum p.Enums) .no)] (vo rfl (x_len p.Enums eGEnum) rfl (va 1 [(15, aB (decide ((p.Enums.length : Int) <= 64)))] (va 1 [(16, aB (decide ((p.Enums.length : Int) <= 64)))] (vle km_d key))))
 ·exact va 4 [(15, .tuple [])] (va 1 [(16, aB false)] (vle km_d key))
 exact va 1 [(3, aB ((decide ((p.Progs.length : Int) <= 64)) && (decide ((p.Enums.length : Int) <= 64))))] (ve (d_seqQ (ds (va 1 [(4, aI 0)] (ve (d_blockQ (d_loopQ (jl0 hw))))))))
theorem plr70 (r : Bool) : plain (e70 r) = true := rfl
def r70_0 : LO := [o 1 (bx 0), o 2 (mb false)]
def r70_1 : LO := [o 3 (mb true)]
def r70_2 : LO := [o 4 (mi 0)]
def r70_3 : LO := [o 8 (mv 4), o 9 (fa 0 1), o 10 (ld 9), o 11 (.len false (T 10)), o 12 (.bin .lss (T 8) (T 11))]
def k70_1 : ACode := .cond (T 12) .skip (.exit 0)
def r70_8 : LO := [o 15 (mv 3), o 16 (mv 15), og 17 (fa 0 1) 16 true, og 18 (ld 17) 16 true, og 19 (mv 4) 16 true, og 20 (.idxSl 3 (T 18) (T 19)) 16 true, og 21 (fa 0 20) 16 true, og 22 (ld 21) 16 true, og 23 (.call (cf 130) [(T 22)]) 16 true, o 24 (.pick (T 16) (T 23) (cb false)), o 3 (mv 24)]
def r70_9 : LO := [o 5 (mi 0)]
def r70_10 : LO := [o 25 (mv 5), o 26 (fa 0 1), o 27 (ld 26), o 28 (mv 4), o 29 (.idxSl 3 (T 27) (T 28)), o 30 (fa 1 29), o 31 (ld 30), o 32 (.len false (T 31)), o 33 (.bin .lss (T 25) (T 32))]
def k70_2 : ACode := .cond (T 33) .skip (.exit 2)
def r70_15 : LO := [o 36 (mv 3), o 37 (mv 36), og 38 (fa 0 1) 37 true, og 39 (ld 38) 37 true, og 40 (mv 4) 37 true, og 41 (.idxSl 3 (T 39) (T 40)) 37 true, og 42 (fa 1 41) 37 true, og 43 (ld 42) 37 true, og 44 (mv 5) 37 true, og 45 (.idxSl 8 (T 43) (T 44)) 37 true, og 46 (fa 1 45) 37 true, og 47 (ld 46) 37 true, og 48 (.call (cf 131) [(T 47)]) 37 true, o 49 (.pick (T 37) (T 48) (cb false)), o 3 (mv 49)]
def r70_17 : LO := [o 34 (mv 5), o 35 (.bin .add (T 34) (ci 1)), o 5 (mv 35)]
def k70_3 : ACode := .seq (.block 3 (.region r70_15)) (.region r70_17)
def k70_4 : ACode := .seq (.seq (.region r70_10) k70_2) k70_3
def k70_5 : ACode := .block 2 (.loop k70_4)
def k70_6 : ACode := .seq (.region r70_9) k70_5
def k70_7 : ACode := .seq (.region r70_8) k70_6
def r70_25 : LO := [o 13 (mv 4), o 14 (.bin .add (T 13) (ci 1)), o 4 (mv 14)]
def k70_8 : ACode := .seq (.block 1 k70_7) (.region r70_25)
def k70_9 : ACode := .seq (.seq (.region r70_3) k70_1) k70_8
def k70_10 : ACode := .block 0 (.loop k70_9)
def r70_31 : LO := [o 6 (mi 0)]
def r70_32 : LO := [o 50 (mv 6), o 51 (fa 1 1), o 52 (ld 51), o 53 (.len false (T 52)), o 54 (.bin .lss (T 50) (T 53))]
def k70_11 : ACode := .cond (T 54) .skip (.exit 4)
def r70_37 : LO := [o 57 (mv 3), o 58 (mv 57), og 59 (fa 1 1) 58 true, og 60 (ld 59) 58 true, og 61 (mv 6) 58 true, og 62 (.idxSl 5 (T 60) (T 61)) 58 true, og 63 (fa 0 62) 58 true, og 64 (ld 63) 58 true, og 65 (.call (cf 130) [(T 64)]) 58 true, o 66 (.pick (T 58) (T 65) (cb false)), o 3 (mv 66)]
def r70_38 : LO := [o 7 (mi 0)]
def r70_39 : LO := [o 67 (mv 7), o 68 (fa 1 1), o 69 (ld 68), o 70 (mv 6), o 71 (.idxSl 5 (T 69) (T 70)), o 72 (fa 2 71), o 73 (ld 72), o 74 (.len false (T 73)), o 75 (.bin .lss (T 67) (T 74))]
def k70_12 : ACode := .cond (T 75) .skip (.exit 6)
def r70_44 : LO := [o 78 (mv 3), o 79 (mv 78), og 80 (fa 1 1) 79 true, og 81 (ld 80) 79 true, og 82 (mv 6) 79 true, og 83 (.idxSl 5 (T 81) (T 82)) 79 true, og 84 (fa 2 83) 79 true, og 85 (ld 84) 79 true, og 86 (mv 7) 79 true, og 87 (.idxSl 3 (T 85) (T 86)) 79 true, og 88 (fa 0 87) 79 true, og 89 (ld 88) 79 true, og 90 (.call (cf 131) [(T 89)]) 79 true, o 91 (.pick (T 79) (T 90) (cb false)), o 3 (mv 91)]
def r70_46 : LO := [o 76 (mv 7), o 77 (.bin .add (T 76) (ci 1)), o 7 (mv 77)]
def k70_13 : ACode := .seq (.block 7 (.region r70_44)) (.region r70_46)
def k70_14 : ACode := .seq (.seq (.region r70_39) k70_12) k70_13
def k70_15 : ACode := .block 6 (.loop k70_14)
def k70_16 : ACode := .seq (.region r70_38) k70_15
def k70_17 : ACode := .seq (.region r70_37) k70_16
def r70_54 : LO := [o 55 (mv 6), o 56 (.bin .add (T 55) (ci 1)), o 6 (mv 56)]
def k70_18 : ACode := .seq (.block 5 k70_17) (.region r70_54)
def k70_19 : ACode := .seq (.seq (.region r70_32) k70_11) k70_18
def k70_20 : ACode := .block 4 (.loop k70_19)
def r70_60 : LO := [o 92 (mv 3), o 2 (mv 92)]
def k70_21 : ACode := .seq (.region r70_60) .ret
def k70_22 : ACode := .seq (.seq (.region r70_31) k70_20) k70_21
def k70_23 : ACode := .seq (.seq (.region r70_2) k70_10) k70_22
def k70_24 : ACode := .seq (.region r70_1) k70_23
def k70_25 : ACode := .seq (.region r70_0) k70_24
theorem fn70 : getFn Tryz.prog 70 = some (93, k70_25, [.tmp 2]) := by kernel_rfl
def q70_0 (r : Bool) : QP := qret [.tmp 2] (e70 r)
def q70_9 (r : Bool) : QP := tq Tryz.prog 93 k70_21 (q70_0 r)
def q70_11 (r : Bool) : QP := inBlockA 4 (q70_9 r)
def q70_12 (r : Bool) : QP := tl Tryz.prog 93 k70_19 (q70_11 r)
def q70_16 (r : Bool) : QP := tq Tryz.prog 93 (.region r70_54) (q70_12 r)
def q70_17 (r : Bool) : QP := inBlockA 5 (q70_16 r)
def q70_20 (r : Bool) : QP := inBlockA 6 (q70_17 r)
def ref22_names_j16 (ij15 : Int) (bj16 : Bool) (ij13 : Int) (p : GPlan) (r : Bool) : Prop := DL Tryz.prog 93 0 0 k70_14 (q70_20 r) [(7, aI ij15), (3, aB bj16), (6, aI ij13), (1, .ptr 0 0)] ⟨[some (eGPlan p)], [], []⟩
def ref22_names_j14 (ij13 : Int) (bj14 : Bool) (p : GPlan) (r : Bool) : Prop := DL Tryz.prog 93 0 0 k70_19 (q70_11 r) [(6, aI ij13), (3, aB bj14), (1, .ptr 0 0)] ⟨[some (eGPlan p)], [], []⟩
def q70_3 (r : Bool) : QP := tq Tryz.prog 93 k70_22 (q70_0 r)
def q70_5 (r : Bool) : QP := inBlockA 0 (q70_3 r)
def q70_6 (r : Bool) : QP := tl Tryz.prog 93 k70_9 (q70_5 r)
def q70_26 (r : Bool) : QP := tq Tryz.prog 93 (.region r70_25) (q70_6 r)
def q70_27 (r : Bool) : QP := inBlockA 1 (q70_26 r)
def q70_30 (r : Bool) : QP := inBlockA 2 (q70_27 r)
def ref22_names_j18 (ij17 : Int) (bj18 : Bool) (ij9 : Int) (p : GPlan) (r : Bool) : Prop := DL Tryz.prog 93 0 0 k70_4 (q70_30 r) [(5, aI ij17), (3, aB bj18), (4, aI ij9), (1, .ptr 0 0)] ⟨[some (eGPlan p)], [], []⟩
def ref22_names_j10 (ij9 : Int) (bj10 : Bool) (p : GPlan) (r : Bool) : Prop := DL Tryz.prog 93 0 0 k70_9 (q70_5 r) [(4, aI ij9), (3, aB bj10), (1, .ptr 0 0)] ⟨[some (eGPlan p)], [], []⟩
theorem ref22_names_j16_step (ij15 : Int) (bj16 : Bool) (ij13 : Int) (p : GPlan) (r : Bool) (hw : ∃ y59, p.Enums[ij13.toNat]? = some y59 /\ 0 <= ij13 /\ (((decide (ij15 < (y59.Items.length : Int))) = true -> (bj16 = true -> ∃ y61, p.Enums[ij13.toNat]? = some y61 /\ 0 <= ij13 /\ (∃ y62, y61.Items[ij15.toNat]? = some y62 /\ 0 <= ij15 /\ (∃ y63, ref22_simple y62.Name y63 /\ (ref22_names_j16 (wI (ij15 + 1)) y63 ij13 p r)))) /\ (bj16 = false -> ref22_names_j16 (wI (ij15 + 1)) false ij13 p r)) /\ ((decide (ij15 < (y59.Items.length : Int))) = false -> ref22_names_j14 (wI (ij13 + 1)) bj16 p r))) : ref22_names_j16 ij15 bj16 ij13 p r := by
 refine dl_unroll (d_seqQ (ds (va 4 [(70, aI ij13), (69, .sl (List.map eGEnum p.Enums) .no), (67, aI ij15)] ?_)))
 obtain ⟨y59, hy, h0, hw⟩ := hw
 refine vo rfl (x_idx h0 hy (rfl : eGEnum y59 = eGEnum y59)) rfl (va 2 [(73, .sl (List.map eGItem y59.Items) .no)] (vo rfl (x_len y59.Items eGItem) rfl (va 1 [(75, aB (decide (ij15 < (y59.Items.length : Int))))] (ve (dw hw (fun _ hw => ?_) (fun _ hw => ?_))))))
 ·refine d_skip (d_seqQ (d_blockQ (dr (va 2 [(79, aB bj16)] (vw2 79 hw (fun _ hw => ?_) (fun _ hw => ?_))))))
  ·refine va 3 [(82, aI ij13), (81, .sl (List.map eGEnum p.Enums) .no)] ?_
   obtain ⟨y61, hy, h0, hw⟩ := hw
   refine vo rfl (x_idx h0 hy (rfl : eGEnum y61 = eGEnum y61)) rfl (va 3 [(86, aI ij15), (85, .sl (List.map eGItem y61.Items) .no)] ?_)
   obtain ⟨y62, hy, h0, hw⟩ := hw
   refine vo rfl (x_idx h0 hy (rfl : eGItem y62 = eGItem y62)) rfl (va 2 [(89, aS y62.Name)] ?_)
   obtain ⟨y63, hy, hw⟩ := hw
   exact vo rfl (x_call hy pl131) rfl (va 2 [(3, aB y63)] (ve (dr (va 3 [(7, aI (wI (ij15 + 1)))] (ve (jl0 hw))))))
  exact va 13 [(3, aB false)] (ve (dr (va 3 [(7, aI (wI (ij15 + 1)))] (ve (jl0 hw)))))
 exact d_exit (dr (va 3 [(6, aI (wI (ij13 + 1)))] (ve (jl0 hw))))
theorem ref22_names_j14_step (ij13 : Int) (bj14 : Bool) (p : GPlan) (r : Bool) (hw : ((decide (ij13 < (p.Enums.length : Int))) = true -> ∃ R3 : Bool -> Prop, (∀ bz3 : Bool, R3 bz3 -> (ref22_names_j16 0 bz3 ij13 p r)) /\ ((bj14 = true -> ∃ y52, p.Enums[ij13.toNat]? = some y52 /\ 0 <= ij13 /\ (∃ y53, ref22_defined y52.Name y53 /\ (R3 y53))) /\ (bj14 = false -> R3 false))) /\ ((decide (ij13 < (p.Enums.length : Int))) = false -> r = bj14)) : ref22_names_j14 ij13 bj14 p r := by
 refine dl_unroll (d_seqQ (ds (va 3 [(52, .sl (List.map eGEnum p.Enums) .no), (50, aI ij13)] (vo rfl (x_len p.Enums eGEnum) rfl (va 1 [(54, aB (decide (ij13 < (p.Enums.length : Int))))] (ve (dw hw (fun _ hw => ?_) (fun _ hw => ?_))))))))
 ·refine d_skip (d_seqQ (d_blockQ (ds (va 2 [(58, aB bj14)] ?_))))
  obtain ⟨R3, hR, hw⟩ := hw
  refine vr 58 66 10 bj14 R3 (fun bz3 => aB bz3) km_d (fun bz3 hz => ?_) (fun key => ⟨fun hb36 => ?_, fun hb36 => ?_⟩)
  ·have hw := hR bz3 hz
   exact va 1 [(3, aB bz3)] (ve (ds (va 1 [(7, aI 0)] (ve (d_blockQ (d_loopQ (jl0 hw)))))))
  ·have hw := hw.1 hb36
   refine va 3 [(61, aI ij13), (60, .sl (List.map eGEnum p.Enums) .no)] ?_
   obtain ⟨y52, hy, h0, hw⟩ := hw
   refine vo rfl (x_idx h0 hy (rfl : eGEnum y52 = eGEnum y52)) rfl (va 2 [(64, aS y52.Name)] ?_)
   obtain ⟨y53, hy, hw⟩ := hw
   exact vo rfl (x_call hy pl130) rfl (va 1 [(66, aB y53)] (vle km_d (key _ hw)))
  ·have hw := hw.2 hb36
   exact va 7 [(65, .tuple [])] (va 1 [(66, aB false)] (vle km_d (key _ hw)))
 exact d_exit (ds (va 2 [(2, aB bj14)] (ve (d_ret (rx hw (plr70 _))))))
theorem ref22_names_j18_step (ij17 : Int) (bj18 : Bool) (ij9 : Int) (p : GPlan) (r : Bool) (hw : ∃ y72, p.Progs[ij9.toNat]? = some y72 /\ 0 <= ij9 /\ (((decide (ij17 < (y72.Ops.length : Int))) = true -> (bj18 = true -> ∃ y74, p.Progs[ij9.toNat]? = some y74 /\ 0 <= ij9 /\ (∃ y75, y74.Ops[ij17.toNat]? = some y75 /\ 0 <= ij17 /\ (∃ y76, ref22_simple y75.Name y76 /\ (ref22_names_j18 (wI (ij17 + 1)) y76 ij9 p r)))) /\ (bj18 = false -> ref22_names_j18 (wI (ij17 + 1)) false ij9 p r)) /\ ((decide (ij17 < (y72.Ops.length : Int))) = false -> ref22_names_j10 (wI (ij9 + 1)) bj18 p r))) : ref22_names_j18 ij17 bj18 ij9 p r := by
 refine dl_unroll (d_seqQ (ds (va 4 [(28, aI ij9), (27, .sl (List.map eGProg p.Progs) .no), (25, aI ij17)] ?_)))
 obtain ⟨y72, hy, h0, hw⟩ := hw
 refine vo rfl (x_idx h0 hy (rfl : eGProg y72 = eGProg y72)) rfl (va 2 [(31, .sl (List.map eGOp y72.Ops) .no)] (vo rfl (x_len y72.Ops eGOp) rfl (va 1 [(33, aB (decide (ij17 < (y72.Ops.length : Int))))] (ve (dw hw (fun _ hw => ?_) (fun _ hw => ?_))))))
 ·refine d_skip (d_seqQ (d_blockQ (dr (va 2 [(37, aB bj18)] (vw2 37 hw (fun _ hw => ?_) (fun _ hw => ?_))))))
  ·refine va 3 [(40, aI ij9), (39, .sl (List.map eGProg p.Progs) .no)] ?_
   obtain ⟨y74, hy, h0, hw⟩ := hw
   refine vo rfl (x_idx h0 hy (rfl : eGProg y74 = eGProg y74)) rfl (va 3 [(44, aI ij17), (43, .sl (List.map eGOp y74.Ops) .no)] ?_)
   obtain ⟨y75, hy, h0, hw⟩ := hw
   refine vo rfl (x_idx h0 hy (rfl : eGOp y75 = eGOp y75)) rfl (va 2 [(47, aS y75.Name)] ?_)
   obtain ⟨y76, hy, hw⟩ := hw
   exact vo rfl (x_call hy pl131) rfl (va 2 [(3, aB y76)] (ve (dr (va 3 [(5, aI (wI (ij17 + 1)))] (ve (jl0 hw))))))
  exact va 13 [(3, aB false)] (ve (dr (va 3 [(5, aI (wI (ij17 + 1)))] (ve (jl0 hw)))))
 exact d_exit (dr (va 3 [(4, aI (wI (ij9 + 1)))] (ve (jl0 hw))))
theorem ref22_names_j10_step (ij9 : Int) (bj10 : Bool) (p : GPlan) (r : Bool) (hw : ((decide (ij9 < (p.Progs.length : Int))) = true -> ∃ R4 : Bool -> Prop, (∀ bz4 : Bool, R4 bz4 -> (ref22_names_j18 0 bz4 ij9 p r)) /\ ((bj10 = true -> ∃ y65, p.Progs[ij9.toNat]? = some y65 /\ 0 <= ij9 /\ (∃ y66, ref22_defined y65.Name y66 /\ (R4 y66))) /\ (bj10 = false -> R4 false))) /\ ((decide (ij9 < (p.Progs.length : Int))) = false -> ref22_names_j14 0 bj10 p r)) : ref22_names_j10 ij9 bj10 p r := by
 refine dl_unroll (d_seqQ (ds (va 3 [(10, .sl (List.map eGProg p.Progs) .no), (8, aI ij9)] (vo rfl (x_len p.Progs eGProg) rfl (va 1 [(12, aB (decide (ij9 < (p.Progs.length : Int))))] (ve (dw hw (fun _ hw => ?_) (fun _ hw => ?_))))))))
 ·refine d_skip (d_seqQ (d_blockQ (ds (va 2 [(16, aB bj10)] ?_))))
  obtain ⟨R4, hR, hw⟩ := hw
  refine vr 16 24 10 bj10 R4 (fun bz4 => aB bz4) km_d (fun bz4 hz => ?_) (fun key => ⟨fun hb44 => ?_, fun hb44 => ?_⟩)
  ·have hw := hR bz4 hz
   exact va 1 [(3, aB bz4)] (ve (ds (va 1 [(5, aI 0)] (ve (d_blockQ (d_loopQ (jl0 hw)))))))
  ·have hw := hw.1 hb44
   refine va 3 [(19, aI ij9), (18, .sl (List.map eGProg p.Progs) .no)] ?_
   obtain ⟨y65, hy, h0, hw⟩ := hw
   refine vo rfl (x_idx h0 hy (rfl : eGProg y65 = eGProg y65)) rfl (va 2 [(22, aS y65.Name)] ?_)
   obtain ⟨y66, hy, hw⟩ := hw
   exact vo rfl (x_call hy pl130) rfl (va 1 [(24, aB y66)] (vle km_d (key _ hw)))
  ·have hw := hw.2 hb44
   exact va 7 [(23, .tuple [])] (va 1 [(24, aB false)] (vle km_d (key _ hw)))
 exact d_exit (d_seqQ (ds (va 1 [(6, aI 0)] (ve (d_blockQ (d_loopQ (jl0 hw)))))))
theorem ref22_names_step (p : GPlan) (r : Bool) (hw : ref22_names_j10 0 true p r) : ref22_names p r := by
 exact f_pureD fn70 nle rfl (ds (vg 2 [(1, .ptr 0 0)] [(eGPlan p)] [] (ve (ds (va 1 [(3, aB true)] (ve (d_seqQ (ds (va 1 [(4, aI 0)] (ve (d_blockQ (d_loopQ (jl0 hw)))))))))))))
theorem plr71 (r : Bool) : plain (e71 r) = true := rfl
def r71_0 : LO := [o 1 (bx 0), o 2 (mb false)]
def r71_1 : LO := [o 3 (mb true)]
def r71_2 : LO := [o 4 (mi 0)]
def r71_3 : LO := [o 8 (mv 4), o 9 (fa 0 1), o 10 (ld 9), o 11 (.len false (T 10)), o 12 (.bin .lss (T 8) (T 11))]
def k71_1 : ACode := .cond (T 12) .skip (.exit 0)
def r71_8 : LO := [o 15 (mv 3), o 16 (mv 15), og 17 (mv 4) 16 true, og 18 (.bin .eql (T 17) (ci 0)) 16 true, og 19 (mv 18) 16 true, og 20 (fa 0 1) 19 false, og 21 (ld 20) 19 false, og 22 (mv 4) 19 false, og 23 (.bin .sub (T 22) (ci 1)) 19 false, og 24 (.idxSl 3 (T 21) (T 23)) 19 false, og 25 (fa 0 24) 19 false, og 26 (ld 25) 19 false, og 27 (fa 0 1) 19 false, og 28 (ld 27) 19 false, og 29 (mv 4) 19 false, og 30 (.idxSl 3 (T 28) (T 29)) 19 false, og 31 (fa 0 30) 19 false, og 32 (ld 31) 19 false, og 33 (.bin .lss (T 26) (T 32)) 19 false, og 34 (.pick (T 19) (cb true) (T 33)) 16 true, o 35 (.pick (T 16) (T 34) (cb false))]
def r71_8t : LO := [o 3 (mv 35)]
def r71_8o : LN := [[], [0], [1], [1, 2], [1, 3], [4], [4, 5], [4], [4, 7], [4, 6, 8], [4, 9], [4, 10], [4], [4, 12], [4], [4, 13, 14], [4, 15], [4, 16], [4, 11, 17], [1, 4, 18], [1, 19]]
def r71_9 : LO := [o 5 (mi 1)]
def r71_10 : LO := [o 36 (mv 5), o 37 (fa 0 1), o 38 (ld 37), o 39 (mv 4), o 40 (.idxSl 3 (T 38) (T 39)), o 41 (fa 1 40), o 42 (ld 41), o 43 (.len false (T 42)), o 44 (.bin .lss (T 36) (T 43))]
def k71_2 : ACode := .cond (T 44) .skip (.exit 2)
def r71_15 : LO := [o 47 (mv 3), o 48 (mv 47), og 49 (fa 0 1) 48 true, og 50 (ld 49) 48 true, og 51 (mv 4) 48 true, og 52 (.idxSl 3 (T 50) (T 51)) 48 true, og 53 (fa 1 52) 48 true, og 54 (ld 53) 48 true, og 55 (mv 5) 48 true, og 56 (.bin .sub (T 55) (ci 1)) 48 true, og 57 (.idxSl 8 (T 54) (T 56)) 48 true, og 58 (fa 0 57) 48 true, og 59 (ld 58) 48 true, og 60 (fa 0 1) 48 true, og 61 (ld 60) 48 true, og 62 (mv 4) 48 true, og 63 (.idxSl 3 (T 61) (T 62)) 48 true, og 64 (fa 1 63) 48 true, og 65 (ld 64) 48 true, og 66 (mv 5) 48 true, og 67 (.idxSl 8 (T 65) (T 66)) 48 true, og 68 (fa 0 67) 48 true, og 69 (ld 68) 48 true, og 70 (.bin .lss (T 59) (T 69)) 48 true, o 71 (.pick (T 48) (T 70) (cb false))]
def r71_15t : LO := [o 3 (mv 71)]
def r71_15o : LN := [[], [0], [1], [1, 2], [1], [1, 3, 4], [1, 5], [1, 6], [1], [1, 8], [1, 7, 9], [1, 10], [1, 11], [1], [1, 13], [1], [1, 14, 15], [1, 16], [1, 17], [1], [1, 18, 19], [1, 20], [1, 21], [1, 12, 22], [1, 23]]
def r71_17 : LO := [o 45 (mv 5), o 46 (.bin .add (T 45) (ci 1)), o 5 (mv 46)]
def k71_3 : ACode := .seq (.block 3 (.drawn r71_15o r71_15 r71_15t)) (.region r71_17)
def k71_4 : ACode := .seq (.seq (.region r71_10) k71_2) k71_3
def k71_5 : ACode := .block 2 (.loop k71_4)
def k71_6 : ACode := .seq (.region r71_9) k71_5
def k71_7 : ACode := .seq (.drawn r71_8o r71_8 r71_8t) k71_6
def r71_25 : LO := [o 13 (mv 4), o 14 (.bin .add (T 13) (ci 1)), o 4 (mv 14)]
def k71_8 : ACode := .seq (.block 1 k71_7) (.region r71_25)
def k71_9 : ACode := .seq (.seq (.region r71_3) k71_1) k71_8
def k71_10 : ACode := .block 0 (.loop k71_9)
def r71_31 : LO := [o 6 (mi 0)]
def r71_32 : LO := [o 72 (mv 6), o 73 (fa 1 1), o 74 (ld 73), o 75 (.len false (T 74)), o 76 (.bin .lss (T 72) (T 75))]
def k71_11 : ACode := .cond (T 76) .skip (.exit 4)
def r71_37 : LO := [o 79 (mv 3), o 80 (mv 79), og 81 (mv 6) 80 true, og 82 (.bin .eql (T 81) (ci 0)) 80 true, og 83 (mv 82) 80 true, og 84 (fa 1 1) 83 false, og 85 (ld 84) 83 false, og 86 (mv 6) 83 false, og 87 (.bin .sub (T 86) (ci 1)) 83 false, og 88 (.idxSl 5 (T 85) (T 87)) 83 false, og 89 (fa 0 88) 83 false, og 90 (ld 89) 83 false, og 91 (fa 1 1) 83 false, og 92 (ld 91) 83 false, og 93 (mv 6) 83 false, og 94 (.idxSl 5 (T 92) (T 93)) 83 false, og 95 (fa 0 94) 83 false, og 96 (ld 95) 83 false, og 97 (.bin .lss (T 90) (T 96)) 83 false, og 98 (.pick (T 83) (cb true) (T 97)) 80 true, o 99 (.pick (T 80) (T 98) (cb false))]
def r71_37t : LO := [o 3 (mv 99)]
def r71_37o : LN := [[], [0], [1], [1, 2], [1, 3], [4], [4, 5], [4], [4, 7], [4, 6, 8], [4, 9], [4, 10], [4], [4, 12], [4], [4, 13, 14], [4, 15], [4, 16], [4, 11, 17], [1, 4, 18], [1, 19]]
def r71_38 : LO := [o 7 (mi 1)]
def r71_39 : LO := [o 100 (mv 7), o 101 (fa 1 1), o 102 (ld 101), o 103 (mv 6), o 104 (.idxSl 5 (T 102) (T 103)), o 105 (fa 2 104), o 106 (ld 105), o 107 (.len false (T 106)), o 108 (.bin .lss (T 100) (T 107))]
def k71_12 : ACode := .cond (T 108) .skip (.exit 6)
def r71_44 : LO := [o 111 (mv 3), o 112 (mv 111), og 113 (fa 1 1) 112 true, og 114 (ld 113) 112 true, og 115 (mv 6) 112 true, og 116 (.idxSl 5 (T 114) (T 115)) 112 true, og 117 (fa 2 116) 112 true, og 118 (ld 117) 112 true, og 119 (mv 7) 112 true, og 120 (.bin .sub (T 119) (ci 1)) 112 true, og 121 (.idxSl 3 (T 118) (T 120)) 112 true, og 122 (fa 1 121) 112 true, og 123 (ld 122) 112 true, og 124 (fa 1 1) 112 true, og 125 (ld 124) 112 true, og 126 (mv 6) 112 true, og 127 (.idxSl 5 (T 125) (T 126)) 112 true, og 128 (fa 2 127) 112 true, og 129 (ld 128) 112 true, og 130 (mv 7) 112 true, og 131 (.idxSl 3 (T 129) (T 130)) 112 true, og 132 (fa 1 131) 112 true, og 133 (ld 132) 112 true, og 134 (.bin .lss (T 123) (T 133)) 112 true, o 135 (.pick (T 112) (T 134) (cb false))]
def r71_44t : LO := [o 3 (mv 135)]
def r71_44o : LN := [[], [0], [1], [1, 2], [1], [1, 3, 4], [1, 5], [1, 6], [1], [1, 8], [1, 7, 9], [1, 10], [1, 11], [1], [1, 13], [1], [1, 14, 15], [1, 16], [1, 17], [1], [1, 18, 19], [1, 20], [1, 21], [1, 12, 22], [1, 23]]
def r71_46 : LO := [o 109 (mv 7), o 110 (.bin .add (T 109) (ci 1)), o 7 (mv 110)]
def k71_13 : ACode := .seq (.block 7 (.drawn r71_44o r71_44 r71_44t)) (.region r71_46)
def k71_14 : ACode := .seq (.seq (.region r71_39) k71_12) k71_13
def k71_15 : ACode := .block 6 (.loop k71_14)
def k71_16 : ACode := .seq (.region r71_38) k71_15
def k71_17 : ACode := .seq (.drawn r71_37o r71_37 r71_37t) k71_16
def r71_54 : LO := [o 77 (mv 6), o 78 (.bin .add (T 77) (ci 1)), o 6 (mv 78)]
def k71_18 : ACode := .seq (.block 5 k71_17) (.region r71_54)
def k71_19 : ACode := .seq (.seq (.region r71_32) k71_11) k71_18
def k71_20 : ACode := .block 4 (.loop k71_19)
def r71_60 : LO := [o 136 (mv 3), o 2 (mv 136)]
def k71_21 : ACode := .seq (.region r71_60) .ret
def k71_22 : ACode := .seq (.seq (.region r71_31) k71_20) k71_21
def k71_23 : ACode := .seq (.seq (.region r71_2) k71_10) k71_22
def k71_24 : ACode := .seq (.region r71_1) k71_23
def k71_25 : ACode := .seq (.region r71_0) k71_24
theorem fn71 : getFn Tryz.prog 71 = some (137, k71_25, [.tmp 2]) := by kernel_rfl
def q71_0 (r : Bool) : QP := qret [.tmp 2] (e71 r)
def q71_9 (r : Bool) : QP := tq Tryz.prog 137 k71_21 (q71_0 r)
def q71_11 (r : Bool) : QP := inBlockA 4 (q71_9 r)
def q71_12 (r : Bool) : QP := tl Tryz.prog 137 k71_19 (q71_11 r)
def q71_16 (r : Bool) : QP := tq Tryz.prog 137 (.region r71_54) (q71_12 r)
def q71_17 (r : Bool) : QP := inBlockA 5 (q71_16 r)
def q71_20 (r : Bool) : QP := inBlockA 6 (q71_17 r)
def ref22_ordered_j16 (ij15 : Int) (bj16 : Bool) (ij13 : Int) (p : GPlan) (r : Bool) : Prop := DL Tryz.prog 137 0 0 k71_14 (q71_20 r) [(7, aI ij15), (3, aB bj16), (6, aI ij13), (1, .ptr 0 0)] ⟨[some (eGPlan p)], [], []⟩
def ref22_ordered_j14 (ij13 : Int) (bj14 : Bool) (p : GPlan) (r : Bool) : Prop := DL Tryz.prog 137 0 0 k71_19 (q71_11 r) [(6, aI ij13), (3, aB bj14), (1, .ptr 0 0)] ⟨[some (eGPlan p)], [], []⟩
def q71_3 (r : Bool) : QP := tq Tryz.prog 137 k71_22 (q71_0 r)
def q71_5 (r : Bool) : QP := inBlockA 0 (q71_3 r)
def q71_6 (r : Bool) : QP := tl Tryz.prog 137 k71_9 (q71_5 r)
def q71_26 (r : Bool) : QP := tq Tryz.prog 137 (.region r71_25) (q71_6 r)
def q71_27 (r : Bool) : QP := inBlockA 1 (q71_26 r)
def q71_30 (r : Bool) : QP := inBlockA 2 (q71_27 r)
def ref22_ordered_j18 (ij17 : Int) (bj18 : Bool) (ij9 : Int) (p : GPlan) (r : Bool) : Prop := DL Tryz.prog 137 0 0 k71_4 (q71_30 r) [(5, aI ij17), (3, aB bj18), (4, aI ij9), (1, .ptr 0 0)] ⟨[some (eGPlan p)], [], []⟩
def ref22_ordered_j10 (ij9 : Int) (bj10 : Bool) (p : GPlan) (r : Bool) : Prop := DL Tryz.prog 137 0 0 k71_9 (q71_5 r) [(4, aI ij9), (3, aB bj10), (1, .ptr 0 0)] ⟨[some (eGPlan p)], [], []⟩
theorem ref22_ordered_j16_step (ij15 : Int) (bj16 : Bool) (ij13 : Int) (p : GPlan) (r : Bool) (hw : ∃ y61, p.Enums[ij13.toNat]? = some y61 /\ 0 <= ij13 /\ (((decide (ij15 < (y61.Items.length : Int))) = true -> (bj16 = true -> ∃ y63, p.Enums[ij13.toNat]? = some y63 /\ 0 <= ij13 /\ (∃ y64, y63.Items[(wI (ij15 - 1)).toNat]? = some y64 /\ 0 <= (wI (ij15 - 1)) /\ (∃ y65, p.Enums[ij13.toNat]? = some y65 /\ 0 <= ij13 /\ (∃ y66, y65.Items[ij15.toNat]? = some y66 /\ 0 <= ij15 /\ (ref22_ordered_j16 (wI (ij15 + 1)) (decide (y64.Num < y66.Num)) ij13 p r))))) /\ (bj16 = false -> ref22_ordered_j16 (wI (ij15 + 1)) false ij13 p r)) /\ ((decide (ij15 < (y61.Items.length : Int))) = false -> ref22_ordered_j14 (wI (ij13 + 1)) bj16 p r))) : ref22_ordered_j16 ij15 bj16 ij13 p r := by
 refine dl_unroll (d_seqQ (ds (va 4 [(103, aI ij13), (102, .sl (List.map eGEnum p.Enums) .no), (100, aI ij15)] ?_)))
 obtain ⟨y61, hy, h0, hw⟩ := hw
 refine vo rfl (x_idx h0 hy (rfl : eGEnum y61 = eGEnum y61)) rfl (va 2 [(106, .sl (List.map eGItem y61.Items) .no)] (vo rfl (x_len y61.Items eGItem) rfl (va 1 [(108, aB (decide (ij15 < (y61.Items.length : Int))))] (ve (dw hw (fun _ hw => ?_) (fun _ hw => ?_))))))
 ·refine d_skip (d_seqQ (d_blockQ (dS [(0, (eGPlan p))] (sa 1 2 [(112, aB bj16)] (sw2 112 hw (fun _ hw => ?_) (fun _ hw => ?_))))))
  ·refine sa 1 3 [(115, aI ij13), (114, .sl (List.map eGEnum p.Enums) .no)] ?_
   obtain ⟨y63, hy, h0, hw⟩ := hw
   refine sq rfl (fun _ _ => x_idx h0 hy (rfl : eGEnum y63 = eGEnum y63)) rfl (sa 1 4 [(120, aI (wI (ij15 - 1))), (118, .sl (List.map eGItem y63.Items) .no)] ?_)
   obtain ⟨y64, hy, h0, hw⟩ := hw
   refine sq rfl (fun _ _ => x_idx h0 hy (rfl : eGItem y64 = eGItem y64)) rfl (sa 1 5 [(126, aI ij13), (125, .sl (List.map eGEnum p.Enums) .no), (123, aI y64.Num)] ?_)
   obtain ⟨y65, hy, h0, hw⟩ := hw
   refine sq rfl (fun _ _ => x_idx h0 hy (rfl : eGEnum y65 = eGEnum y65)) rfl (sa 1 3 [(130, aI ij15), (129, .sl (List.map eGItem y65.Items) .no)] ?_)
   obtain ⟨y66, hy, h0, hw⟩ := hw
   exact sq rfl (fun _ _ => x_idx h0 hy (rfl : eGItem y66 = eGItem y66)) rfl (sa 1 4 [(135, aB (decide (y64.Num < y66.Num)))] (send (vp_start' (va 1 [(3, aB (decide (y64.Num < y66.Num)))] (ve (dr (va 3 [(7, aI (wI (ij15 + 1)))] (ve (jl0 hw)))))))))
  exact sa 1 23 [(135, aB false)] (send (vp_start' (va 1 [(3, aB false)] (ve (dr (va 3 [(7, aI (wI (ij15 + 1)))] (ve (jl0 hw))))))))
 exact d_exit (dr (va 3 [(6, aI (wI (ij13 + 1)))] (ve (jl0 hw))))
theorem ref22_ordered_j14_step (ij13 : Int) (bj14 : Bool) (p : GPlan) (r : Bool) (hw : ((decide (ij13 < (p.Enums.length : Int))) = true -> ∃ R7 : Bool -> Prop, (∀ bz7 : Bool, R7 bz7 -> (ref22_ordered_j16 1 bz7 ij13 p r)) /\ ((bj14 = true -> ∃ R8 : Bool -> Prop, (∀ bz8 : Bool, R8 bz8 -> (R7 bz8)) /\ (((ij13 == 0) = true -> R8 true) /\ ((ij13 == 0) = false -> ∃ y53, p.Enums[(wI (ij13 - 1)).toNat]? = some y53 /\ 0 <= (wI (ij13 - 1)) /\ (∃ y54, p.Enums[ij13.toNat]? = some y54 /\ 0 <= ij13 /\ (R8 (Op.bytesLess y53.Name.toList y54.Name.toList)))))) /\ (bj14 = false -> R7 false))) /\ ((decide (ij13 < (p.Enums.length : Int))) = false -> r = bj14)) : ref22_ordered_j14 ij13 bj14 p r := by
 refine dl_unroll (d_seqQ (ds (va 3 [(74, .sl (List.map eGEnum p.Enums) .no), (72, aI ij13)] (vo rfl (x_len p.Enums eGEnum) rfl (va 1 [(76, aB (decide (ij13 < (p.Enums.length : Int))))] (ve (dw hw (fun _ hw => ?_) (fun _ hw => ?_))))))))
 ·refine d_skip (d_seqQ (d_blockQ (d_seqQ (dS [(0, (eGPlan p))] (sa 1 2 [(80, aB bj14)] ?_)))))
  obtain ⟨R7, hR, hw⟩ := hw
  refine sr 80 99 21 bj14 R7 (fun bz7 => aB bz7) (km_vd km_d) (fun bz7 hz => ?_) (fun key => ⟨fun hb35 => ?_, fun hb35 => ?_⟩)
  ·have hw := hR bz7 hz
   exact send (vp_start' (va 1 [(3, aB bz7)] (ve (ds (va 1 [(7, aI 1)] (ve (d_blockQ (d_loopQ (jl0 hw)))))))))
  ·have hw := hw.1 hb35
   refine sa 1 3 [(83, aB (ij13 == 0))] ?_
   obtain ⟨R8, hR, hw⟩ := hw
   refine sr 83 98 20 (ij13 == 0) R8 (fun bz8 => aB bz8) (km_vd km_d) (fun bz8 hz => ?_) (fun key => ⟨fun hb37 => ?_, fun hb37 => ?_⟩)
   ·have hw := hR bz8 hz
    exact sa 1 1 [(99, aB bz8)] (sle (km_vd km_d) (key _ hw))
   ·have hw := hw.1 hb37
    exact sa 1 14 [(97, .tuple [])] (sa 1 1 [(98, aB true)] (sle (km_vd km_d) (key _ hw)))
   ·have hw := hw.2 hb37
    refine sa 1 4 [(87, aI (wI (ij13 - 1))), (85, .sl (List.map eGEnum p.Enums) .no)] ?_
    obtain ⟨y53, hy, h0, hw⟩ := hw
    refine sq rfl (fun _ _ => x_idx h0 hy (rfl : eGEnum y53 = eGEnum y53)) rfl (sa 1 5 [(93, aI ij13), (92, .sl (List.map eGEnum p.Enums) .no), (90, aS y53.Name)] ?_)
    obtain ⟨y54, hy, h0, hw⟩ := hw
    exact sq rfl (fun _ _ => x_idx h0 hy (rfl : eGEnum y54 = eGEnum y54)) rfl (sa 1 2 [(96, aS y54.Name)] (sq rfl (fun _ _ => x_bin (c := True) (.bool (Op.bytesLess y53.Name.toList y54.Name.toList)) trivial) rfl (sa 1 1 [(98, aB (Op.bytesLess y53.Name.toList y54.Name.toList))] (sle (km_vd km_d) (key _ hw)))))
  ·have hw := hw.2 hb35
   exact sa 1 18 [(98, .tuple [])] (sa 1 1 [(99, aB false)] (sle (km_vd km_d) (key _ hw)))
 exact d_exit (ds (va 2 [(2, aB bj14)] (ve (d_ret (rx hw (plr71 _))))))
theorem ref22_ordered_j18_step (ij17 : Int) (bj18 : Bool) (ij9 : Int) (p : GPlan) (r : Bool) (hw : ∃ y77, p.Progs[ij9.toNat]? = some y77 /\ 0 <= ij9 /\ (((decide (ij17 < (y77.Ops.length : Int))) = true -> (bj18 = true -> ∃ y79, p.Progs[ij9.toNat]? = some y79 /\ 0 <= ij9 /\ (∃ y80, y79.Ops[(wI (ij17 - 1)).toNat]? = some y80 /\ 0 <= (wI (ij17 - 1)) /\ (∃ y81, p.Progs[ij9.toNat]? = some y81 /\ 0 <= ij9 /\ (∃ y82, y81.Ops[ij17.toNat]? = some y82 /\ 0 <= ij17 /\ (ref22_ordered_j18 (wI (ij17 + 1)) (decide (y80.Num < y82.Num)) ij9 p r))))) /\ (bj18 = false -> ref22_ordered_j18 (wI (ij17 + 1)) false ij9 p r)) /\ ((decide (ij17 < (y77.Ops.length : Int))) = false -> ref22_ordered_j10 (wI (ij9 + 1)) bj18 p r))) : ref22_ordered_j18 ij17 bj18 ij9 p r := by
 refine dl_unroll (d_seqQ (ds (va 4 [(39, aI ij9), (38, .sl (List.map eGProg p.Progs) .no), (36, aI ij17)] ?_)))
 obtain ⟨y77, hy, h0, hw⟩ := hw
 refine vo rfl (x_idx h0 hy (rfl : eGProg y77 = eGProg y77)) rfl (va 2 [(42, .sl (List.map eGOp y77.Ops) .no)] (vo rfl (x_len y77.Ops eGOp) rfl (va 1 [(44, aB (decide (ij17 < (y77.Ops.length : Int))))] (ve (dw hw (fun _ hw => ?_) (fun _ hw => ?_))))))
 ·refine d_skip (d_seqQ (d_blockQ (dS [(0, (eGPlan p))] (sa 1 2 [(48, aB bj18)] (sw2 48 hw (fun _ hw => ?_) (fun _ hw => ?_))))))
  ·refine sa 1 3 [(51, aI ij9), (50, .sl (List.map eGProg p.Progs) .no)] ?_
   obtain ⟨y79, hy, h0, hw⟩ := hw
   refine sq rfl (fun _ _ => x_idx h0 hy (rfl : eGProg y79 = eGProg y79)) rfl (sa 1 4 [(56, aI (wI (ij17 - 1))), (54, .sl (List.map eGOp y79.Ops) .no)] ?_)
   obtain ⟨y80, hy, h0, hw⟩ := hw
   refine sq rfl (fun _ _ => x_idx h0 hy (rfl : eGOp y80 = eGOp y80)) rfl (sa 1 5 [(62, aI ij9), (61, .sl (List.map eGProg p.Progs) .no), (59, aI y80.Num)] ?_)
   obtain ⟨y81, hy, h0, hw⟩ := hw
   refine sq rfl (fun _ _ => x_idx h0 hy (rfl : eGProg y81 = eGProg y81)) rfl (sa 1 3 [(66, aI ij17), (65, .sl (List.map eGOp y81.Ops) .no)] ?_)
   obtain ⟨y82, hy, h0, hw⟩ := hw
   exact sq rfl (fun _ _ => x_idx h0 hy (rfl : eGOp y82 = eGOp y82)) rfl (sa 1 4 [(71, aB (decide (y80.Num < y82.Num)))] (send (vp_start' (va 1 [(3, aB (decide (y80.Num < y82.Num)))] (ve (dr (va 3 [(5, aI (wI (ij17 + 1)))] (ve (jl0 hw)))))))))
  exact sa 1 23 [(71, aB false)] (send (vp_start' (va 1 [(3, aB false)] (ve (dr (va 3 [(5, aI (wI (ij17 + 1)))] (ve (jl0 hw))))))))
 exact d_exit (dr (va 3 [(4, aI (wI (ij9 + 1)))] (ve (jl0 hw))))
theorem ref22_ordered_j10_step (ij9 : Int) (bj10 : Bool) (p : GPlan) (r : Bool) (hw : ((decide (ij9 < (p.Progs.length : Int))) = true -> ∃ R11 : Bool -> Prop, (∀ bz11 : Bool, R11 bz11 -> (ref22_ordered_j18 1 bz11 ij9 p r)) /\ ((bj10 = true -> ∃ R12 : Bool -> Prop, (∀ bz12 : Bool, R12 bz12 -> (R11 bz12)) /\ (((ij9 == 0) = true -> R12 true) /\ ((ij9 == 0) = false -> ∃ y69, p.Progs[(wI (ij9 - 1)).toNat]? = some y69 /\ 0 <= (wI (ij9 - 1)) /\ (∃ y70, p.Progs[ij9.toNat]? = some y70 /\ 0 <= ij9 /\ (R12 (Op.bytesLess y69.Name.toList y70.Name.toList)))))) /\ (bj10 = false -> R11 false))) /\ ((decide (ij9 < (p.Progs.length : Int))) = false -> ref22_ordered_j14 0 bj10 p r)) : ref22_ordered_j10 ij9 bj10 p r := by
 refine dl_unroll (d_seqQ (ds (va 3 [(10, .sl (List.map eGProg p.Progs) .no), (8, aI ij9)] (vo rfl (x_len p.Progs eGProg) rfl (va 1 [(12, aB (decide (ij9 < (p.Progs.length : Int))))] (ve (dw hw (fun _ hw => ?_) (fun _ hw => ?_))))))))
 ·refine d_skip (d_seqQ (d_blockQ (d_seqQ (dS [(0, (eGPlan p))] (sa 1 2 [(16, aB bj10)] ?_)))))
  obtain ⟨R11, hR, hw⟩ := hw
  refine sr 16 35 21 bj10 R11 (fun bz11 => aB bz11) (km_vd km_d) (fun bz11 hz => ?_) (fun key => ⟨fun hb46 => ?_, fun hb46 => ?_⟩)
  ·have hw := hR bz11 hz
   exact send (vp_start' (va 1 [(3, aB bz11)] (ve (ds (va 1 [(5, aI 1)] (ve (d_blockQ (d_loopQ (jl0 hw)))))))))
  ·have hw := hw.1 hb46
   refine sa 1 3 [(19, aB (ij9 == 0))] ?_
   obtain ⟨R12, hR, hw⟩ := hw
   refine sr 19 34 20 (ij9 == 0) R12 (fun bz12 => aB bz12) (km_vd km_d) (fun bz12 hz => ?_) (fun key => ⟨fun hb48 => ?_, fun hb48 => ?_⟩)
   ·have hw := hR bz12 hz
    exact sa 1 1 [(35, aB bz12)] (sle (km_vd km_d) (key _ hw))
   ·have hw := hw.1 hb48
    exact sa 1 14 [(33, .tuple [])] (sa 1 1 [(34, aB true)] (sle (km_vd km_d) (key _ hw)))
   ·have hw := hw.2 hb48
    refine sa 1 4 [(23, aI (wI (ij9 - 1))), (21, .sl (List.map eGProg p.Progs) .no)] ?_
    obtain ⟨y69, hy, h0, hw⟩ := hw
    refine sq rfl (fun _ _ => x_idx h0 hy (rfl : eGProg y69 = eGProg y69)) rfl (sa 1 5 [(29, aI ij9), (28, .sl (List.map eGProg p.Progs) .no), (26, aS y69.Name)] ?_)
    obtain ⟨y70, hy, h0, hw⟩ := hw
    exact sq rfl (fun _ _ => x_idx h0 hy (rfl : eGProg y70 = eGProg y70)) rfl (sa 1 2 [(32, aS y70.Name)] (sq rfl (fun _ _ => x_bin (c := True) (.bool (Op.bytesLess y69.Name.toList y70.Name.toList)) trivial) rfl (sa 1 1 [(34, aB (Op.bytesLess y69.Name.toList y70.Name.toList))] (sle (km_vd km_d) (key _ hw)))))
  ·have hw := hw.2 hb46
   exact sa 1 18 [(34, .tuple [])] (sa 1 1 [(35, aB false)] (sle (km_vd km_d) (key _ hw)))
 exact d_exit (d_seqQ (ds (va 1 [(6, aI 0)] (ve (d_blockQ (d_loopQ (jl0 hw)))))))
theorem ref22_ordered_step (p : GPlan) (r : Bool) (hw : ref22_ordered_j10 0 true p r) : ref22_ordered p r := by
 exact f_pureD fn71 nle rfl (ds (vg 2 [(1, .ptr 0 0)] [(eGPlan p)] [] (ve (ds (va 1 [(3, aB true)] (ve (d_seqQ (ds (va 1 [(4, aI 0)] (ve (d_blockQ (d_loopQ (jl0 hw)))))))))))))
theorem plr72 (r : Bool) : plain (e72 r) = true := rfl
def r72_0 : LO := [o 1 (bx 0), o 2 (mb false)]
def r72_1 : LO := [o 3 (mb true)]
def r72_2 : LO := [o 4 (mi 0)]
def r72_3 : LO := [o 13 (mv 4), o 14 (fa 0 1), o 15 (ld 14), o 16 (.len false (T 15)), o 17 (.bin .lss (T 13) (T 16))]
def k72_1 : ACode := .cond (T 17) .skip (.exit 0)
def r72_8 : LO := [o 5 (mi 0)]
def r72_9 : LO := [o 20 (mv 5), o 21 (fa 1 1), o 22 (ld 21), o 23 (.len false (T 22)), o 24 (.bin .lss (T 20) (T 23))]
def k72_2 : ACode := .cond (T 24) .skip (.exit 2)
def r72_14 : LO := [o 27 (mv 3), o 28 (mv 27), og 29 (fa 0 1) 28 true, og 30 (ld 29) 28 true, og 31 (mv 4) 28 true, og 32 (.idxSl 3 (T 30) (T 31)) 28 true, og 33 (fa 0 32) 28 true, og 34 (ld 33) 28 true, og 35 (fa 1 1) 28 true, og 36 (ld 35) 28 true, og 37 (mv 5) 28 true, og 38 (.idxSl 5 (T 36) (T 37)) 28 true, og 39 (fa 0 38) 28 true, og 40 (ld 39) 28 true, og 41 (.bin .neq (T 34) (T 40)) 28 true, o 42 (.pick (T 28) (T 41) (cb false))]
def r72_14t : LO := [o 3 (mv 42)]
def r72_14o : LN := [[], [0], [1], [1, 2], [1], [1, 3, 4], [1, 5], [1, 6], [1], [1, 8], [1], [1, 9, 10], [1, 11], [1, 12], [1, 7, 13], [1, 14]]
def r72_16 : LO := [o 25 (mv 5), o 26 (.bin .add (T 25) (ci 1)), o 5 (mv 26)]
def k72_3 : ACode := .seq (.block 3 (.drawn r72_14o r72_14 r72_14t)) (.region r72_16)
def k72_4 : ACode := .seq (.seq (.region r72_9) k72_2) k72_3
def k72_5 : ACode := .block 2 (.loop k72_4)
def r72_22 : LO := [o 43 (fa 0 1), o 44 (ld 43), o 45 (mv 4), o 46 (.idxSl 3 (T 44) (T 45)), o 47 (fa 1 46), o 48 (ld 47), o 6 (mv 48)]
def r72_23 : LO := [o 7 (mi 0)]
def r72_24 : LO := [o 49 (mv 7), o 50 (mv 6), o 51 (.len false (T 50)), o 52 (.bin .lss (T 49) (T 51))]
def k72_6 : ACode := .cond (T 52) .skip (.exit 4)
def r72_29 : LO := [o 8 (mi 0)]
def r72_30 : LO := [o 55 (mv 8), o 56 (mv 7), o 57 (.bin .lss (T 55) (T 56))]
def k72_7 : ACode := .cond (T 57) .skip (.exit 6)
def r72_35 : LO := [o 60 (mv 3), o 61 (mv 60), og 62 (mv 6) 61 true, og 63 (mv 8) 61 true, og 64 (.idxSl 8 (T 62) (T 63)) 61 true, og 65 (fa 1 64) 61 true, og 66 (ld 65) 61 true, og 67 (mv 6) 61 true, og 68 (mv 7) 61 true, og 69 (.idxSl 8 (T 67) (T 68)) 61 true, og 70 (fa 1 69) 61 true, og 71 (ld 70) 61 true, og 72 (.bin .neq (T 66) (T 71)) 61 true, o 73 (.pick (T 61) (T 72) (cb false))]
def r72_35t : LO := [o 3 (mv 73)]
def r72_35o : LN := [[], [0], [1], [1], [1, 2, 3], [1, 4], [1, 5], [1], [1], [1, 7, 8], [1, 9], [1, 10], [1, 6, 11], [1, 12]]
def r72_37 : LO := [o 58 (mv 8), o 59 (.bin .add (T 58) (ci 1)), o 8 (mv 59)]
def k72_8 : ACode := .seq (.block 7 (.drawn r72_35o r72_35 r72_35t)) (.region r72_37)
def k72_9 : ACode := .seq (.seq (.region r72_30) k72_7) k72_8
def k72_10 : ACode := .block 6 (.loop k72_9)
def r72_44 : LO := [o 53 (mv 7), o 54 (.bin .add (T 53) (ci 1)), o 7 (mv 54)]
def k72_11 : ACode := .seq (.block 5 (.seq (.region r72_29) k72_10)) (.region r72_44)
def k72_12 : ACode := .seq (.seq (.region r72_24) k72_6) k72_11
def k72_13 : ACode := .block 4 (.loop k72_12)
def k72_14 : ACode := .seq (.region r72_23) k72_13
def k72_15 : ACode := .seq (.region r72_22) k72_14
def k72_16 : ACode := .block 1 (.seq (.seq (.region r72_8) k72_5) k72_15)
def r72_53 : LO := [o 18 (mv 4), o 19 (.bin .add (T 18) (ci 1)), o 4 (mv 19)]
def k72_17 : ACode := .seq k72_16 (.region r72_53)
def k72_18 : ACode := .seq (.seq (.region r72_3) k72_1) k72_17
def k72_19 : ACode := .block 0 (.loop k72_18)
def r72_59 : LO := [o 9 (mi 0)]
def r72_60 : LO := [o 74 (mv 9), o 75 (fa 1 1), o 76 (ld 75), o 77 (.len false (T 76)), o 78 (.bin .lss (T 74) (T 77))]
def k72_20 : ACode := .cond (T 78) .skip (.exit 8)
def r72_65 : LO := [o 81 (fa 1 1), o 82 (ld 81), o 83 (mv 9), o 84 (.idxSl 5 (T 82) (T 83)), o 85 (fa 2 84), o 86 (ld 85), o 10 (mv 86)]
def r72_66 : LO := [o 11 (mi 0)]
def r72_67 : LO := [o 87 (mv 11), o 88 (mv 10), o 89 (.len false (T 88)), o 90 (.bin .lss (T 87) (T 89))]
def k72_21 : ACode := .cond (T 90) .skip (.exit 10)
def r72_72 : LO := [o 12 (mi 0)]
def r72_73 : LO := [o 93 (mv 12), o 94 (mv 11), o 95 (.bin .lss (T 93) (T 94))]
def k72_22 : ACode := .cond (T 95) .skip (.exit 12)
def r72_78 : LO := [o 98 (mv 3), o 99 (mv 98), og 100 (mv 10) 99 true, og 101 (mv 12) 99 true, og 102 (.idxSl 3 (T 100) (T 101)) 99 true, og 103 (fa 0 102) 99 true, og 104 (ld 103) 99 true, og 105 (mv 10) 99 true, og 106 (mv 11) 99 true, og 107 (.idxSl 3 (T 105) (T 106)) 99 true, og 108 (fa 0 107) 99 true, og 109 (ld 108) 99 true, og 110 (.bin .neq (T 104) (T 109)) 99 true, o 111 (.pick (T 99) (T 110) (cb false))]
def r72_78t : LO := [o 3 (mv 111)]
def r72_78o : LN := [[], [0], [1], [1], [1, 2, 3], [1, 4], [1, 5], [1], [1], [1, 7, 8], [1, 9], [1, 10], [1, 6, 11], [1, 12]]
def r72_80 : LO := [o 96 (mv 12), o 97 (.bin .add (T 96) (ci 1)), o 12 (mv 97)]
def k72_23 : ACode := .seq (.block 13 (.drawn r72_78o r72_78 r72_78t)) (.region r72_80)
def k72_24 : ACode := .seq (.seq (.region r72_73) k72_22) k72_23
def k72_25 : ACode := .block 12 (.loop k72_24)
def r72_87 : LO := [o 91 (mv 11), o 92 (.bin .add (T 91) (ci 1)), o 11 (mv 92)]
def k72_26 : ACode := .seq (.block 11 (.seq (.region r72_72) k72_25)) (.region r72_87)
def k72_27 : ACode := .seq (.seq (.region r72_67) k72_21) k72_26
def k72_28 : ACode := .block 10 (.loop k72_27)
def k72_29 : ACode := .seq (.region r72_66) k72_28
def k72_30 : ACode := .seq (.region r72_65) k72_29
def r72_95 : LO := [o 79 (mv 9), o 80 (.bin .add (T 79) (ci 1)), o 9 (mv 80)]
def k72_31 : ACode := .seq (.block 9 k72_30) (.region r72_95)
def k72_32 : ACode := .seq (.seq (.region r72_60) k72_20) k72_31
def k72_33 : ACode := .block 8 (.loop k72_32)
def r72_101 : LO := [o 112 (mv 3), o 2 (mv 112)]
def k72_34 : ACode := .seq (.region r72_101) .ret
def k72_35 : ACode := .seq (.seq (.region r72_59) k72_33) k72_34
def k72_36 : ACode := .seq (.seq (.region r72_2) k72_19) k72_35
def k72_37 : ACode := .seq (.region r72_1) k72_36
def k72_38 : ACode := .seq (.region r72_0) k72_37
theorem fn72 : getFn Tryz.prog 72 = some (113, k72_38, [.tmp 2]) := by kernel_rfl
def q72_0 (r : Bool) : QP := qret [.tmp 2] (e72 r)
def q72_9 (r : Bool) : QP := tq Tryz.prog 113 k72_34 (q72_0 r)
def q72_11 (r : Bool) : QP := inBlockA 8 (q72_9 r)
def q72_12 (r : Bool) : QP := tl Tryz.prog 113 k72_32 (q72_11 r)
def q72_16 (r : Bool) : QP := tq Tryz.prog 113 (.region r72_95) (q72_12 r)
def q72_17 (r : Bool) : QP := inBlockA 9 (q72_16 r)
def q72_20 (r : Bool) : QP := inBlockA 10 (q72_17 r)
def q72_21 (r : Bool) : QP := tl Tryz.prog 113 k72_27 (q72_20 r)
def q72_24 (r : Bool) : QP := tq Tryz.prog 113 (.region r72_87) (q72_21 r)
def q72_25 (r : Bool) : QP := inBlockA 11 (q72_24 r)
def q72_27 (r : Bool) : QP := inBlockA 12 (q72_25 r)
def ref22_single_j56 (ij49 : Int) (ij47 : Int) (y69 : GEnum) (ij42 : Int) (bj50 : Bool) (p : GPlan) (r : Bool) : Prop := DL Tryz.prog 113 0 0 k72_24 (q72_27 r) [(12, aI ij49), (11, aI ij47), (10, .sl (List.map eGItem y69.Items) .no), (9, aI ij42), (3, aB bj50), (1, .ptr 0 0)] ⟨[some (eGPlan p)], [], []⟩
def ref22_single_j54 (ij47 : Int) (y69 : GEnum) (ij42 : Int) (bj48 : Bool) (p : GPlan) (r : Bool) : Prop := DL Tryz.prog 113 0 0 k72_27 (q72_20 r) [(11, aI ij47), (10, .sl (List.map eGItem y69.Items) .no), (9, aI ij42), (3, aB bj48), (1, .ptr 0 0)] ⟨[some (eGPlan p)], [], []⟩
def ref22_single_j48 (ij42 : Int) (bj43 : Bool) (p : GPlan) (r : Bool) : Prop := DL Tryz.prog 113 0 0 k72_32 (q72_11 r) [(9, aI ij42), (3, aB bj43), (1, .ptr 0 0)] ⟨[some (eGPlan p)], [], []⟩
def q72_3 (r : Bool) : QP := tq Tryz.prog 113 k72_35 (q72_0 r)
def q72_5 (r : Bool) : QP := inBlockA 0 (q72_3 r)
def q72_6 (r : Bool) : QP := tl Tryz.prog 113 k72_18 (q72_5 r)
def q72_33 (r : Bool) : QP := tq Tryz.prog 113 (.region r72_53) (q72_6 r)
def q72_34 (r : Bool) : QP := inBlockA 1 (q72_33 r)
def q72_43 (r : Bool) : QP := inBlockA 4 (q72_34 r)
def q72_44 (r : Bool) : QP := tl Tryz.prog 113 k72_12 (q72_43 r)
def q72_47 (r : Bool) : QP := tq Tryz.prog 113 (.region r72_44) (q72_44 r)
def q72_48 (r : Bool) : QP := inBlockA 5 (q72_47 r)
def q72_50 (r : Bool) : QP := inBlockA 6 (q72_48 r)
def ref22_single_j74 (ij65 : Int) (ij63 : Int) (y98 : GProg) (ij33 : Int) (bj66 : Bool) (p : GPlan) (r : Bool) : Prop := DL Tryz.prog 113 0 0 k72_9 (q72_50 r) [(8, aI ij65), (7, aI ij63), (6, .sl (List.map eGOp y98.Ops) .no), (4, aI ij33), (3, aB bj66), (1, .ptr 0 0)] ⟨[some (eGPlan p)], [], []⟩
def ref22_single_j72 (ij63 : Int) (y98 : GProg) (ij33 : Int) (bj64 : Bool) (p : GPlan) (r : Bool) : Prop := DL Tryz.prog 113 0 0 k72_12 (q72_43 r) [(7, aI ij63), (6, .sl (List.map eGOp y98.Ops) .no), (4, aI ij33), (3, aB bj64), (1, .ptr 0 0)] ⟨[some (eGPlan p)], [], []⟩
def q72_35 (r : Bool) : QP := tq Tryz.prog 113 k72_15 (q72_34 r)
def q72_37 (r : Bool) : QP := inBlockA 2 (q72_35 r)
def ref22_single_j66 (ij58 : Int) (ij33 : Int) (bj59 : Bool) (p : GPlan) (r : Bool) : Prop := DL Tryz.prog 113 0 0 k72_4 (q72_37 r) [(5, aI ij58), (4, aI ij33), (3, aB bj59), (1, .ptr 0 0)] ⟨[some (eGPlan p)], [], []⟩
def ref22_single_j38 (ij33 : Int) (bj34 : Bool) (p : GPlan) (r : Bool) : Prop := DL Tryz.prog 113 0 0 k72_18 (q72_5 r) [(4, aI ij33), (3, aB bj34), (1, .ptr 0 0)] ⟨[some (eGPlan p)], [], []⟩
theorem ref22_single_j56_step (ij49 : Int) (ij47 : Int) (y69 : GEnum) (ij42 : Int) (bj50 : Bool) (p : GPlan) (r : Bool) (hw : ((decide (ij49 < ij47)) = true -> (bj50 = true -> ∃ y80, y69.Items[ij49.toNat]? = some y80 /\ 0 <= ij49 /\ (∃ y81, y69.Items[ij47.toNat]? = some y81 /\ 0 <= ij47 /\ (ref22_single_j56 (wI (ij49 + 1)) ij47 y69 ij42 (!(decide (y80.Name = y81.Name))) p r))) /\ (bj50 = false -> ref22_single_j56 (wI (ij49 + 1)) ij47 y69 ij42 false p r)) /\ ((decide (ij49 < ij47)) = false -> ref22_single_j54 (wI (ij47 + 1)) y69 ij42 bj50 p r)) : ref22_single_j56 ij49 ij47 y69 ij42 bj50 p r := by
 refine dl_unroll (d_seqQ (ds (va 3 [(95, aB (decide (ij49 < ij47)))] (ve (dw hw (fun _ hw => ?_) (fun _ hw => ?_))))))
 ·refine d_skip (d_seqQ (d_blockQ (dS [] (sa 0 2 [(99, aB bj50)] (sw2 99 hw (fun _ hw => ?_) (fun _ hw => ?_))))))
  ·refine sa 0 2 [(101, aI ij49), (100, .sl (List.map eGItem y69.Items) .no)] ?_
   obtain ⟨y80, hy, h0, hw⟩ := hw
   refine sq rfl (fun _ _ => x_idx h0 hy (rfl : eGItem y80 = eGItem y80)) rfl (sa 0 4 [(106, aI ij47), (105, .sl (List.map eGItem y69.Items) .no), (104, aS y80.Name)] ?_)
   obtain ⟨y81, hy, h0, hw⟩ := hw
   exact sq rfl (fun _ _ => x_idx h0 hy (rfl : eGItem y81 = eGItem y81)) rfl (sa 0 2 [(109, aS y81.Name)] (sq rfl (fun _ _ => x_neS y80.Name y81.Name) rfl (sa 0 1 [(111, aB (!(decide (y80.Name = y81.Name))))] (send (vp_start' (va 1 [(3, aB (!(decide (y80.Name = y81.Name))))] (ve (dr (va 3 [(12, aI (wI (ij49 + 1)))] (ve (jl0 hw)))))))))))
  exact sa 0 12 [(111, aB false)] (send (vp_start' (va 1 [(3, aB false)] (ve (dr (va 3 [(12, aI (wI (ij49 + 1)))] (ve (jl0 hw))))))))
 exact d_exit (dr (va 3 [(11, aI (wI (ij47 + 1)))] (ve (jl0 hw))))
theorem ref22_single_j54_step (ij47 : Int) (y69 : GEnum) (ij42 : Int) (bj48 : Bool) (p : GPlan) (r : Bool) (hw : ((decide (ij47 < (y69.Items.length : Int))) = true -> ref22_single_j56 0 ij47 y69 ij42 bj48 p r) /\ ((decide (ij47 < (y69.Items.length : Int))) = false -> ref22_single_j48 (wI (ij42 + 1)) bj48 p r)) : ref22_single_j54 ij47 y69 ij42 bj48 p r := by
 refine dl_unroll (d_seqQ (ds (va 2 [(88, .sl (List.map eGItem y69.Items) .no), (87, aI ij47)] (vo rfl (x_len y69.Items eGItem) rfl (va 1 [(90, aB (decide (ij47 < (y69.Items.length : Int))))] (ve (dw hw (fun _ hw => ?_) (fun _ hw => ?_))))))))
 ·exact d_skip (d_seqQ (d_blockQ (ds (va 1 [(12, aI 0)] (ve (d_blockQ (d_loopQ (jl0 hw))))))))
 exact d_exit (dr (va 3 [(9, aI (wI (ij42 + 1)))] (ve (jl0 hw))))
theorem ref22_single_j48_step (ij42 : Int) (bj43 : Bool) (p : GPlan) (r : Bool) (hw : ((decide (ij42 < (p.Enums.length : Int))) = true -> ∃ y69, p.Enums[ij42.toNat]? = some y69 /\ 0 <= ij42 /\ (ref22_single_j54 0 y69 ij42 bj43 p r)) /\ ((decide (ij42 < (p.Enums.length : Int))) = false -> r = bj43)) : ref22_single_j48 ij42 bj43 p r := by
 refine dl_unroll (d_seqQ (ds (va 3 [(76, .sl (List.map eGEnum p.Enums) .no), (74, aI ij42)] (vo rfl (x_len p.Enums eGEnum) rfl (va 1 [(78, aB (decide (ij42 < (p.Enums.length : Int))))] (ve (dw hw (fun _ hw => ?_) (fun _ hw => ?_))))))))
 ·refine d_skip (d_seqQ (d_blockQ (ds (va 3 [(83, aI ij42), (82, .sl (List.map eGEnum p.Enums) .no)] ?_))))
  obtain ⟨y69, hy, h0, hw⟩ := hw
  exact vo rfl (x_idx h0 hy (rfl : eGEnum y69 = eGEnum y69)) rfl (va 3 [(10, .sl (List.map eGItem y69.Items) .no)] (ve (ds (va 1 [(11, aI 0)] (ve (d_blockQ (d_loopQ (jl0 hw))))))))
 exact d_exit (ds (va 2 [(2, aB bj43)] (ve (d_ret (rx hw (plr72 _))))))
theorem ref22_single_j74_step (ij65 : Int) (ij63 : Int) (y98 : GProg) (ij33 : Int) (bj66 : Bool) (p : GPlan) (r : Bool) (hw : ((decide (ij65 < ij63)) = true -> (bj66 = true -> ∃ y109, y98.Ops[ij65.toNat]? = some y109 /\ 0 <= ij65 /\ (∃ y110, y98.Ops[ij63.toNat]? = some y110 /\ 0 <= ij63 /\ (ref22_single_j74 (wI (ij65 + 1)) ij63 y98 ij33 (!(decide (y109.Name = y110.Name))) p r))) /\ (bj66 = false -> ref22_single_j74 (wI (ij65 + 1)) ij63 y98 ij33 false p r)) /\ ((decide (ij65 < ij63)) = false -> ref22_single_j72 (wI (ij63 + 1)) y98 ij33 bj66 p r)) : ref22_single_j74 ij65 ij63 y98 ij33 bj66 p r := by
 refine dl_unroll (d_seqQ (ds (va 3 [(57, aB (decide (ij65 < ij63)))] (ve (dw hw (fun _ hw => ?_) (fun _ hw => ?_))))))
 ·refine d_skip (d_seqQ (d_blockQ (dS [] (sa 0 2 [(61, aB bj66)] (sw2 61 hw (fun _ hw => ?_) (fun _ hw => ?_))))))
  ·refine sa 0 2 [(63, aI ij65), (62, .sl (List.map eGOp y98.Ops) .no)] ?_
   obtain ⟨y109, hy, h0, hw⟩ := hw
   refine sq rfl (fun _ _ => x_idx h0 hy (rfl : eGOp y109 = eGOp y109)) rfl (sa 0 4 [(68, aI ij63), (67, .sl (List.map eGOp y98.Ops) .no), (66, aS y109.Name)] ?_)
   obtain ⟨y110, hy, h0, hw⟩ := hw
   exact sq rfl (fun _ _ => x_idx h0 hy (rfl : eGOp y110 = eGOp y110)) rfl (sa 0 2 [(71, aS y110.Name)] (sq rfl (fun _ _ => x_neS y109.Name y110.Name) rfl (sa 0 1 [(73, aB (!(decide (y109.Name = y110.Name))))] (send (vp_start' (va 1 [(3, aB (!(decide (y109.Name = y110.Name))))] (ve (dr (va 3 [(8, aI (wI (ij65 + 1)))] (ve (jl0 hw)))))))))))
  exact sa 0 12 [(73, aB false)] (send (vp_start' (va 1 [(3, aB false)] (ve (dr (va 3 [(8, aI (wI (ij65 + 1)))] (ve (jl0 hw))))))))
 exact d_exit (dr (va 3 [(7, aI (wI (ij63 + 1)))] (ve (jl0 hw))))
theorem ref22_single_j72_step (ij63 : Int) (y98 : GProg) (ij33 : Int) (bj64 : Bool) (p : GPlan) (r : Bool) (hw : ((decide (ij63 < (y98.Ops.length : Int))) = true -> ref22_single_j74 0 ij63 y98 ij33 bj64 p r) /\ ((decide (ij63 < (y98.Ops.length : Int))) = false -> ref22_single_j38 (wI (ij33 + 1)) bj64 p r)) : ref22_single_j72 ij63 y98 ij33 bj64 p r := by
 refine dl_unroll (d_seqQ (ds (va 2 [(50, .sl (List.map eGOp y98.Ops) .no), (49, aI ij63)] (vo rfl (x_len y98.Ops eGOp) rfl (va 1 [(52, aB (decide (ij63 < (y98.Ops.length : Int))))] (ve (dw hw (fun _ hw => ?_) (fun _ hw => ?_))))))))
 ·exact d_skip (d_seqQ (d_blockQ (ds (va 1 [(8, aI 0)] (ve (d_blockQ (d_loopQ (jl0 hw))))))))
 exact d_exit (dr (va 3 [(4, aI (wI (ij33 + 1)))] (ve (jl0 hw))))
theorem ref22_single_j66_step (ij58 : Int) (ij33 : Int) (bj59 : Bool) (p : GPlan) (r : Bool) (hw : ((decide (ij58 < (p.Enums.length : Int))) = true -> (bj59 = true -> ∃ y112, p.Progs[ij33.toNat]? = some y112 /\ 0 <= ij33 /\ (∃ y113, p.Enums[ij58.toNat]? = some y113 /\ 0 <= ij58 /\ (ref22_single_j66 (wI (ij58 + 1)) ij33 (!(decide (y112.Name = y113.Name))) p r))) /\ (bj59 = false -> ref22_single_j66 (wI (ij58 + 1)) ij33 false p r)) /\ ((decide (ij58 < (p.Enums.length : Int))) = false -> ∃ y98, p.Progs[ij33.toNat]? = some y98 /\ 0 <= ij33 /\ (ref22_single_j72 0 y98 ij33 bj59 p r))) : ref22_single_j66 ij58 ij33 bj59 p r := by
 refine dl_unroll (d_seqQ (ds (va 3 [(22, .sl (List.map eGEnum p.Enums) .no), (20, aI ij58)] (vo rfl (x_len p.Enums eGEnum) rfl (va 1 [(24, aB (decide (ij58 < (p.Enums.length : Int))))] (ve (dw hw (fun _ hw => ?_) (fun _ hw => ?_))))))))
 ·refine d_skip (d_seqQ (d_blockQ (dS [(0, (eGPlan p))] (sa 1 2 [(28, aB bj59)] (sw2 28 hw (fun _ hw => ?_) (fun _ hw => ?_))))))
  ·refine sa 1 3 [(31, aI ij33), (30, .sl (List.map eGProg p.Progs) .no)] ?_
   obtain ⟨y112, hy, h0, hw⟩ := hw
   refine sq rfl (fun _ _ => x_idx h0 hy (rfl : eGProg y112 = eGProg y112)) rfl (sa 1 5 [(37, aI ij58), (36, .sl (List.map eGEnum p.Enums) .no), (34, aS y112.Name)] ?_)
   obtain ⟨y113, hy, h0, hw⟩ := hw
   exact sq rfl (fun _ _ => x_idx h0 hy (rfl : eGEnum y113 = eGEnum y113)) rfl (sa 1 2 [(40, aS y113.Name)] (sq rfl (fun _ _ => x_neS y112.Name y113.Name) rfl (sa 1 1 [(42, aB (!(decide (y112.Name = y113.Name))))] (send (vp_start' (va 1 [(3, aB (!(decide (y112.Name = y113.Name))))] (ve (dr (va 3 [(5, aI (wI (ij58 + 1)))] (ve (jl0 hw)))))))))))
  exact sa 1 14 [(42, aB false)] (send (vp_start' (va 1 [(3, aB false)] (ve (dr (va 3 [(5, aI (wI (ij58 + 1)))] (ve (jl0 hw))))))))
 refine d_exit (ds (va 3 [(45, aI ij33), (44, .sl (List.map eGProg p.Progs) .no)] ?_))
 obtain ⟨y98, hy, h0, hw⟩ := hw
 exact vo rfl (x_idx h0 hy (rfl : eGProg y98 = eGProg y98)) rfl (va 3 [(6, .sl (List.map eGOp y98.Ops) .no)] (ve (ds (va 1 [(7, aI 0)] (ve (d_blockQ (d_loopQ (jl0 hw))))))))
theorem ref22_single_j38_step (ij33 : Int) (bj34 : Bool) (p : GPlan) (r : Bool) (hw : ((decide (ij33 < (p.Progs.length : Int))) = true -> ref22_single_j66 0 ij33 bj34 p r) /\ ((decide (ij33 < (p.Progs.length : Int))) = false -> ref22_single_j48 0 bj34 p r)) : ref22_single_j38 ij33 bj34 p r := by
 refine dl_unroll (d_seqQ (ds (va 3 [(15, .sl (List.map eGProg p.Progs) .no), (13, aI ij33)] (vo rfl (x_len p.Progs eGProg) rfl (va 1 [(17, aB (decide (ij33 < (p.Progs.length : Int))))] (ve (dw hw (fun _ hw => ?_) (fun _ hw => ?_))))))))
 ·exact d_skip (d_seqQ (d_blockQ (d_seqQ (ds (va 1 [(5, aI 0)] (ve (d_blockQ (d_loopQ (jl0 hw)))))))))
 exact d_exit (d_seqQ (ds (va 1 [(9, aI 0)] (ve (d_blockQ (d_loopQ (jl0 hw)))))))
theorem ref22_single_step (p : GPlan) (r : Bool) (hw : ref22_single_j38 0 true p r) : ref22_single p r := by
 exact f_pureD fn72 nle rfl (ds (vg 2 [(1, .ptr 0 0)] [(eGPlan p)] [] (ve (ds (va 1 [(3, aB true)] (ve (d_seqQ (ds (va 1 [(4, aI 0)] (ve (d_blockQ (d_loopQ (jl0 hw)))))))))))))
theorem plr73 (r : Bool) : plain (e73 r) = true := rfl
def r73_0 : LO := [o 1 (bx 0), o 2 (mb false)]
def r73_1 : LO := [o 3 (mb true)]
def r73_2 : LO := [o 4 (mi 0)]
def r73_3 : LO := [o 13 (mv 4), o 14 (fa 0 1), o 15 (ld 14), o 16 (.len false (T 15)), o 17 (.bin .lss (T 13) (T 16))]
def k73_1 : ACode := .cond (T 17) .skip (.exit 0)
def r73_8 : LO := [o 5 (mi 0)]
def r73_9 : LO := [o 20 (mv 5), o 21 (fa 0 1), o 22 (ld 21), o 23 (mv 4), o 24 (.idxSl 3 (T 22) (T 23)), o 25 (fa 1 24), o 26 (ld 25), o 27 (.len false (T 26)), o 28 (.bin .lss (T 20) (T 27))]
def k73_2 : ACode := .cond (T 28) .skip (.exit 2)
def r73_14 : LO := [o 31 (fa 0 1), o 32 (ld 31), o 33 (mv 4), o 34 (.idxSl 3 (T 32) (T 33)), o 35 (fa 1 34), o 36 (ld 35), o 37 (mv 5), o 38 (.idxSl 8 (T 36) (T 37)), o 39 (fa 0 38), o 40 (ld 39), o 6 (mv 40)]
def r73_15 : LO := [o 41 (mv 3), o 42 (mv 41), og 43 (mv 6) 42 true, og 44 (.bin .geq (T 43) (ci 1)) 42 true, o 45 (.pick (T 42) (T 44) (cb false)), o 46 (mv 45), og 47 (mv 6) 46 true, og 48 (.bin .leq (T 47) (ci 65535)) 46 true, o 49 (.pick (T 46) (T 48) (cb false)), o 3 (mv 49)]
def r73_18 : LO := [o 29 (mv 5), o 30 (.bin .add (T 29) (ci 1)), o 5 (mv 30)]
def k73_3 : ACode := .seq (.block 3 (.seq (.region r73_14) (.region r73_15))) (.region r73_18)
def k73_4 : ACode := .seq (.seq (.region r73_9) k73_2) k73_3
def k73_5 : ACode := .block 2 (.loop k73_4)
def r73_25 : LO := [o 18 (mv 4), o 19 (.bin .add (T 18) (ci 1)), o 4 (mv 19)]
def k73_6 : ACode := .seq (.block 1 (.seq (.region r73_8) k73_5)) (.region r73_25)
def k73_7 : ACode := .seq (.seq (.region r73_3) k73_1) k73_6
def k73_8 : ACode := .block 0 (.loop k73_7)
def r73_31 : LO := [o 7 (mi 0)]
def r73_32 : LO := [o 50 (mv 7), o 51 (fa 1 1), o 52 (ld 51), o 53 (.len false (T 52)), o 54 (.bin .lss (T 50) (T 53))]
def k73_9 : ACode := .cond (T 54) .skip (.exit 4)
def r73_37 : LO := [o 57 (fa 1 1), o 58 (ld 57), o 59 (mv 7), o 60 (.idxSl 5 (T 58) (T 59)), o 61 (ln 5 60), o 8 (.alloc [aE, (aB false), .nil, .nil, .nil]), on (st 5 8 61)]
def r73_38 : LO := [o 9 (mi 0)]
def r73_39 : LO := [o 62 (mv 9), o 63 (fa 2 8), o 64 (ld 63), o 65 (.len false (T 64)), o 66 (.bin .lss (T 62) (T 65))]
def k73_10 : ACode := .cond (T 66) .skip (.exit 6)
def r73_44 : LO := [o 69 (fa 2 8), o 70 (ld 69), o 71 (mv 9), o 72 (.idxSl 3 (T 70) (T 71)), o 73 (fa 1 72), o 74 (ld 73), o 10 (mv 74)]
def r73_45 : LO := [o 75 (mv 3), o 76 (mv 75), og 77 (mv 10) 76 true, og 78 (.bin .leq (T 77) (ci 2147483647)) 76 true, o 79 (.pick (T 76) (T 78) (cb false)), o 80 (mv 79), og 81 (mv 9) 80 true, og 82 (.bin .gtr (T 81) (ci 0)) 80 true, og 83 (mv 82) 80 true, og 84 (mv 10) 83 false, og 85 (.bin .eql (T 84) (ci 0)) 83 false, og 86 (.pick (T 83) (cb true) (T 85)) 80 true, o 87 (.pick (T 80) (T 86) (cb false)), o 88 (mv 87), og 89 (fa 3 8) 88 true, og 90 (ld 89) 88 true, og 91 (mv 10) 88 true, og 92 (.call (cf 132) [(T 90), (T 91)]) 88 true, og 93 (.un .not (T 92)) 88 true, o 94 (.pick (T 88) (T 93) (cb false)), o 3 (mv 94)]
def r73_48 : LO := [o 67 (mv 9), o 68 (.bin .add (T 67) (ci 1)), o 9 (mv 68)]
def k73_11 : ACode := .seq (.block 7 (.seq (.region r73_44) (.region r73_45))) (.region r73_48)
def k73_12 : ACode := .seq (.seq (.region r73_39) k73_10) k73_11
def k73_13 : ACode := .block 6 (.loop k73_12)
def r73_54 : LO := [o 11 (mi 0)]
def r73_55 : LO := [o 95 (mv 11), o 96 (fa 3 8), o 97 (ld 96), o 98 (.len false (T 97)), o 99 (.bin .lss (T 95) (T 98))]
def k73_14 : ACode := .cond (T 99) .skip (.exit 8)
def r73_60 : LO := [o 102 (fa 3 8), o 103 (ld 102), o 104 (mv 11), o 105 (.idxSl 2 (T 103) (T 104)), o 106 (ln 2 105), o 12 (.alloc [(aI 0), (aI 0)]), on (st 2 12 106)]
def r73_61 : LO := [o 107 (mv 3), o 108 (mv 107), og 109 (fa 0 12) 108 true, og 110 (ld 109) 108 true, og 111 (.bin .geq (T 110) (ci 0)) 108 true, o 112 (.pick (T 108) (T 111) (cb false)), o 113 (mv 112), og 114 (fa 1 12) 113 true, og 115 (ld 114) 113 true, og 116 (.bin .leq (T 115) (ci 2147483647)) 113 true, o 117 (.pick (T 113) (T 116) (cb false)), o 118 (mv 117), og 119 (fa 0 12) 118 true, og 120 (ld 119) 118 true, og 121 (fa 1 12) 118 true, og 122 (ld 121) 118 true, og 123 (.bin .leq (T 120) (T 122)) 118 true, o 124 (.pick (T 118) (T 123) (cb false)), o 125 (mv 124), og 126 (mv 11) 125 true, og 127 (.bin .eql (T 126) (ci 0)) 125 true, og 128 (mv 127) 125 true, og 129 (fa 0 12) 128 false, og 130 (ld 129) 128 false, og 131 (fa 3 8) 128 false, og 132 (ld 131) 128 false, og 133 (mv 11) 128 false, og 134 (.bin .sub (T 133) (ci 1)) 128 false, og 135 (.idxSl 2 (T 132) (T 134)) 128 false, og 136 (fa 1 135) 128 false, og 137 (ld 136) 128 false, og 138 (.bin .gtr (T 130) (T 137)) 128 false, og 139 (.pick (T 128) (cb true) (T 138)) 125 true, o 140 (.pick (T 125) (T 139) (cb false))]
def r73_61t : LO := [o 3 (mv 140)]
def r73_61o : LN := [[], [0], [1], [1, 2], [1, 3], [1, 4], [1, 5], [6], [6, 7], [6, 8], [6, 9], [6, 10], [11], [11, 12], [11], [11, 14], [11, 13, 15], [11, 16], [11, 17], [18], [18, 19], [18, 20], [21], [21, 22], [21], [21, 24], [21], [21, 26], [21, 25, 27], [21, 28], [21, 29], [21, 23, 30], [18, 21, 31], [18, 32]]
def k73_15 : ACode := .block 9 (.seq (.region r73_60) (.drawn r73_61o r73_61 r73_61t))
def r73_64 : LO := [o 100 (mv 11), o 101 (.bin .add (T 100) (ci 1)), o 11 (mv 101)]
def k73_16 : ACode := .seq k73_15 (.region r73_64)
def k73_17 : ACode := .seq (.seq (.region r73_55) k73_14) k73_16
def k73_18 : ACode := .block 8 (.loop k73_17)
def k73_19 : ACode := .seq (.region r73_54) k73_18
def k73_20 : ACode := .seq (.seq (.region r73_38) k73_13) k73_19
def r73_73 : LO := [o 55 (mv 7), o 56 (.bin .add (T 55) (ci 1)), o 7 (mv 56)]
def k73_21 : ACode := .seq (.block 5 (.seq (.region r73_37) k73_20)) (.region r73_73)
def k73_22 : ACode := .seq (.seq (.region r73_32) k73_9) k73_21
def k73_23 : ACode := .block 4 (.loop k73_22)
def r73_79 : LO := [o 141 (mv 3), o 2 (mv 141)]
def k73_24 : ACode := .seq (.region r73_79) .ret
def k73_25 : ACode := .seq (.seq (.region r73_31) k73_23) k73_24
def k73_26 : ACode := .seq (.seq (.region r73_2) k73_8) k73_25
def k73_27 : ACode := .seq (.region r73_1) k73_26
def k73_28 : ACode := .seq (.region r73_0) k73_27
theorem fn73 : getFn Tryz.prog 73 = some (142, k73_28, [.tmp 2]) := by kernel_rfl
def q73_0 (r : Bool) : QP := qret [.tmp 2] (e73 r)
def q73_9 (r : Bool) : QP := tq Tryz.prog 142 k73_24 (q73_0 r)
def q73_11 (r : Bool) : QP := inBlockA 4 (q73_9 r)
def q73_12 (r : Bool) : QP := tl Tryz.prog 142 k73_22 (q73_11 r)
def q73_16 (r : Bool) : QP := tq Tryz.prog 142 (.region r73_73) (q73_12 r)
def q73_17 (r : Bool) : QP := inBlockA 5 (q73_16 r)
def q73_26 (r : Bool) : QP := inBlockA 8 (q73_17 r)
def ref22_ranges_j32 (ij31 : Int) (ij25 : Int) (bj32 : Bool) (p : GPlan) (y52 : GEnum) (r : Bool) : Prop := DL Tryz.prog 142 0 0 k73_17 (q73_26 r) [(11, aI ij31), (8, .ptr 1 0), (7, aI ij25), (3, aB bj32), (1, .ptr 0 0)] ⟨[some (eGPlan p), some (eGEnum y52)], [], []⟩
def q73_19 (r : Bool) : QP := tq Tryz.prog 142 k73_19 (q73_17 r)
def q73_21 (r : Bool) : QP := inBlockA 6 (q73_19 r)
def ref22_ranges_j30 (ij29 : Int) (ij25 : Int) (bj30 : Bool) (p : GPlan) (y52 : GEnum) (r : Bool) : Prop := DL Tryz.prog 142 0 0 k73_12 (q73_21 r) [(9, aI ij29), (8, .ptr 1 0), (7, aI ij25), (3, aB bj30), (1, .ptr 0 0)] ⟨[some (eGPlan p), some (eGEnum y52)], [], []⟩
def ref22_ranges_j26 (ij25 : Int) (bj26 : Bool) (p : GPlan) (r : Bool) : Prop := DL Tryz.prog 142 0 0 k73_22 (q73_11 r) [(7, aI ij25), (3, aB bj26), (1, .ptr 0 0)] ⟨[some (eGPlan p)], [], []⟩
def q73_3 (r : Bool) : QP := tq Tryz.prog 142 k73_25 (q73_0 r)
def q73_5 (r : Bool) : QP := inBlockA 0 (q73_3 r)
def q73_6 (r : Bool) : QP := tl Tryz.prog 142 k73_7 (q73_5 r)
def q73_36 (r : Bool) : QP := tq Tryz.prog 142 (.region r73_25) (q73_6 r)
def q73_37 (r : Bool) : QP := inBlockA 1 (q73_36 r)
def q73_39 (r : Bool) : QP := inBlockA 2 (q73_37 r)
def ref22_ranges_j34 (ij33 : Int) (ij17 : Int) (bj34 : Bool) (p : GPlan) (r : Bool) : Prop := DL Tryz.prog 142 0 0 k73_4 (q73_39 r) [(5, aI ij33), (4, aI ij17), (3, aB bj34), (1, .ptr 0 0)] ⟨[some (eGPlan p)], [], []⟩
def ref22_ranges_j18 (ij17 : Int) (bj18 : Bool) (p : GPlan) (r : Bool) : Prop := DL Tryz.prog 142 0 0 k73_7 (q73_5 r) [(4, aI ij17), (3, aB bj18), (1, .ptr 0 0)] ⟨[some (eGPlan p)], [], []⟩
theorem ref22_ranges_j32_low {ij31 : Int} {ij25 : Int} {bj32 : Bool} {p : GPlan} {y52 : GEnum} : lowE [true, true] 0 [(11, aI ij31), (8, .ptr 1 0), (7, aI ij25), (3, aB bj32), (1, .ptr 0 0)] = true /\ lowB [true, true] 0 [some (eGPlan p), some (eGEnum y52)] = true := ⟨by first | rfl | simp, by first | rfl | simp⟩
theorem ref22_ranges_j26_low {ij25 : Int} {bj26 : Bool} {p : GPlan} : lowE [true] 0 [(7, aI ij25), (3, aB bj26), (1, .ptr 0 0)] = true /\ lowB [true] 0 [some (eGPlan p)] = true := ⟨by first | rfl | simp, by first | rfl | simp⟩
theorem ref22_ranges_j32_step (ij31 : Int) (ij25 : Int) (bj32 : Bool) (p : GPlan) (y52 : GEnum) (r : Bool) (hw : ((decide (ij31 < (y52.Reserved.length : Int))) = true -> ∃ y61, y52.Reserved[ij31.toNat]? = some y61 /\ 0 <= ij31 /\ (((((bj32 && (decide (0 <= y61.From))) && (decide (y61.To <= 2147483647))) && (decide (y61.From <= y61.To))) = true -> ((ij31 == 0) = true -> ref22_ranges_j32 (wI (ij31 + 1)) ij25 true p y52 r) /\ ((ij31 == 0) = false -> ∃ y64, y52.Reserved[(wI (ij31 - 1)).toNat]? = some y64 /\ 0 <= (wI (ij31 - 1)) /\ (ref22_ranges_j32 (wI (ij31 + 1)) ij25 (decide (y64.To < y61.From)) p y52 r))) /\ ((((bj32 && (decide (0 <= y61.From))) && (decide (y61.To <= 2147483647))) && (decide (y61.From <= y61.To))) = false -> ref22_ranges_j32 (wI (ij31 + 1)) ij25 false p y52 r))) /\ ((decide (ij31 < (y52.Reserved.length : Int))) = false -> ref22_ranges_j26 (wI (ij25 + 1)) bj32 p r)) : ref22_ranges_j32 ij31 ij25 bj32 p y52 r := by
 refine dl_unroll (d_seqQ (ds (va 3 [(97, .sl (List.map eGSpan y52.Reserved) .no), (95, aI ij31)] (vo rfl (x_len y52.Reserved eGSpan) rfl (va 1 [(99, aB (decide (ij31 < (y52.Reserved.length : Int))))] (ve (dw hw (fun _ hw => ?_) (fun _ hw => ?_))))))))
 ·refine d_skip (d_seqQ (d_blockQ (ds (va 3 [(104, aI ij31), (103, .sl (List.map eGSpan y52.Reserved) .no)] ?_))))
  obtain ⟨y61, hy, h0, hw⟩ := hw
  refine vo rfl (x_idx h0 hy (rfl : eGSpan y61 = eGSpan y61)) rfl (vg 3 [(12, .ptr 2 0)] [(eGSpan y61)] [] (ve (dS [(1, (eGEnum y52)), (2, (eGSpan y61))] (sa 3 2 [(108, aB bj32)] (sj 108 112 6 bj32 (fun z => aB (z && (decide (0 <= y61.From)))) (km_vd km_d) (fun _ key => ?_) (fun _ key => ?_) ?_)))))
  ·exact sa 3 3 [(111, aB (decide (0 <= y61.From)))] (sa 3 1 [(112, aB (decide (0 <= y61.From)))] (sle (km_vd km_d) key))
  ·exact sa 3 3 [(111, .tuple [])] (sa 3 1 [(112, aB false)] (sle (km_vd km_d) key))
  refine sa 3 1 [(113, aB (bj32 && (decide (0 <= y61.From))))] (sj 113 117 11 (bj32 && (decide (0 <= y61.From))) (fun z => aB (z && (decide (y61.To <= 2147483647)))) (km_vd km_d) (fun _ key => ?_) (fun _ key => ?_) ?_)
  ·exact sa 3 3 [(116, aB (decide (y61.To <= 2147483647)))] (sa 3 1 [(117, aB (decide (y61.To <= 2147483647)))] (sle (km_vd km_d) key))
  ·exact sa 3 3 [(116, .tuple [])] (sa 3 1 [(117, aB false)] (sle (km_vd km_d) key))
  refine sa 3 1 [(118, aB ((bj32 && (decide (0 <= y61.From))) && (decide (y61.To <= 2147483647))))] (sj 118 124 18 ((bj32 && (decide (0 <= y61.From))) && (decide (y61.To <= 2147483647))) (fun z => aB (z && (decide (y61.From <= y61.To)))) (km_vd km_d) (fun _ key => ?_) (fun _ key => ?_) ?_)
  ·exact sa 3 5 [(123, aB (decide (y61.From <= y61.To)))] (sa 3 1 [(124, aB (decide (y61.From <= y61.To)))] (sle (km_vd km_d) key))
  ·exact sa 3 5 [(123, .tuple [])] (sa 3 1 [(124, aB false)] (sle (km_vd km_d) key))
  refine sa 3 1 [(125, aB (((bj32 && (decide (0 <= y61.From))) && (decide (y61.To <= 2147483647))) && (decide (y61.From <= y61.To))))] (sw2 125 hw (fun _ hw => ?_) (fun _ hw => ?_))
  ·refine sa 3 3 [(128, aB (ij31 == 0))] (sw2 128 hw (fun _ hw => ?_) (fun _ hw => ?_))
   ·exact sa 3 12 [(140, aB true)] (send (vp_start' (va 1 [(3, aB true)] (ve (dr (va 3 [(11, aI (wI (ij31 + 1)))] (ve (jl ref22_ranges_j32_low hw))))))))
   refine sa 3 6 [(134, aI (wI (ij31 - 1))), (132, .sl (List.map eGSpan y52.Reserved) .no), (130, aI y61.From)] ?_
   obtain ⟨y64, hy, h0, hw⟩ := hw
   exact sq rfl (fun _ _ => x_idx h0 hy (rfl : eGSpan y64 = eGSpan y64)) rfl (sa 3 5 [(140, aB (decide (y64.To < y61.From)))] (send (vp_start' (va 1 [(3, aB (decide (y64.To < y61.From)))] (ve (dr (va 3 [(11, aI (wI (ij31 + 1)))] (ve (jl ref22_ranges_j32_low hw)))))))))
  exact sa 3 15 [(140, aB false)] (send (vp_start' (va 1 [(3, aB false)] (ve (dr (va 3 [(11, aI (wI (ij31 + 1)))] (ve (jl ref22_ranges_j32_low hw))))))))
 exact d_exit (dr (va 3 [(7, aI (wI (ij25 + 1)))] (ve (jl ref22_ranges_j26_low hw))))
theorem ref22_ranges_j30_step (ij29 : Int) (ij25 : Int) (bj30 : Bool) (p : GPlan) (y52 : GEnum) (r : Bool) (hw : ((decide (ij29 < (y52.Items.length : Int))) = true -> ∃ y65, y52.Items[ij29.toNat]? = some y65 /\ 0 <= ij29 /\ ((((bj30 && (decide (y65.Num <= 2147483647))) && ((decide (0 < ij29)) || (y65.Num == 0))) = true -> ∃ y66, ref12_Reserved y52.Reserved y65.Num y66 /\ (ref22_ranges_j30 (wI (ij29 + 1)) ij25 (!y66) p y52 r)) /\ (((bj30 && (decide (y65.Num <= 2147483647))) && ((decide (0 < ij29)) || (y65.Num == 0))) = false -> ref22_ranges_j30 (wI (ij29 + 1)) ij25 false p y52 r))) /\ ((decide (ij29 < (y52.Items.length : Int))) = false -> ref22_ranges_j32 0 ij25 bj30 p y52 r)) : ref22_ranges_j30 ij29 ij25 bj30 p y52 r := by
 refine dl_unroll (d_seqQ (ds (va 3 [(64, .sl (List.map eGItem y52.Items) .no), (62, aI ij29)] (vo rfl (x_len y52.Items eGItem) rfl (va 1 [(66, aB (decide (ij29 < (y52.Items.length : Int))))] (ve (dw hw (fun _ hw => ?_) (fun _ hw => ?_))))))))
 ·refine d_skip (d_seqQ (d_blockQ (ds (va 3 [(71, aI ij29), (70, .sl (List.map eGItem y52.Items) .no)] ?_))))
  obtain ⟨y65, hy, h0, hw⟩ := hw
  refine vo rfl (x_idx h0 hy (rfl : eGItem y65 = eGItem y65)) rfl (va 3 [(10, aI y65.Num)] (ve (dr (va 2 [(76, aB bj30)] (vj 76 79 5 bj30 (fun z => aB (z && (decide (y65.Num <= 2147483647)))) km_d (fun _ key => ?_) (fun _ key => ?_) ?_)))))
  ·exact va 2 [(78, aB (decide (y65.Num <= 2147483647)))] (va 1 [(79, aB (decide (y65.Num <= 2147483647)))] (vle km_d key))
  ·exact va 2 [(78, .tuple [])] (va 1 [(79, aB false)] (vle km_d key))
  refine va 1 [(80, aB (bj30 && (decide (y65.Num <= 2147483647))))] (vj 80 87 13 (bj30 && (decide (y65.Num <= 2147483647))) (fun z => aB (z && ((decide (0 < ij29)) || (y65.Num == 0)))) km_d (fun _ key => ?_) (fun _ key => ?_) ?_)
  ·refine va 3 [(83, aB (decide (0 < ij29)))] (vj 83 86 12 (decide (0 < ij29)) (fun z => aB (z || (y65.Num == 0))) km_d (fun _ key => ?_) (fun _ key => ?_) ?_)
   ·exact va 2 [(85, .tuple [])] (va 1 [(86, aB true)] (vle km_d key))
   ·exact va 2 [(85, aB (y65.Num == 0))] (va 1 [(86, aB (y65.Num == 0))] (vle km_d key))
   exact va 1 [(87, aB ((decide (0 < ij29)) || (y65.Num == 0)))] (vle km_d key)
  ·exact va 6 [(86, .tuple [])] (va 1 [(87, aB false)] (vle km_d key))
  refine va 1 [(88, aB ((bj30 && (decide (y65.Num <= 2147483647))) && ((decide (0 < ij29)) || (y65.Num == 0))))] (vw2 88 hw (fun _ hw => ?_) (fun _ hw => ?_))
  ·refine va 3 [(91, aI y65.Num), (90, .sl (List.map eGSpan y52.Reserved) .no)] ?_
   obtain ⟨y66, hy, hw⟩ := hw
   exact vo rfl (x_call hy pl132) rfl (va 3 [(3, aB (!y66))] (ve (dr (va 3 [(9, aI (wI (ij29 + 1)))] (ve (jl0 hw))))))
  exact va 7 [(3, aB false)] (ve (dr (va 3 [(9, aI (wI (ij29 + 1)))] (ve (jl0 hw)))))
 exact d_exit (ds (va 1 [(11, aI 0)] (ve (d_blockQ (d_loopQ (jl0 hw))))))
theorem ref22_ranges_j26_step (ij25 : Int) (bj26 : Bool) (p : GPlan) (r : Bool) (hw : ((decide (ij25 < (p.Enums.length : Int))) = true -> ∃ y52, p.Enums[ij25.toNat]? = some y52 /\ 0 <= ij25 /\ (ref22_ranges_j30 0 ij25 bj26 p y52 r)) /\ ((decide (ij25 < (p.Enums.length : Int))) = false -> r = bj26)) : ref22_ranges_j26 ij25 bj26 p r := by
 refine dl_unroll (d_seqQ (ds (va 3 [(52, .sl (List.map eGEnum p.Enums) .no), (50, aI ij25)] (vo rfl (x_len p.Enums eGEnum) rfl (va 1 [(54, aB (decide (ij25 < (p.Enums.length : Int))))] (ve (dw hw (fun _ hw => ?_) (fun _ hw => ?_))))))))
 ·refine d_skip (d_seqQ (d_blockQ (ds (va 3 [(59, aI ij25), (58, .sl (List.map eGEnum p.Enums) .no)] ?_))))
  obtain ⟨y52, hy, h0, hw⟩ := hw
  exact vo rfl (x_idx h0 hy (rfl : eGEnum y52 = eGEnum y52)) rfl (vg 3 [(8, .ptr 1 0)] [(eGEnum y52)] [] (ve (d_seqQ (ds (va 1 [(9, aI 0)] (ve (d_blockQ (d_loopQ (jl0 hw)))))))))
 exact d_exit (ds (va 2 [(2, aB bj26)] (ve (d_ret (rx hw (plr73 _))))))
theorem ref22_ranges_j34_step (ij33 : Int) (ij17 : Int) (bj34 : Bool) (p : GPlan) (r : Bool) (hw : ∃ y70, p.Progs[ij17.toNat]? = some y70 /\ 0 <= ij17 /\ (((decide (ij33 < (y70.Ops.length : Int))) = true -> ∃ y71, p.Progs[ij17.toNat]? = some y71 /\ 0 <= ij17 /\ (∃ y72, y71.Ops[ij33.toNat]? = some y72 /\ 0 <= ij33 /\ (ref22_ranges_j34 (wI (ij33 + 1)) ij17 ((bj34 && (decide (1 <= y72.Num))) && (decide (y72.Num <= 65535))) p r))) /\ ((decide (ij33 < (y70.Ops.length : Int))) = false -> ref22_ranges_j18 (wI (ij17 + 1)) bj34 p r))) : ref22_ranges_j34 ij33 ij17 bj34 p r := by
 refine dl_unroll (d_seqQ (ds (va 4 [(23, aI ij17), (22, .sl (List.map eGProg p.Progs) .no), (20, aI ij33)] ?_)))
 obtain ⟨y70, hy, h0, hw⟩ := hw
 refine vo rfl (x_idx h0 hy (rfl : eGProg y70 = eGProg y70)) rfl (va 2 [(26, .sl (List.map eGOp y70.Ops) .no)] (vo rfl (x_len y70.Ops eGOp) rfl (va 1 [(28, aB (decide (ij33 < (y70.Ops.length : Int))))] (ve (dw hw (fun _ hw => ?_) (fun _ hw => ?_))))))
 ·refine d_skip (d_seqQ (d_blockQ (ds (va 3 [(33, aI ij17), (32, .sl (List.map eGProg p.Progs) .no)] ?_))))
  obtain ⟨y71, hy, h0, hw⟩ := hw
  refine vo rfl (x_idx h0 hy (rfl : eGProg y71 = eGProg y71)) rfl (va 3 [(37, aI ij33), (36, .sl (List.map eGOp y71.Ops) .no)] ?_)
  obtain ⟨y72, hy, h0, hw⟩ := hw
  refine vo rfl (x_idx h0 hy (rfl : eGOp y72 = eGOp y72)) rfl (va 3 [(6, aI y72.Num)] (ve (dr (va 2 [(42, aB bj34)] (vj 42 45 5 bj34 (fun z => aB (z && (decide (1 <= y72.Num)))) km_d (fun _ key => ?_) (fun _ key => ?_) ?_)))))
  ·exact va 2 [(44, aB (decide (1 <= y72.Num)))] (va 1 [(45, aB (decide (1 <= y72.Num)))] (vle km_d key))
  ·exact va 2 [(44, .tuple [])] (va 1 [(45, aB false)] (vle km_d key))
  refine va 1 [(46, aB (bj34 && (decide (1 <= y72.Num))))] (vj 46 49 9 (bj34 && (decide (1 <= y72.Num))) (fun z => aB (z && (decide (y72.Num <= 65535)))) km_d (fun _ key => ?_) (fun _ key => ?_) ?_)
  ·exact va 2 [(48, aB (decide (y72.Num <= 65535)))] (va 1 [(49, aB (decide (y72.Num <= 65535)))] (vle km_d key))
  ·exact va 2 [(48, .tuple [])] (va 1 [(49, aB false)] (vle km_d key))
  exact va 1 [(3, aB ((bj34 && (decide (1 <= y72.Num))) && (decide (y72.Num <= 65535))))] (ve (dr (va 3 [(5, aI (wI (ij33 + 1)))] (ve (jl0 hw)))))
 exact d_exit (dr (va 3 [(4, aI (wI (ij17 + 1)))] (ve (jl0 hw))))
theorem ref22_ranges_j18_step (ij17 : Int) (bj18 : Bool) (p : GPlan) (r : Bool) (hw : ((decide (ij17 < (p.Progs.length : Int))) = true -> ref22_ranges_j34 0 ij17 bj18 p r) /\ ((decide (ij17 < (p.Progs.length : Int))) = false -> ref22_ranges_j26 0 bj18 p r)) : ref22_ranges_j18 ij17 bj18 p r := by
 refine dl_unroll (d_seqQ (ds (va 3 [(15, .sl (List.map eGProg p.Progs) .no), (13, aI ij17)] (vo rfl (x_len p.Progs eGProg) rfl (va 1 [(17, aB (decide (ij17 < (p.Progs.length : Int))))] (ve (dw hw (fun _ hw => ?_) (fun _ hw => ?_))))))))
 ·exact d_skip (d_seqQ (d_blockQ (ds (va 1 [(5, aI 0)] (ve (d_blockQ (d_loopQ (jl0 hw))))))))
 exact d_exit (d_seqQ (ds (va 1 [(7, aI 0)] (ve (d_blockQ (d_loopQ (jl0 hw)))))))
theorem ref22_ranges_step (p : GPlan) (r : Bool) (hw : ref22_ranges_j18 0 true p r) : ref22_ranges p r := by
 exact f_pureD fn73 nle rfl (ds (vg 2 [(1, .ptr 0 0)] [(eGPlan p)] [] (ve (ds (va 1 [(3, aB true)] (ve (d_seqQ (ds (va 1 [(4, aI 0)] (ve (d_blockQ (d_loopQ (jl0 hw)))))))))))))
theorem plr74 (r : Bool) : plain (e74 r) = true := rfl
def r74_0 : LO := [o 1 (bx 0), o 2 (mb false)]
def r74_1 : LO := [o 3 (mb true)]
def r74_2 : LO := [o 4 (mi 0)]
def r74_3 : LO := [o 9 (mv 4), o 10 (fa 1 1), o 11 (ld 10), o 12 (.len false (T 11)), o 13 (.bin .lss (T 9) (T 12))]
def k74_1 : ACode := .cond (T 13) .skip (.exit 0)
def r74_8 : LO := [o 16 (mv 3), o 17 (mv 16), og 18 (fa 1 1) 17 true, og 19 (ld 18) 17 true, og 20 (mv 4) 17 true, og 21 (.idxSl 5 (T 19) (T 20)) 17 true, og 22 (fa 4 21) 17 true, og 23 (ld 22) 17 true, og 24 (.len false (T 23)) 17 true, og 25 (.bin .eql (T 24) (ci 0)) 17 true, o 26 (.pick (T 17) (T 25) (cb false)), o 3 (mv 26)]
def r74_9 : LO := [o 5 (mi 0)]
def r74_10 : LO := [o 27 (mv 5), o 28 (fa 1 1), o 29 (ld 28), o 30 (mv 4), o 31 (.idxSl 5 (T 29) (T 30)), o 32 (fa 2 31), o 33 (ld 32), o 34 (.len false (T 33)), o 35 (.bin .lss (T 27) (T 34))]
def k74_2 : ACode := .cond (T 35) .skip (.exit 2)
def r74_15 : LO := [o 38 (fa 1 1), o 39 (ld 38), o 40 (mv 4), o 41 (.idxSl 5 (T 39) (T 40)), o 42 (fa 2 41), o 43 (ld 42), o 44 (mv 5), o 45 (.idxSl 3 (T 43) (T 44)), o 46 (fa 2 45), o 47 (ld 46), o 6 (mv 47)]
def r74_16 : LO := [o 48 (mv 3), o 49 (mv 48), og 50 (mv 6) 49 true, og 51 (.len false (T 50)) 49 true, og 52 (.bin .eql (T 51) (ci 0)) 49 true, og 53 (mv 52) 49 true, og 54 (mv 6) 53 false, og 55 (.len false (T 54)) 53 false, og 56 (.bin .eql (T 55) (ci 1)) 53 false, og 57 (mv 56) 53 false, og 58 (mv 6) 57 true, og 59 (.idxSl 8 (T 58) (ci 0)) 57 true, og 60 (fa 0 59) 57 true, og 61 (ld 60) 57 true, og 62 (.bin .eql (T 61) (.c (aS ⟨#[97, 108, 105, 97, 115]⟩))) 57 true, og 63 (.pick (T 57) (T 62) (cb false)) 53 false, og 64 (mv 63) 53 false, og 65 (mv 6) 64 true, og 66 (.call (cf 133) [(T 65), (ci 4)]) 64 true, og 67 (.bin .eql (T 66) (ci 0)) 64 true, og 68 (.pick (T 64) (T 67) (cb false)) 53 false, og 69 (.pick (T 53) (cb true) (T 68)) 49 true, o 70 (.pick (T 49) (T 69) (cb false)), o 3 (mv 70)]
def r74_19 : LO := [o 36 (mv 5), o 37 (.bin .add (T 36) (ci 1)), o 5 (mv 37)]
def k74_3 : ACode := .seq (.block 3 (.seq (.region r74_15) (.region r74_16))) (.region r74_19)
def k74_4 : ACode := .seq (.seq (.region r74_10) k74_2) k74_3
def k74_5 : ACode := .block 2 (.loop k74_4)
def k74_6 : ACode := .seq (.region r74_9) k74_5
def k74_7 : ACode := .seq (.region r74_8) k74_6
def r74_27 : LO := [o 14 (mv 4), o 15 (.bin .add (T 14) (ci 1)), o 4 (mv 15)]
def k74_8 : ACode := .seq (.block 1 k74_7) (.region r74_27)
def k74_9 : ACode := .seq (.seq (.region r74_3) k74_1) k74_8
def k74_10 : ACode := .block 0 (.loop k74_9)
def r74_33 : LO := [o 7 (mi 0)]
def r74_34 : LO := [o 71 (mv 7), o 72 (fa 0 1), o 73 (ld 72), o 74 (.len false (T 73)), o 75 (.bin .lss (T 71) (T 74))]
def k74_11 : ACode := .cond (T 75) .skip (.exit 4)
def r74_39 : LO := [o 78 (mv 3), o 79 (mv 78), og 80 (fa 0 1) 79 true, og 81 (ld 80) 79 true, og 82 (mv 7) 79 true, og 83 (.idxSl 3 (T 81) (T 82)) 79 true, og 84 (ln 3 83) 79 true, og 85 (.call (cf 134) [(T 84)]) 79 true, o 86 (.pick (T 79) (T 85) (cb false)), o 3 (mv 86)]
def r74_40 : LO := [o 8 (mi 0)]
def r74_41 : LO := [o 87 (mv 8), o 88 (fa 0 1), o 89 (ld 88), o 90 (mv 7), o 91 (.idxSl 3 (T 89) (T 90)), o 92 (fa 1 91), o 93 (ld 92), o 94 (.len false (T 93)), o 95 (.bin .lss (T 87) (T 94))]
def k74_12 : ACode := .cond (T 95) .skip (.exit 6)
def r74_46 : LO := [o 98 (mv 3), o 99 (mv 98), og 100 (ln 2 1) 99 true, og 101 (fa 0 1) 99 true, og 102 (ld 101) 99 true, og 103 (mv 7) 99 true, og 104 (.idxSl 3 (T 102) (T 103)) 99 true, og 105 (fa 1 104) 99 true, og 106 (ld 105) 99 true, og 107 (mv 8) 99 true, og 108 (.idxSl 8 (T 106) (T 107)) 99 true, og 109 (ln 8 108) 99 true, og 110 (.call (cf 135) [(T 100), (T 109)]) 99 true, o 111 (.pick (T 99) (T 110) (cb false))]
def r74_46t : LO := [o 3 (mv 111)]
def r74_46o : LN := [[], [0], [1], [1], [1, 3], [1], [1, 4, 5], [1, 6], [1, 7], [1], [1, 8, 9], [1, 10], [1, 2, 11], [1, 12]]
def r74_48 : LO := [o 96 (mv 8), o 97 (.bin .add (T 96) (ci 1)), o 8 (mv 97)]
def k74_13 : ACode := .seq (.block 7 (.drawn r74_46o r74_46 r74_46t)) (.region r74_48)
def k74_14 : ACode := .seq (.seq (.region r74_41) k74_12) k74_13
def k74_15 : ACode := .block 6 (.loop k74_14)
def k74_16 : ACode := .seq (.region r74_40) k74_15
def k74_17 : ACode := .seq (.region r74_39) k74_16
def r74_56 : LO := [o 76 (mv 7), o 77 (.bin .add (T 76) (ci 1)), o 7 (mv 77)]
def k74_18 : ACode := .seq (.block 5 k74_17) (.region r74_56)
def k74_19 : ACode := .seq (.seq (.region r74_34) k74_11) k74_18
def k74_20 : ACode := .block 4 (.loop k74_19)
def r74_62 : LO := [o 112 (mv 3), o 2 (mv 112)]
def k74_21 : ACode := .seq (.region r74_62) .ret
def k74_22 : ACode := .seq (.seq (.region r74_33) k74_20) k74_21
def k74_23 : ACode := .seq (.seq (.region r74_2) k74_10) k74_22
def k74_24 : ACode := .seq (.region r74_1) k74_23
def k74_25 : ACode := .seq (.region r74_0) k74_24
theorem fn74 : getFn Tryz.prog 74 = some (113, k74_25, [.tmp 2]) := by kernel_rfl
def q74_0 (r : Bool) : QP := qret [.tmp 2] (e74 r)
def q74_9 (r : Bool) : QP := tq Tryz.prog 113 k74_21 (q74_0 r)
def q74_11 (r : Bool) : QP := inBlockA 4 (q74_9 r)
def q74_12 (r : Bool) : QP := tl Tryz.prog 113 k74_19 (q74_11 r)
def q74_16 (r : Bool) : QP := tq Tryz.prog 113 (.region r74_56) (q74_12 r)
def q74_17 (r : Bool) : QP := inBlockA 5 (q74_16 r)
def q74_20 (r : Bool) : QP := inBlockA 6 (q74_17 r)
def ref22_arguments_j16 (ij15 : Int) (bj16 : Bool) (ij13 : Int) (p : GPlan) (r : Bool) : Prop := DL Tryz.prog 113 0 0 k74_14 (q74_20 r) [(8, aI ij15), (3, aB bj16), (7, aI ij13), (1, .ptr 0 0)] ⟨[some (eGPlan p)], [], []⟩
def ref22_arguments_j14 (ij13 : Int) (bj14 : Bool) (p : GPlan) (r : Bool) : Prop := DL Tryz.prog 113 0 0 k74_19 (q74_11 r) [(7, aI ij13), (3, aB bj14), (1, .ptr 0 0)] ⟨[some (eGPlan p)], [], []⟩
def q74_3 (r : Bool) : QP := tq Tryz.prog 113 k74_22 (q74_0 r)
def q74_5 (r : Bool) : QP := inBlockA 0 (q74_3 r)
def q74_6 (r : Bool) : QP := tl Tryz.prog 113 k74_9 (q74_5 r)
def q74_26 (r : Bool) : QP := tq Tryz.prog 113 (.region r74_27) (q74_6 r)
def q74_27 (r : Bool) : QP := inBlockA 1 (q74_26 r)
def q74_30 (r : Bool) : QP := inBlockA 2 (q74_27 r)
def ref22_arguments_j18 (ij17 : Int) (bj18 : Bool) (ij9 : Int) (p : GPlan) (r : Bool) : Prop := DL Tryz.prog 113 0 0 k74_4 (q74_30 r) [(5, aI ij17), (3, aB bj18), (4, aI ij9), (1, .ptr 0 0)] ⟨[some (eGPlan p)], [], []⟩
def ref22_arguments_j10 (ij9 : Int) (bj10 : Bool) (p : GPlan) (r : Bool) : Prop := DL Tryz.prog 113 0 0 k74_9 (q74_5 r) [(4, aI ij9), (3, aB bj10), (1, .ptr 0 0)] ⟨[some (eGPlan p)], [], []⟩
theorem ref22_arguments_j16_step (ij15 : Int) (bj16 : Bool) (ij13 : Int) (p : GPlan) (r : Bool) (hw : ∃ y64, p.Progs[ij13.toNat]? = some y64 /\ 0 <= ij13 /\ (((decide (ij15 < (y64.Ops.length : Int))) = true -> (bj16 = true -> ∃ y66, p.Progs[ij13.toNat]? = some y66 /\ 0 <= ij13 /\ (∃ y67, y66.Ops[ij15.toNat]? = some y67 /\ 0 <= ij15 /\ (∃ y68, ref22_operation p y67 y68 /\ (ref22_arguments_j16 (wI (ij15 + 1)) y68 ij13 p r)))) /\ (bj16 = false -> ref22_arguments_j16 (wI (ij15 + 1)) false ij13 p r)) /\ ((decide (ij15 < (y64.Ops.length : Int))) = false -> ref22_arguments_j14 (wI (ij13 + 1)) bj16 p r))) : ref22_arguments_j16 ij15 bj16 ij13 p r := by
 refine dl_unroll (d_seqQ (ds (va 4 [(90, aI ij13), (89, .sl (List.map eGProg p.Progs) .no), (87, aI ij15)] ?_)))
 obtain ⟨y64, hy, h0, hw⟩ := hw
 refine vo rfl (x_idx h0 hy (rfl : eGProg y64 = eGProg y64)) rfl (va 2 [(93, .sl (List.map eGOp y64.Ops) .no)] (vo rfl (x_len y64.Ops eGOp) rfl (va 1 [(95, aB (decide (ij15 < (y64.Ops.length : Int))))] (ve (dw hw (fun _ hw => ?_) (fun _ hw => ?_))))))
 ·refine d_skip (d_seqQ (d_blockQ (dS [(0, (eGPlan p))] (sa 1 2 [(99, aB bj16)] (sw2 99 hw (fun _ hw => ?_) (fun _ hw => ?_))))))
  ·refine sa 1 4 [(103, aI ij13), (102, .sl (List.map eGProg p.Progs) .no), (100, .agg (eGPlan p))] ?_
   obtain ⟨y66, hy, h0, hw⟩ := hw
   refine sq rfl (fun _ _ => x_idx h0 hy (rfl : eGProg y66 = eGProg y66)) rfl (sa 1 3 [(107, aI ij15), (106, .sl (List.map eGOp y66.Ops) .no)] ?_)
   obtain ⟨y67, hy, h0, hw⟩ := hw
   refine sq rfl (fun _ _ => x_idx h0 hy (rfl : eGOp y67 = eGOp y67)) rfl (sa 1 1 [(109, .agg (eGOp y67))] ?_)
   obtain ⟨y68, hy, hw⟩ := hw
   exact sq rfl (y_call hy pl135) rfl (sa 1 1 [(111, aB y68)] (send (vp_start' (va 1 [(3, aB y68)] (ve (dr (va 3 [(8, aI (wI (ij15 + 1)))] (ve (jl0 hw)))))))))
  exact sa 1 12 [(111, aB false)] (send (vp_start' (va 1 [(3, aB false)] (ve (dr (va 3 [(8, aI (wI (ij15 + 1)))] (ve (jl0 hw))))))))
 exact d_exit (dr (va 3 [(7, aI (wI (ij13 + 1)))] (ve (jl0 hw))))
theorem ref22_arguments_j14_step (ij13 : Int) (bj14 : Bool) (p : GPlan) (r : Bool) (hw : ((decide (ij13 < (p.Progs.length : Int))) = true -> ∃ R5 : Bool -> Prop, (∀ bz5 : Bool, R5 bz5 -> (ref22_arguments_j16 0 bz5 ij13 p r)) /\ ((bj14 = true -> ∃ y57, p.Progs[ij13.toNat]? = some y57 /\ 0 <= ij13 /\ (∃ y58, ref22_joined y57 y58 /\ (R5 y58))) /\ (bj14 = false -> R5 false))) /\ ((decide (ij13 < (p.Progs.length : Int))) = false -> r = bj14)) : ref22_arguments_j14 ij13 bj14 p r := by
 refine dl_unroll (d_seqQ (ds (va 3 [(73, .sl (List.map eGProg p.Progs) .no), (71, aI ij13)] (vo rfl (x_len p.Progs eGProg) rfl (va 1 [(75, aB (decide (ij13 < (p.Progs.length : Int))))] (ve (dw hw (fun _ hw => ?_) (fun _ hw => ?_))))))))
 ·refine d_skip (d_seqQ (d_blockQ (ds (va 2 [(79, aB bj14)] ?_))))
  obtain ⟨R5, hR, hw⟩ := hw
  refine vr 79 86 9 bj14 R5 (fun bz5 => aB bz5) km_d (fun bz5 hz => ?_) (fun key => ⟨fun hb54 => ?_, fun hb54 => ?_⟩)
  ·have hw := hR bz5 hz
   exact va 1 [(3, aB bz5)] (ve (ds (va 1 [(8, aI 0)] (ve (d_blockQ (d_loopQ (jl0 hw)))))))
  ·have hw := hw.1 hb54
   refine va 3 [(82, aI ij13), (81, .sl (List.map eGProg p.Progs) .no)] ?_
   obtain ⟨y57, hy, h0, hw⟩ := hw
   refine vo rfl (x_idx h0 hy (rfl : eGProg y57 = eGProg y57)) rfl (va 1 [(84, .agg (eGProg y57))] ?_)
   obtain ⟨y58, hy, hw⟩ := hw
   exact vo rfl (x_call hy pl134) rfl (va 1 [(86, aB y58)] (vle km_d (key _ hw)))
  ·have hw := hw.2 hb54
   exact va 6 [(85, .tuple [])] (va 1 [(86, aB false)] (vle km_d (key _ hw)))
 exact d_exit (ds (va 2 [(2, aB bj14)] (ve (d_ret (rx hw (plr74 _))))))
theorem ref22_arguments_j18_step (ij17 : Int) (bj18 : Bool) (ij9 : Int) (p : GPlan) (r : Bool) (hw : ∃ y79, p.Enums[ij9.toNat]? = some y79 /\ 0 <= ij9 /\ (((decide (ij17 < (y79.Items.length : Int))) = true -> ∃ y80, p.Enums[ij9.toNat]? = some y80 /\ 0 <= ij9 /\ (∃ y81, y80.Items[ij17.toNat]? = some y81 /\ 0 <= ij17 /\ ((bj18 = true -> (((y81.Notes.length : Int) == 0) = true -> ref22_arguments_j18 (wI (ij17 + 1)) true ij9 p r) /\ (((y81.Notes.length : Int) == 0) = false -> ∃ R8 : Bool -> Prop, (∀ bz8 : Bool, R8 bz8 -> ((bz8 = true -> ∃ y86, ref08_Check y81.Notes 4 y86 /\ (ref22_arguments_j18 (wI (ij17 + 1)) (y86 == 0) ij9 p r)) /\ (bz8 = false -> ref22_arguments_j18 (wI (ij17 + 1)) false ij9 p r))) /\ ((((y81.Notes.length : Int) == 1) = true -> ∃ y85, y81.Notes[(0 : Int).toNat]? = some y85 /\ 0 <= (0 : Int) /\ (R8 (decide (y85.Name = (⟨#[97, 108, 105, 97, 115]⟩ : ByteArray))))) /\ (((y81.Notes.length : Int) == 1) = false -> R8 false)))) /\ (bj18 = false -> ref22_arguments_j18 (wI (ij17 + 1)) false ij9 p r)))) /\ ((decide (ij17 < (y79.Items.length : Int))) = false -> ref22_arguments_j10 (wI (ij9 + 1)) bj18 p r))) : ref22_arguments_j18 ij17 bj18 ij9 p r := by
 refine dl_unroll (d_seqQ (ds (va 4 [(30, aI ij9), (29, .sl (List.map eGEnum p.Enums) .no), (27, aI ij17)] ?_)))
 obtain ⟨y79, hy, h0, hw⟩ := hw
 refine vo rfl (x_idx h0 hy (rfl : eGEnum y79 = eGEnum y79)) rfl (va 2 [(33, .sl (List.map eGItem y79.Items) .no)] (vo rfl (x_len y79.Items eGItem) rfl (va 1 [(35, aB (decide (ij17 < (y79.Items.length : Int))))] (ve (dw hw (fun _ hw => ?_) (fun _ hw => ?_))))))
 ·refine d_skip (d_seqQ (d_blockQ (ds (va 3 [(40, aI ij9), (39, .sl (List.map eGEnum p.Enums) .no)] ?_))))
  obtain ⟨y80, hy, h0, hw⟩ := hw
  refine vo rfl (x_idx h0 hy (rfl : eGEnum y80 = eGEnum y80)) rfl (va 3 [(44, aI ij17), (43, .sl (List.map eGItem y80.Items) .no)] ?_)
  obtain ⟨y81, hy, h0, hw⟩ := hw
  refine vo rfl (x_idx h0 hy (rfl : eGItem y81 = eGItem y81)) rfl (va 3 [(6, .sl (List.map eGNote y81.Notes) .no)] (ve (dr (va 2 [(49, aB bj18)] (vw2 49 hw (fun _ hw => ?_) (fun _ hw => ?_))))))
  ·refine va 1 [(50, .sl (List.map eGNote y81.Notes) .no)] (vo rfl (x_len y81.Notes eGNote) rfl (va 2 [(53, aB ((y81.Notes.length : Int) == 0))] (vw2 53 hw (fun _ hw => ?_) (fun _ hw => ?_))))
   ·exact va 18 [(3, aB true)] (ve (dr (va 3 [(5, aI (wI (ij17 + 1)))] (ve (jl0 hw)))))
   refine va 1 [(54, .sl (List.map eGNote y81.Notes) .no)] (vo rfl (x_len y81.Notes eGNote) rfl (va 2 [(57, aB ((y81.Notes.length : Int) == 1))] ?_))
   obtain ⟨R8, hR, hw⟩ := hw
   refine vr 57 63 16 ((y81.Notes.length : Int) == 1) R8 (fun bz8 => aB bz8) km_d (fun bz8 hz => ?_) (fun key => ⟨fun hb84 => ?_, fun hb84 => ?_⟩)
   ·have hw := hR bz8 hz
    refine va 1 [(64, aB bz8)] (vw2 64 hw (fun _ hw => ?_) (fun _ hw => ?_))
    ·refine va 1 [(65, .sl (List.map eGNote y81.Notes) .no)] ?_
     obtain ⟨y86, hy, hw⟩ := hw
     exact vo rfl (x_call hy pl133) rfl (va 5 [(3, aB (y86 == 0))] (ve (dr (va 3 [(5, aI (wI (ij17 + 1)))] (ve (jl0 hw))))))
    exact va 7 [(3, aB false)] (ve (dr (va 3 [(5, aI (wI (ij17 + 1)))] (ve (jl0 hw)))))
   ·have hw := hw.1 hb84
    refine va 1 [(58, .sl (List.map eGNote y81.Notes) .no)] ?_
    obtain ⟨y85, hy, h0, hw⟩ := hw
    exact vo rfl (x_idx h0 hy (rfl : eGNote y85 = eGNote y85)) rfl (va 2 [(61, aS y85.Name)] (vo rfl (x_eqS y85.Name (⟨#[97, 108, 105, 97, 115]⟩ : ByteArray)) rfl (va 1 [(63, aB (decide (y85.Name = (⟨#[97, 108, 105, 97, 115]⟩ : ByteArray))))] (vle km_d (key _ hw)))))
   ·have hw := hw.2 hb84
    exact va 5 [(62, .tuple [])] (va 1 [(63, aB false)] (vle km_d (key _ hw)))
  exact va 22 [(3, aB false)] (ve (dr (va 3 [(5, aI (wI (ij17 + 1)))] (ve (jl0 hw)))))
 exact d_exit (dr (va 3 [(4, aI (wI (ij9 + 1)))] (ve (jl0 hw))))
theorem ref22_arguments_j10_step (ij9 : Int) (bj10 : Bool) (p : GPlan) (r : Bool) (hw : ((decide (ij9 < (p.Enums.length : Int))) = true -> ∃ R6 : Bool -> Prop, (∀ bz6 : Bool, R6 bz6 -> (ref22_arguments_j18 0 bz6 ij9 p r)) /\ ((bj10 = true -> ∃ y70, p.Enums[ij9.toNat]? = some y70 /\ 0 <= ij9 /\ (R6 ((y70.Notes.length : Int) == 0))) /\ (bj10 = false -> R6 false))) /\ ((decide (ij9 < (p.Enums.length : Int))) = false -> ref22_arguments_j14 0 bj10 p r)) : ref22_arguments_j10 ij9 bj10 p r := by
 refine dl_unroll (d_seqQ (ds (va 3 [(11, .sl (List.map eGEnum p.Enums) .no), (9, aI ij9)] (vo rfl (x_len p.Enums eGEnum) rfl (va 1 [(13, aB (decide (ij9 < (p.Enums.length : Int))))] (ve (dw hw (fun _ hw => ?_) (fun _ hw => ?_))))))))
 ·refine d_skip (d_seqQ (d_blockQ (ds (va 2 [(17, aB bj10)] ?_))))
  obtain ⟨R6, hR, hw⟩ := hw
  refine vr 17 26 11 bj10 R6 (fun bz6 => aB bz6) km_d (fun bz6 hz => ?_) (fun key => ⟨fun hb62 => ?_, fun hb62 => ?_⟩)
  ·have hw := hR bz6 hz
   exact va 1 [(3, aB bz6)] (ve (ds (va 1 [(5, aI 0)] (ve (d_blockQ (d_loopQ (jl0 hw)))))))
  ·have hw := hw.1 hb62
   refine va 3 [(20, aI ij9), (19, .sl (List.map eGEnum p.Enums) .no)] ?_
   obtain ⟨y70, hy, h0, hw⟩ := hw
   exact vo rfl (x_idx h0 hy (rfl : eGEnum y70 = eGEnum y70)) rfl (va 2 [(23, .sl (List.map eGNote y70.Notes) .no)] (vo rfl (x_len y70.Notes eGNote) rfl (va 1 [(25, aB ((y70.Notes.length : Int) == 0))] (va 1 [(26, aB ((y70.Notes.length : Int) == 0))] (vle km_d (key _ hw))))))
  ·have hw := hw.2 hb62
   exact va 8 [(25, .tuple [])] (va 1 [(26, aB false)] (vle km_d (key _ hw)))
 exact d_exit (d_seqQ (ds (va 1 [(7, aI 0)] (ve (d_blockQ (d_loopQ (jl0 hw)))))))
theorem ref22_arguments_step (p : GPlan) (r : Bool) (hw : ref22_arguments_j10 0 true p r) : ref22_arguments p r := by
 exact f_pureD fn74 nle rfl (ds (vg 2 [(1, .ptr 0 0)] [(eGPlan p)] [] (ve (ds (va 1 [(3, aB true)] (ve (d_seqQ (ds (va 1 [(4, aI 0)] (ve (d_blockQ (d_loopQ (jl0 hw)))))))))))))
theorem plr75 (r : Bool) : plain (e75 r) = true := rfl
def r75_0 : LO := [o 1 (bx 0), o 2 (mb false)]
def r75_1 : LO := [o 9 (fa 0 1), o 10 (ld 9), o 11 (.len false (T 10)), o 12 (.make 1 1 [(aB false)] (T 11) (T 11)), o 3 (mv 12)]
def r75_2 : LO := [o 13 (fa 0 1), o 14 (ld 13), o 15 (.len false (T 14)), o 16 (.bin .eql (T 15) (ci 0)), o 4 (mv 16)]
def r75_3 : LO := [o 17 (fa 0 1), o 18 (ld 17), o 19 (.len false (T 18)), o 20 (mi 0)]
def r75_4 : LO := [o 21 (.bin .lss (T 20) (T 19))]
def r75_8 : LO := [o 4 (mb true)]
def r75_9 : LO := [o 5 (mi 0)]
def r75_10 : LO := [o 22 (mv 5), o 23 (fa 0 1), o 24 (ld 23), o 25 (.len false (T 24)), o 26 (.bin .lss (T 22) (T 25))]
def k75_1 : ACode := .cond (T 26) .skip (.exit 2)
def r75_15 : LO := [o 6 (mb true)]
def r75_16 : LO := [o 7 (mi 0)]
def r75_17 : LO := [o 29 (mv 7), o 30 (fa 0 1), o 31 (ld 30), o 32 (mv 5), o 33 (.idxSl 3 (T 31) (T 32)), o 34 (fa 1 33), o 35 (ld 34), o 36 (.len false (T 35)), o 37 (.bin .lss (T 29) (T 36))]
def k75_2 : ACode := .cond (T 37) .skip (.exit 4)
def r75_22 : LO := [o 40 (fa 0 1), o 41 (ld 40), o 42 (mv 5), o 43 (.idxSl 3 (T 41) (T 42)), o 44 (fa 1 43), o 45 (ld 44), o 46 (mv 7), o 47 (.idxSl 8 (T 45) (T 46)), o 48 (ln 8 47), o 8 (.alloc [(aI 0), aE, aE, (aI 0), (aI 0), (aI 0), (aI 0), (aI 0)]), on (st 8 8 48)]
def r75_23 : LO := [o 49 (mv 6), o 50 (mv 49), og 51 (fa 3 8) 50 true, og 52 (ld 51) 50 true, og 53 (.bin .neq (T 52) (ci 1)) 50 true, og 54 (mv 53) 50 true, og 55 (fa 5 8) 54 false, og 56 (ld 55) 54 false, og 57 (.bin .neq (T 56) (ci 10)) 54 false, og 58 (.pick (T 54) (cb true) (T 57)) 50 true, og 59 (mv 58) 50 true, og 60 (mv 3) 59 false, og 61 (fa 6 8) 59 false, og 62 (ld 61) 59 false, og 63 (.idxSl 1 (T 60) (T 62)) 59 false, og 64 (ld 63) 59 false, og 65 (.pick (T 59) (cb true) (T 64)) 50 true, o 66 (.pick (T 50) (T 65) (cb false)), o 6 (mv 66)]
def r75_26 : LO := [o 38 (mv 7), o 39 (.bin .add (T 38) (ci 1)), o 7 (mv 39)]
def k75_3 : ACode := .seq (.block 5 (.seq (.region r75_22) (.region r75_23))) (.region r75_26)
def k75_4 : ACode := .seq (.seq (.region r75_17) k75_2) k75_3
def k75_5 : ACode := .block 4 (.loop k75_4)
def r75_32 : LO := [o 67 (mv 3), o 68 (mv 5), o 69 (mv 6), o 70 (.idxSl 1 (T 67) (T 68)), on (st 1 70 69)]
def r75_33 : LO := [o 71 (mv 4), o 72 (mv 71), og 73 (mv 6) 72 true, o 74 (.pick (T 72) (T 73) (cb false)), o 4 (mv 74)]
def k75_6 : ACode := .seq (.region r75_32) (.region r75_33)
def k75_7 : ACode := .seq (.seq (.region r75_16) k75_5) k75_6
def r75_38 : LO := [o 27 (mv 5), o 28 (.bin .add (T 27) (ci 1)), o 5 (mv 28)]
def k75_8 : ACode := .seq (.block 3 (.seq (.region r75_15) k75_7)) (.region r75_38)
def k75_9 : ACode := .seq (.seq (.region r75_10) k75_1) k75_8
def k75_10 : ACode := .block 2 (.loop k75_9)
def k75_11 : ACode := .seq (.region r75_9) k75_10
def k75_12 : ACode := .seq (.region r75_8) k75_11
def r75_46 : LO := [o 75 (.bin .add (T 20) (ci 1)), o 20 (mv 75)]
def k75_13 : ACode := .seq (.block 1 k75_12) (.region r75_46)
def k75_14 : ACode := .seq (.cond (T 21) .skip (.exit 0)) k75_13
def k75_15 : ACode := .seq (.region r75_4) k75_14
def k75_16 : ACode := .block 0 (.loop k75_15)
def r75_53 : LO := [o 76 (mv 4), o 2 (mv 76)]
def k75_17 : ACode := .seq (.region r75_53) .ret
def k75_18 : ACode := .seq (.seq (.region r75_3) k75_16) k75_17
def k75_19 : ACode := .seq (.region r75_2) k75_18
def k75_20 : ACode := .seq (.region r75_1) k75_19
def k75_21 : ACode := .seq (.region r75_0) k75_20
theorem fn75 : getFn Tryz.prog 75 = some (77, k75_21, [.tmp 2]) := by kernel_rfl
def q75_0 (r : Bool) : QP := qret [.tmp 2] (e75 r)
def q75_4 (r : Bool) : QP := tq Tryz.prog 77 k75_17 (q75_0 r)
def q75_6 (r : Bool) : QP := inBlockA 0 (q75_4 r)
def q75_7 (r : Bool) : QP := tl Tryz.prog 77 k75_15 (q75_6 r)
def q75_11 (r : Bool) : QP := tq Tryz.prog 77 (.region r75_46) (q75_7 r)
def q75_12 (r : Bool) : QP := inBlockA 1 (q75_11 r)
def q75_15 (r : Bool) : QP := inBlockA 2 (q75_12 r)
def q75_16 (r : Bool) : QP := tl Tryz.prog 77 k75_9 (q75_15 r)
def q75_19 (r : Bool) : QP := tq Tryz.prog 77 (.region r75_38) (q75_16 r)
def q75_20 (r : Bool) : QP := inBlockA 3 (q75_19 r)
def q75_22 (r : Bool) : QP := tq Tryz.prog 77 k75_6 (q75_20 r)
def q75_24 (r : Bool) : QP := inBlockA 4 (q75_22 r)
def ref22_finite_j14 (ij16 : Int) (bj17 : Bool) (ij13 : Int) (bj15 : Bool) (ij8 : Int) (p : GPlan) (lj14 : (List Bool)) (r : Bool) : Prop := DL Tryz.prog 77 0 0 k75_4 (q75_24 r) [(7, aI ij16), (6, aB bj17), (5, aI ij13), (4, aB bj15), (20, aI ij8), (19, aI (p.Progs.length : Int)), (3, .row 1 0 1 (p.Progs.length : Int).toNat (p.Progs.length : Int).toNat), (1, .ptr 0 0)] ⟨[some (eGPlan p), some (cellsOf eBool lj14)], [], []⟩
def ref22_finite_j12 (ij13 : Int) (bj15 : Bool) (ij8 : Int) (p : GPlan) (lj14 : (List Bool)) (r : Bool) : Prop := DL Tryz.prog 77 0 0 k75_9 (q75_15 r) [(5, aI ij13), (4, aB bj15), (20, aI ij8), (19, aI (p.Progs.length : Int)), (3, .row 1 0 1 (p.Progs.length : Int).toNat (p.Progs.length : Int).toNat), (1, .ptr 0 0)] ⟨[some (eGPlan p), some (cellsOf eBool lj14)], [], []⟩
def ref22_finite_j8 (ij8 : Int) (p : GPlan) (bj9 : Bool) (lj10 : (List Bool)) (r : Bool) : Prop := DL Tryz.prog 77 0 0 k75_15 (q75_6 r) [(20, aI ij8), (19, aI (p.Progs.length : Int)), (4, aB bj9), (3, .row 1 0 1 (p.Progs.length : Int).toNat (p.Progs.length : Int).toNat), (1, .ptr 0 0)] ⟨[some (eGPlan p), some (cellsOf eBool lj10)], [], []⟩
theorem ref22_finite_j14_low {ij16 : Int} {bj17 : Bool} {ij13 : Int} {bj15 : Bool} {ij8 : Int} {p : GPlan} {lj14 : (List Bool)} : lowE [true, true] 0 [(7, aI ij16), (6, aB bj17), (5, aI ij13), (4, aB bj15), (20, aI ij8), (19, aI (p.Progs.length : Int)), (3, .row 1 0 1 (p.Progs.length : Int).toNat (p.Progs.length : Int).toNat), (1, .ptr 0 0)] = true /\ lowB [true, true] 0 [some (eGPlan p), some (cellsOf eBool lj14)] = true := ⟨by first | rfl | simp, by first | rfl | simp⟩
theorem ref22_finite_j14_step (ij16 : Int) (bj17 : Bool) (ij13 : Int) (bj15 : Bool) (ij8 : Int) (p : GPlan) (lj14 : (List Bool)) (r : Bool) (hw : ∃ y29, p.Progs[ij13.toNat]? = some y29 /\ 0 <= ij13 /\ (((decide (ij16 < (y29.Ops.length : Int))) = true -> ∃ y30, p.Progs[ij13.toNat]? = some y30 /\ 0 <= ij13 /\ (∃ y31, y30.Ops[ij16.toNat]? = some y31 /\ 0 <= ij16 /\ ((bj17 = true -> (((y31.Card != 1) || (y31.Kind != 10)) = true -> ref22_finite_j14 (wI (ij16 + 1)) true ij13 bj15 ij8 p lj14 r) /\ (((y31.Card != 1) || (y31.Kind != 10)) = false -> (0 <= y31.Target /\ y31.Target < ((p.Progs.length : Int).toNat : Int)) /\ (∃ y32, lj14[y31.Target.toNat]? = some y32 /\ (ref22_finite_j14 (wI (ij16 + 1)) y32 ij13 bj15 ij8 p lj14 r)))) /\ (bj17 = false -> ref22_finite_j14 (wI (ij16 + 1)) false ij13 bj15 ij8 p lj14 r)))) /\ ((decide (ij16 < (y29.Ops.length : Int))) = false -> (0 <= ij13 /\ ij13 < ((p.Progs.length : Int).toNat : Int)) /\ (ij13.toNat < lj14.length /\ (ref22_finite_j12 (wI (ij13 + 1)) (bj15 && bj17) ij8 p (lj14.set ij13.toNat bj17) r))))) : ref22_finite_j14 ij16 bj17 ij13 bj15 ij8 p lj14 r := by
 refine dl_unroll (d_seqQ (ds (va 4 [(32, aI ij13), (31, .sl (List.map eGProg p.Progs) .no), (29, aI ij16)] ?_)))
 obtain ⟨y29, hy, h0, hw⟩ := hw
 refine vo rfl (x_idx h0 hy (rfl : eGProg y29 = eGProg y29)) rfl (va 2 [(35, .sl (List.map eGOp y29.Ops) .no)] (vo rfl (x_len y29.Ops eGOp) rfl (va 1 [(37, aB (decide (ij16 < (y29.Ops.length : Int))))] (ve (dw hw (fun _ hw => ?_) (fun _ hw => ?_))))))
 ·refine d_skip (d_seqQ (d_blockQ (ds (va 3 [(42, aI ij13), (41, .sl (List.map eGProg p.Progs) .no)] ?_))))
  obtain ⟨y30, hy, h0, hw⟩ := hw
  refine vo rfl (x_idx h0 hy (rfl : eGProg y30 = eGProg y30)) rfl (va 3 [(46, aI ij16), (45, .sl (List.map eGOp y30.Ops) .no)] ?_)
  obtain ⟨y31, hy, h0, hw⟩ := hw
  refine vo rfl (x_idx h0 hy (rfl : eGOp y31 = eGOp y31)) rfl (vg 3 [(8, .ptr 2 0)] [(eGOp y31)] [] (ve (dr (va 2 [(50, aB bj17)] (vw2 50 hw (fun _ hw => ?_) (fun _ hw => ?_))))))
  ·refine va 4 [(54, aB (y31.Card != 1))] (vj 54 58 10 (y31.Card != 1) (fun z => aB (z || (y31.Kind != 10))) km_d (fun _ key => ?_) (fun _ key => ?_) ?_)
   ·exact va 3 [(57, .tuple [])] (va 1 [(58, aB true)] (vle km_d key))
   ·exact va 3 [(57, aB (y31.Kind != 10))] (va 1 [(58, aB (y31.Kind != 10))] (vle km_d key))
   refine va 1 [(59, aB ((y31.Card != 1) || (y31.Kind != 10)))] (vw2 59 hw (fun _ hw => ?_) (fun _ hw => ?_))
   ·exact va 8 [(6, aB true)] (ve (dr (va 3 [(7, aI (wI (ij16 + 1)))] (ve (jl ref22_finite_j14_low hw)))))
   refine va 3 [(62, aI y31.Target), (60, .row 1 0 1 (p.Progs.length : Int).toNat (p.Progs.length : Int).toNat)] ?_
   obtain ⟨h0, hw⟩ := hw
   refine vo rfl (x_ridx 1 (p.Progs.length : Int).toNat (p.Progs.length : Int).toNat h0) rfl ?_
   obtain ⟨y32, hy, hw⟩ := hw
   exact vo rfl (x_rld1 (sz := 1) (r := 1) (e := eBool) (k := 0) (i := y31.Target.toNat) (off := (0 + y31.Target.toNat * 1)) (fun _ => rfl) (fun _ => rfl) hy nle rfl (by omega)) rfl (va 3 [(6, aB y32)] (ve (dr (va 3 [(7, aI (wI (ij16 + 1)))] (ve (jl ref22_finite_j14_low hw))))))
  exact va 17 [(6, aB false)] (ve (dr (va 3 [(7, aI (wI (ij16 + 1)))] (ve (jl ref22_finite_j14_low hw)))))
 refine d_exit (ds (va 3 [(69, aB bj17), (68, aI ij13), (67, .row 1 0 1 (p.Progs.length : Int).toNat (p.Progs.length : Int).toNat)] ?_))
 obtain ⟨h0, hw⟩ := hw
 refine vo rfl (x_ridx 1 (p.Progs.length : Int).toNat (p.Progs.length : Int).toNat h0) rfl ?_
 obtain ⟨h0, hw⟩ := hw
 refine vw rfl (x_rst (sz := 1) (r := 1) (e := eBool) (i := ij13.toNat) (off := (0 + ij13.toNat * 1)) (l := lj14) (av := aB bj17) bj17 (fun _ => rfl) (fun _ => rfl) h0 rfl (by omega)) (ve (dr (va 2 [(72, aB bj15)] (vj 72 74 4 bj15 (fun z => aB (z && bj17)) km_d (fun _ key => ?_) (fun _ key => ?_) ?_))))
 ·exact va 1 [(73, aB bj17)] (va 1 [(74, aB bj17)] (vle km_d key))
 ·exact va 1 [(73, .tuple [])] (va 1 [(74, aB false)] (vle km_d key))
 exact va 1 [(4, aB (bj15 && bj17))] (ve (dr (va 3 [(5, aI (wI (ij13 + 1)))] (ve (jl0 hw)))))
theorem ref22_finite_j12_step (ij13 : Int) (bj15 : Bool) (ij8 : Int) (p : GPlan) (lj14 : (List Bool)) (r : Bool) (hw : ((decide (ij13 < (p.Progs.length : Int))) = true -> ref22_finite_j14 0 true ij13 bj15 ij8 p lj14 r) /\ ((decide (ij13 < (p.Progs.length : Int))) = false -> ref22_finite_j8 (wI (ij8 + 1)) p bj15 lj14 r)) : ref22_finite_j12 ij13 bj15 ij8 p lj14 r := by
 refine dl_unroll (d_seqQ (ds (va 3 [(24, .sl (List.map eGProg p.Progs) .no), (22, aI ij13)] (vo rfl (x_len p.Progs eGProg) rfl (va 1 [(26, aB (decide (ij13 < (p.Progs.length : Int))))] (ve (dw hw (fun _ hw => ?_) (fun _ hw => ?_))))))))
 ·exact d_skip (d_seqQ (d_blockQ (ds (va 1 [(6, aB true)] (ve (d_seqQ (ds (va 1 [(7, aI 0)] (ve (d_blockQ (d_loopQ (jl0 hw))))))))))))
 exact d_exit (dr (va 2 [(20, aI (wI (ij8 + 1)))] (ve (jl0 hw))))
theorem ref22_finite_j8_step (ij8 : Int) (p : GPlan) (bj9 : Bool) (lj10 : (List Bool)) (r : Bool) (hw : ((decide (ij8 < (p.Progs.length : Int))) = true -> ref22_finite_j12 0 true ij8 p lj10 r) /\ ((decide (ij8 < (p.Progs.length : Int))) = false -> r = bj9)) : ref22_finite_j8 ij8 p bj9 lj10 r := by
 refine dl_unroll (ds (va 1 [(21, aB (decide (ij8 < (p.Progs.length : Int))))] (ve (d_seqQ (dw hw (fun _ hw => ?_) (fun _ hw => ?_))))))
 ·exact d_skip (d_seqQ (d_blockQ (ds (va 1 [(4, aB true)] (ve (ds (va 1 [(5, aI 0)] (ve (d_blockQ (d_loopQ (jl0 hw)))))))))))
 exact d_exit (ds (va 2 [(2, aB bj9)] (ve (d_ret (rx hw (plr75 _))))))
theorem ref22_finite_step (p : GPlan) (r : Bool) (hw : (0 <= (p.Progs.length : Int) /\ (p.Progs.length : Int) <= (p.Progs.length : Int) /\ (p.Progs.length : Int) * 1 <= 140737488355328) /\ (ref22_finite_j8 0 p ((p.Progs.length : Int) == 0) (List.replicate (p.Progs.length : Int).toNat false) r)) : ref22_finite p r := by
 refine f_pureD fn75 nle rfl (ds (vg 2 [(1, .ptr 0 0)] [(eGPlan p)] [] (ve (ds (va 2 [(10, .sl (List.map eGProg p.Progs) .no)] (vo rfl (x_len p.Progs eGProg) rfl ?_))))))
 obtain ⟨h0, hw⟩ := hw
 exact vo rfl (x_make eBool false (p.Progs.length : Int) (p.Progs.length : Int) h0) rfl (va 1 [(3, .row 1 0 1 (p.Progs.length : Int).toNat (p.Progs.length : Int).toNat)] (ve (ds (va 2 [(14, .sl (List.map eGProg p.Progs) .no)] (vo rfl (x_len p.Progs eGProg) rfl (va 2 [(4, aB ((p.Progs.length : Int) == 0))] (ve (d_seqQ (ds (va 2 [(18, .sl (List.map eGProg p.Progs) .no)] (vo rfl (x_len p.Progs eGProg) rfl (va 1 [(20, aI 0)] (ve (d_blockQ (d_loopQ (jl0 hw))))))))))))))))
theorem plr76 (r : GCursor) : plain (e76 r) = true := (pl_GCursor r)
def r76_0 : LO := [o 2 (bx 0), o 4 (.alloc [aE, (aI 0), (aI 0), (aI 0), (aI 0), (aI 0)])]
def r76_1 : LO := [o 5 (fa 1 2), o 6 (ld 5), o 7 (mv 1), o 8 (.bin .add (T 6) (T 7)), o 9 (fa 1 2), on (st 1 9 8)]
def r76_2 : LO := [o 10 (ln 6 2), on (st 6 4 10)]
def k76_1 : ACode := .seq (.region r76_2) .ret
def k76_2 : ACode := .seq (.region r76_1) k76_1
def k76_3 : ACode := .seq (.region r76_0) k76_2
theorem fn76 : getFn Tryz.prog 76 = some (11, k76_3, [.cell 4 (some 6)]) := by kernel_rfl
theorem cursor_ahead_step (c : GCursor) (n : Int) (r : GCursor) (hw : r = (⟨c.Data, (wI (c.At + n)), c.End, c.Depth, c.Nodes, c.Text⟩ : GCursor)) : cursor_ahead c n r := by
 exact f_pureD fn76 nle rfl (ds (vg 2 [(4, .ptr 1 0), (2, .ptr 0 0)] [(eGCursor c), [aE, aI 0, aI 0, aI 0, aI 0, aI 0]] [] (ve (ds (vg 6 [] [] [(0, [aS c.Data, aI (wI (c.At + n)), aI c.End, aI c.Depth, aI c.Nodes, aI c.Text])] (ve (ds (vg 2 [] [] [(1, [aS c.Data, aI (wI (c.At + n)), aI c.End, aI c.Depth, aI c.Nodes, aI c.Text])] (ve (d_ret (rx hw (plr76 _))))))))))))
theorem plr77 (r : (Int × GCursor × Int)) : plain (e77 r) = true := (ptup (pcons rfl (pcons (pl_GCursor r.2.1) (pcons rfl rfl))))
def r77_0 : LO := [o 1 (bx 0), o 2 (.mv (.c (aU 0))), o 3 (.alloc [aE, (aI 0), (aI 0), (aI 0), (aI 0), (aI 0)]), o 4 (mi 0)]
def r77_1 : LO := [o 8 (ln 6 1), o 9 (.call (cf 137) [(T 8), (ci 8)]), o 10 (.call (cf 136) [(T 9)]), o 7 (mv 10), o 11 (.extract 0 (T 7)), o 12 (.extract 1 (T 7)), o 5 (mv 11), o 6 (mv 12)]
def r77_2 : LO := [o 13 (mv 6), o 14 (.bin .neq (T 13) (ci 0))]
def r77_3 : LO := [o 15 (ln 6 1), o 16 (mv 6), o 2 (.mv (.c (aU 0))), on (st 6 3 15)]
def r77_3t : LO := [o 4 (mv 16)]
def r77_3o : LN := [[], [], [], [0, 2]]
def k77_1 : ACode := .cond (T 14) (.seq (.drawn r77_3o r77_3 r77_3t) .ret) .skip
def k77_2 : ACode := .seq (.region r77_2) k77_1
def r77_9 : LO := [o 17 (mv 5), o 18 (ln 6 1), o 19 (.call (cf 76) [(T 18), (ci 8)]), o 2 (mv 17), on (st 6 3 19), o 4 (mi 0)]
def k77_3 : ACode := .seq (.region r77_9) .ret
def k77_4 : ACode := .seq k77_2 k77_3
def k77_5 : ACode := .seq (.region r77_1) k77_4
def k77_6 : ACode := .seq (.region r77_0) k77_5
theorem fn77 : getFn Tryz.prog 77 = some (20, k77_6, [.tmp 2, .cell 3 (some 6), .tmp 4]) := by kernel_rfl
theorem cursor_Fixed_step (c : GCursor) (r : (Int × GCursor × Int)) (hw : ∃ y1, cursor_head c 8 y1 /\ (∃ y2, varint_TakeFixed y1 y2 /\ (((y2.2 != 0) = true -> r = (0, c, y2.2)) /\ ((y2.2 != 0) = false -> ∃ y3, cursor_ahead c 8 y3 /\ (r = (y2.1, y3, 0)))))) : cursor_Fixed c r := by
 refine f_pureD fn77 nle rfl (ds (vg 4 [(3, .ptr 1 0), (1, .ptr 0 0)] [(eGCursor c), [aE, aI 0, aI 0, aI 0, aI 0, aI 0]] [] (ve (ds (va 1 [(8, .agg (eGCursor c))] ?_)))))
 obtain ⟨y1, hy, hw⟩ := hw
 refine vo rfl (x_call hy pl137) rfl ?_
 obtain ⟨y2, hy, hw⟩ := hw
 refine vo rfl (x_call hy pl136) rfl (va 5 [(6, aI y2.2), (5, aU y2.1)] (ve (d_seqQ (ds (va 2 [(14, aB (y2.2 != 0))] (ve (dw hw (fun _ hw => ?_) (fun _ hw => ?_))))))))
 ·exact d_seqQ (dS [(0, (eGCursor c))] (sa 1 3 [(2, aU 0), (16, aI y2.2), (15, .agg (eGCursor c))] (sw [] rfl (x_U (.tuple []) [] [(1, (eGCursor c))]) (send (vp_start' (va 1 [(4, aI y2.2)] (ve (d_ret (rx hw (plr77 _))))))))))
 refine d_skip (ds (va 2 [(18, .agg (eGCursor c)), (17, aU y2.1)] ?_))
 obtain ⟨y3, hy, hw⟩ := hw
 exact vo rfl (x_call hy pl76) rfl (vg 3 [(4, aI 0), (2, aU y2.1)] [] [(1, (eGCursor y3))] (ve (d_ret (rx hw (plr77 _)))))
theorem plr78 (r : (ByteArray × GCursor × Int)) : plain (e78 r) = true := (ptup (pcons rfl (pcons (pl_GCursor r.2.1) (pcons rfl rfl))))
def r78_0 : LO := [o 2 (bx 0), o 4 (.mv (.c aE)), o 5 (.alloc [aE, (aI 0), (aI 0), (aI 0), (aI 0), (aI 0)]), o 6 (mi 0)]
def r78_1 : LO := [o 8 (mv 1), o 9 (.bin .lss (T 8) (ci 0)), o 7 (mv 9)]
def r78_2 : LO := [o 10 (ln 6 2), o 4 (.mv (.c aE))]
def r78_2t : LO := [on (st 6 5 10), o 6 (mi 1)]
def r78_2o : LN := [[], []]
def r78_5 : LO := [o 12 (mv 1), o 13 (ln 6 2), o 14 (.call (cf 62) [(T 13)]), o 15 (.bin .gtr (T 12) (T 14)), o 11 (mv 15)]
def r78_6 : LO := [o 16 (ln 6 2), o 4 (.mv (.c aE))]
def r78_6t : LO := [on (st 6 5 16), o 6 (mi 4)]
def r78_6o : LN := [[], []]
def r78_9 : LO := [o 18 (mv 1), o 19 (fa 5 2), o 20 (ld 19), o 21 (.bin .gtr (T 18) (T 20)), o 17 (mv 21)]
def r78_10 : LO := [o 22 (ln 6 2), o 4 (.mv (.c aE))]
def r78_10t : LO := [on (st 6 5 22), o 6 (mi 3)]
def r78_10o : LN := [[], []]
def k78_1 : ACode := .cond (T 17) (.seq (.drawn r78_10o r78_10 r78_10t) .ret) .skip
def k78_2 : ACode := .cond (T 11) (.seq (.drawn r78_6o r78_6 r78_6t) .ret) (.seq (.region r78_9) k78_1)
def k78_3 : ACode := .cond (T 7) (.seq (.drawn r78_2o r78_2 r78_2t) .ret) (.seq (.region r78_5) k78_2)
def r78_21 : LO := [o 23 (mv 1), o 24 (.bin .eql (T 23) (ci 0))]
def r78_22 : LO := [o 25 (ln 6 2), o 4 (.mv (.c aE))]
def r78_22t : LO := [on (st 6 5 25), o 6 (mi 0)]
def r78_22o : LN := [[], []]
def k78_4 : ACode := .cond (T 24) (.seq (.drawn r78_22o r78_22 r78_22t) .ret) .skip
def r78_28 : LO := [o 26 (ln 6 2), o 27 (mv 1), o 28 (.call (cf 138) [(T 26), (T 27)]), o 29 (.conv .str (T 28)), o 30 (ln 6 2), o 31 (mv 1), o 32 (.call (cf 76) [(T 30), (T 31)]), o 4 (mv 29)]
def r78_28t : LO := [on (st 6 5 32), o 6 (mi 0)]
def r78_28o : LN := [[], [], [0, 1], [2], [], [], [2, 4, 5], [0, 1, 2, 3, 6]]
def k78_5 : ACode := .seq (.drawn r78_28o r78_28 r78_28t) .ret
def k78_6 : ACode := .seq (.seq (.region r78_21) k78_4) k78_5
def k78_7 : ACode := .seq (.block 0 (.seq (.region r78_1) k78_3)) k78_6
def k78_8 : ACode := .seq (.region r78_0) k78_7
theorem fn78 : getFn Tryz.prog 78 = some (33, k78_8, [.tmp 4, .cell 5 (some 6), .tmp 6]) := by kernel_rfl
theorem cursor_Text_step (c : GCursor) (n : Int) (r : (ByteArray × GCursor × Int)) (hw : ((decide (n < 0)) = true -> r = ((⟨#[]⟩ : ByteArray), c, 1)) /\ ((decide (n < 0)) = false -> ∃ y1, cursor_Left c y1 /\ (((decide (y1 < n)) = true -> r = ((⟨#[]⟩ : ByteArray), c, 4)) /\ ((decide (y1 < n)) = false -> ((decide (c.Text < n)) = true -> r = ((⟨#[]⟩ : ByteArray), c, 3)) /\ ((decide (c.Text < n)) = false -> ((n == 0) = true -> r = ((⟨#[]⟩ : ByteArray), c, 0)) /\ ((n == 0) = false -> ∃ y2, cursor_piece c n y2 /\ (∃ y3, y2 = bI y3 /\ (∃ y4, cursor_ahead c n y4 /\ (r = (y3, y4, 0)))))))))) : cursor_Text c n r := by
 refine f_pureD fn78 nle rfl (ds (vg 4 [(5, .ptr 1 0), (2, .ptr 0 0)] [(eGCursor c), [aE, aI 0, aI 0, aI 0, aI 0, aI 0]] [] (ve (d_seqQ (d_blockQ (ds (va 3 [(7, aB (decide (n < 0)))] (ve (dw hw (fun _ hw => ?_) (fun _ hw => ?_))))))))))
 ·exact d_seqQ (dS [(0, (eGCursor c))] (sa 1 2 [(4, aE), (10, .agg (eGCursor c))] (send (vp_start' (vg 2 [(6, aI 1)] [] [(1, (eGCursor c))] (ve (d_ret (rx hw (plr78 _)))))))))
 refine ds (va 2 [(13, .agg (eGCursor c)), (12, aI n)] ?_)
 obtain ⟨y1, hy, hw⟩ := hw
 refine vo rfl (x_call hy pl62) rfl (va 2 [(11, aB (decide (y1 < n)))] (ve (dw hw (fun _ hw => ?_) (fun _ hw => ?_))))
 ·exact d_seqQ (dS [(0, (eGCursor c))] (sa 1 2 [(4, aE), (16, .agg (eGCursor c))] (send (vp_start' (vg 2 [(6, aI 4)] [] [(1, (eGCursor c))] (ve (d_ret (rx hw (plr78 _)))))))))
 refine ds (va 5 [(17, aB (decide (c.Text < n)))] (ve (dw hw (fun _ hw => ?_) (fun _ hw => ?_))))
 ·exact d_seqQ (dS [(0, (eGCursor c))] (sa 1 2 [(4, aE), (22, .agg (eGCursor c))] (send (vp_start' (vg 2 [(6, aI 3)] [] [(1, (eGCursor c))] (ve (d_ret (rx hw (plr78 _)))))))))
 refine d_skip (d_seqQ (ds (va 2 [(24, aB (n == 0))] (ve (dw hw (fun _ hw => ?_) (fun _ hw => ?_))))))
 ·exact d_seqQ (dS [(0, (eGCursor c))] (sa 1 2 [(4, aE), (25, .agg (eGCursor c))] (send (vp_start' (vg 2 [(6, aI 0)] [] [(1, (eGCursor c))] (ve (d_ret (rx hw (plr78 _)))))))))
 refine d_skip (d_seqQ (dS [(0, (eGCursor c))] (sa 1 2 [(27, aI n), (26, .agg (eGCursor c))] ?_)))
 obtain ⟨y2, hy, hw⟩ := hw
 refine sq rfl (y_call hy pl138) rfl ?_
 obtain ⟨y3, hy, hw⟩ := hw
 refine sq rfl (fun _ _ => x_str hy) rfl (sa 1 2 [(31, aI n), (30, .agg (eGCursor c))] ?_)
 obtain ⟨y4, hy, hw⟩ := hw
 exact sq rfl (y_call hy pl76) rfl (sa 1 1 [(4, aS y3)] (send (vp_start' (vg 2 [(6, aI 0)] [] [(1, (eGCursor y4))] (ve (d_ret (rx hw (plr78 _))))))))
theorem plr79 (r : Bool) : plain (e79 r) = true := rfl
def r79_0 : LO := [o 2 (mb false)]
def r79_1 : LO := [o 3 (mv 0), o 4 (.call (cf 139) [(T 3)]), o 5 (.bin .lss (T 4) (ci 0)), o 2 (mv 5)]
def k79_1 : ACode := .seq (.region r79_1) .ret
def k79_2 : ACode := .seq (.region r79_0) k79_1
theorem fn79 : getFn Tryz.prog 79 = some (6, k79_2, [.tmp 2]) := by kernel_rfl
theorem utf_Valid_step (s : ByteArray) (r : Bool) (hw : ∃ y1, utf_Bad s y1 /\ (r = (decide (y1 < 0)))) : utf_Valid s r := by
 refine f_pureD fn79 nle rfl (ds (va 1 [] (ve (ds (va 1 [(3, aS s)] ?_)))))
 obtain ⟨y1, hy, hw⟩ := hw
 exact vo rfl (x_call hy pl139) rfl (va 2 [(2, aB (decide (y1 < 0)))] (ve (d_ret (rx hw (plr79 _)))))
end
end Go.Proofs.YtidmmngcijapcaaGreat.Lift
