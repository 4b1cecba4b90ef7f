/- Part 5 of the texts that prove OrderLastEnd. -/
import Derived.Test.YtkcbmobdpenngaaDoorOrderLastEndP3
import Derived.Test.YtkcbmobdpenngaaDoorOrderLastEndP2
namespace Go.Proofs.YtkcbmobdpenngaaDoor.Lift
open Go.RowKit
set_option linter.unusedVariables false
set_option linter.unusedSimpArgs false
set_option linter.unnecessarySimpa false
set_option linter.unusedSectionVars false
set_option maxRecDepth 100000
section
attribute [-simp] List.map_take List.map_drop List.map_append List.map_set List.map_replicate List.map_cons List.map_map
attribute [local simp] plain plainL lowE lowB keepB low lowL lowLL plm_I_i8 plm_I_i16 plm_I_i32 plm_I_i64 plm_I_u8 plm_I_u16 plm_I_u32 plm_I_u64 plm_Bool plm_Str gfn_fi gfn_cap plm_Fn pl_GRaw plm_GRaw pl_GValue plm_GValue pl_GPair plm_GPair pl_GSlot plm_GSlot pl_Gparts plm_Gparts pl_Any eI_i8 eI_i16 eI_i32 eI_i64 eI_u8 eI_u16 eI_u32 eI_u64 eBool eStr eFn gfn_lfi gfn_lcap lwm_GRaw lwm_GValue lwm_GPair lwm_GSlot
theorem plr19 (r : Int) : plain (e19 r) = true := rfl
def r19_0 : LO := [o 6 (mi 0)]
def r19_1 : LO := [o 11 (mv 0), o 12 (.len false (T 11)), o 13 (mi 0)]
def r19_2 : LO := [o 14 (.bin .lss (T 13) (T 12))]
def r19_6 : LO := [o 15 (mv 13), o 16 (.idxSl 7 (T 11) (T 13)), o 17 (ln 7 16), o 8 (.alloc zV), o 7 (mv 15), on (st 7 8 17)]
def r19_7 : LO := [o 18 (mv 7), o 19 (mv 1), o 20 (.len false (T 19)), o 21 (.bin .geq (T 18) (T 20))]
def r19_8 : LO := [o 6 (mi 1)]
def k19_1 : ACode := .cond (T 21) (.seq (.region r19_8) .ret) .skip
def k19_2 : ACode := .seq (.region r19_7) k19_1
def r19_14 : LO := [o 22 (mv 1), o 23 (mv 7), o 24 (.idxSl 7 (T 22) (T 23)), o 25 (ln 7 24), o 9 (.alloc zV), on (st 7 9 25)]
def r19_15 : LO := [o 26 (mv 2), o 27 (ln 7 8), o 28 (ln 7 9), o 29 (.call (T 26) [(T 27), (T 28)]), o 10 (mv 29)]
def r19_16 : LO := [o 30 (mv 10), o 31 (.bin .neq (T 30) (ci 0))]
def r19_17 : LO := [o 32 (mv 10), o 6 (mv 32)]
def k19_3 : ACode := .cond (T 31) (.seq (.region r19_17) .ret) .skip
def k19_4 : ACode := .seq (.region r19_16) k19_3
def k19_5 : ACode := .seq (.region r19_15) k19_4
def k19_6 : ACode := .seq (.region r19_14) k19_5
def k19_7 : ACode := .seq k19_2 k19_6
def r19_28 : LO := [o 33 (.bin .add (T 13) (ci 1)), o 13 (mv 33)]
def k19_8 : ACode := .seq (.block 1 (.seq (.region r19_6) k19_7)) (.region r19_28)
def k19_9 : ACode := .seq (.cond (T 14) .skip (.exit 0)) k19_8
def k19_10 : ACode := .seq (.region r19_2) k19_9
def k19_11 : ACode := .block 0 (.loop k19_10)
def r19_35 : LO := [o 34 (mv 0), o 35 (.len false (T 34)), o 36 (mv 1), o 37 (.len false (T 36)), o 38 (.bin .lss (T 35) (T 37))]
def r19_36 : LO := [o 6 (mi (-1))]
def k19_12 : ACode := .cond (T 38) (.seq (.region r19_36) .ret) .skip
def k19_13 : ACode := .seq (.region r19_35) k19_12
def r19_42 : LO := [o 6 (mi 0)]
def k19_14 : ACode := .seq (.region r19_42) .ret
def k19_15 : ACode := .seq k19_13 k19_14
def k19_16 : ACode := .seq (.seq (.region r19_1) k19_11) k19_15
def k19_17 : ACode := .seq (.region r19_0) k19_16
theorem fn19 : getFn Tryd.prog 19 = some (39, k19_17, [.tmp 6]) := by kernel_rfl
def q19_0 (r : Int) : QP := qret [.tmp 6] (e19 r)
def q19_2 (r : Int) : QP := tq Tryd.prog 39 k19_15 (q19_0 r)
def q19_4 (r : Int) : QP := inBlockA 0 (q19_2 r)
def slices_CompareFunc_order_list_order_list_Value_Value_j2 (ij1 : Int) (s1_ : (List GValue)) (s2_ : (List GValue)) (cmp : GFn) (r : Int) : Prop := DL Tryd.prog 39 0 0 k19_10 (q19_4 r) [(13, aI ij1), (12, aI (s1_.length : Int)), (11, .sl (List.map eGValue' s1_) .no), (0, .sl (List.map eGValue' s1_) .no), (1, .sl (List.map eGValue' s2_) .no), (2, .clo (.func cmp.fn) cmp.fi cmp.cap)] ⟨[], [], []⟩
theorem slices_CompareFunc_order_list_order_list_Value_Value_j2_low {ij1 : Int} {s1_ : (List GValue)} {s2_ : (List GValue)} {cmp : GFn} : lowE [] 0 [(13, aI ij1), (12, aI (s1_.length : Int)), (11, .sl (List.map eGValue' s1_) .no), (0, .sl (List.map eGValue' s1_) .no), (1, .sl (List.map eGValue' s2_) .no), (2, .clo (.func cmp.fn) cmp.fi cmp.cap)] = true /\ lowB [] 0 [] = true := ⟨by first | rfl | simp, by first | rfl | simp⟩
theorem slices_CompareFunc_order_list_order_list_Value_Value_j2_step (ij1 : Int) (s1_ : (List GValue)) (s2_ : (List GValue)) (cmp : GFn) (r : Int) (hw : ((decide (ij1 < (s1_.length : Int))) = true -> ∃ y4, s1_[ij1.toNat]? = some y4 /\ 0 <= ij1 /\ (((decide ((s2_.length : Int) <= ij1)) = true -> r = 1) /\ ((decide ((s2_.length : Int) <= ij1)) = false -> ∃ y5, s2_[ij1.toNat]? = some y5 /\ 0 <= ij1 /\ (∃ y6, FCall Tryd.prog [] (.clo (.func cmp.fn) cmp.fi cmp.cap) [.agg (eGValue y4), .agg (eGValue y5)] (aI y6) /\ (((y6 != 0) = true -> r = y6) /\ ((y6 != 0) = false -> slices_CompareFunc_order_list_order_list_Value_Value_j2 (wI (ij1 + 1)) s1_ s2_ cmp r)))))) /\ ((decide (ij1 < (s1_.length : Int))) = false -> ((decide ((s1_.length : Int) < (s2_.length : Int))) = true -> r = (-1)) /\ ((decide ((s1_.length : Int) < (s2_.length : Int))) = false -> r = 0))) : slices_CompareFunc_order_list_order_list_Value_Value_j2 ij1 s1_ s2_ cmp r := by
 refine dl_unroll (ds (va 1 [(14, aB (decide (ij1 < (s1_.length : Int))))] (ve (d_seqQ (dw hw (fun _ hw => ?_) (fun _ hw => ?_))))))
 ·refine d_skip (d_seqQ (d_blockQ (ds (va 1 [(15, aI ij1)] ?_))))
  obtain ⟨y4, hy, h0, hw⟩ := hw
  refine vo rfl (x_idx h0 hy (eGValue'_eq _)) rfl (vg 4 [(7, aI ij1), (8, .ptr 0 0)] [(eGValue y4)] [] (ve (d_seqQ (ds (va 2 [(19, .sl (List.map eGValue' s2_) .no), (18, aI ij1)] (vo rfl (x_len s2_ eGValue') rfl (va 1 [(21, aB (decide ((s2_.length : Int) <= ij1)))] (ve (dw hw (fun _ hw => ?_) (fun _ hw => ?_))))))))))
  ·exact ds (va 1 [(6, aI 1)] (ve (d_ret (rx hw (plr19 _)))))
  refine d_skip (ds (va 2 [(23, aI ij1), (22, .sl (List.map eGValue' s2_) .no)] ?_))
  obtain ⟨y5, hy, h0, hw⟩ := hw
  refine vo rfl (x_idx h0 hy (eGValue'_eq _)) rfl (vg 3 [(9, .ptr 1 0)] [(eGValue y5)] [] (ve (ds (va 3 [(28, .agg (eGValue y5)), (27, .agg (eGValue y4)), (26, .clo (.func cmp.fn) cmp.fi cmp.cap)] ?_))))
  obtain ⟨y6, hy, hw⟩ := hw
  refine vo rfl (x_fcall hy) rfl (va 1 [(10, aI y6)] (ve (ds (va 2 [(31, aB (y6 != 0))] (ve (dw hw (fun _ hw => ?_) (fun _ hw => ?_)))))))
  ·exact ds (va 2 [(6, aI y6)] (ve (d_ret (rx hw (plr19 _)))))
  exact d_skip (dr (va 2 [(13, aI (wI (ij1 + 1)))] (ve (jl slices_CompareFunc_order_list_order_list_Value_Value_j2_low hw))))
 refine d_exit (d_seqQ (ds (va 1 [(34, .sl (List.map eGValue' s1_) .no)] (vo rfl (x_len s1_ eGValue') rfl (va 1 [(36, .sl (List.map eGValue' s2_) .no)] (vo rfl (x_len s2_ eGValue') rfl (va 1 [(38, aB (decide ((s1_.length : Int) < (s2_.length : Int))))] (ve (dw hw (fun _ hw => ?_) (fun _ hw => ?_))))))))))
 ·exact ds (va 1 [(6, aI (-1))] (ve (d_ret (rx hw (plr19 _)))))
 exact d_skip (ds (va 1 [(6, aI 0)] (ve (d_ret (rx hw (plr19 _))))))
theorem slices_CompareFunc_order_list_order_list_Value_Value_step (s1_ : (List GValue)) (s2_ : (List GValue)) (cmp : GFn) (r : Int) (hw : slices_CompareFunc_order_list_order_list_Value_Value_j2 0 s1_ s2_ cmp r) : slices_CompareFunc_order_list_order_list_Value_Value s1_ s2_ cmp r := by
 exact f_pureD fn19 nle rfl (ds (va 1 [] (ve (d_seqQ (ds (va 1 [(11, .sl (List.map eGValue' s1_) .no)] (vo rfl (x_len s1_ eGValue') rfl (va 1 [(13, aI 0)] (ve (d_blockQ (d_loopQ (jl0 hw))))))))))))
theorem plr20 (r : Int) : plain (e20 r) = true := rfl
def r20_0 : LO := [o 6 (mi 0)]
def r20_1 : LO := [o 11 (mv 0), o 12 (.len false (T 11)), o 13 (mi 0)]
def r20_2 : LO := [o 14 (.bin .lss (T 13) (T 12))]
def r20_6 : LO := [o 15 (mv 13), o 16 (.idxSl 14 (T 11) (T 13)), o 17 (ln 14 16), o 8 (.alloc [(aI 0), (aU 0), aE, .nil, .nil, .nil, .nil, (aI 0), (aU 0), aE, .nil, .nil, .nil, .nil]), o 7 (mv 15), on (st 14 8 17)]
def r20_7 : LO := [o 18 (mv 7), o 19 (mv 1), o 20 (.len false (T 19)), o 21 (.bin .geq (T 18) (T 20))]
def r20_8 : LO := [o 6 (mi 1)]
def k20_1 : ACode := .cond (T 21) (.seq (.region r20_8) .ret) .skip
def k20_2 : ACode := .seq (.region r20_7) k20_1
def r20_14 : LO := [o 22 (mv 1), o 23 (mv 7), o 24 (.idxSl 14 (T 22) (T 23)), o 25 (ln 14 24), o 9 (.alloc [(aI 0), (aU 0), aE, .nil, .nil, .nil, .nil, (aI 0), (aU 0), aE, .nil, .nil, .nil, .nil]), on (st 14 9 25)]
def r20_15 : LO := [o 26 (mv 2), o 27 (ln 14 8), o 28 (ln 14 9), o 29 (.call (T 26) [(T 27), (T 28)]), o 10 (mv 29)]
def r20_16 : LO := [o 30 (mv 10), o 31 (.bin .neq (T 30) (ci 0))]
def r20_17 : LO := [o 32 (mv 10), o 6 (mv 32)]
def k20_3 : ACode := .cond (T 31) (.seq (.region r20_17) .ret) .skip
def k20_4 : ACode := .seq (.region r20_16) k20_3
def k20_5 : ACode := .seq (.region r20_15) k20_4
def k20_6 : ACode := .seq (.region r20_14) k20_5
def k20_7 : ACode := .seq k20_2 k20_6
def r20_28 : LO := [o 33 (.bin .add (T 13) (ci 1)), o 13 (mv 33)]
def k20_8 : ACode := .seq (.block 1 (.seq (.region r20_6) k20_7)) (.region r20_28)
def k20_9 : ACode := .seq (.cond (T 14) .skip (.exit 0)) k20_8
def k20_10 : ACode := .seq (.region r20_2) k20_9
def k20_11 : ACode := .block 0 (.loop k20_10)
def r20_35 : LO := [o 34 (mv 0), o 35 (.len false (T 34)), o 36 (mv 1), o 37 (.len false (T 36)), o 38 (.bin .lss (T 35) (T 37))]
def r20_36 : LO := [o 6 (mi (-1))]
def k20_12 : ACode := .cond (T 38) (.seq (.region r20_36) .ret) .skip
def k20_13 : ACode := .seq (.region r20_35) k20_12
def r20_42 : LO := [o 6 (mi 0)]
def k20_14 : ACode := .seq (.region r20_42) .ret
def k20_15 : ACode := .seq k20_13 k20_14
def k20_16 : ACode := .seq (.seq (.region r20_1) k20_11) k20_15
def k20_17 : ACode := .seq (.region r20_0) k20_16
theorem fn20 : getFn Tryd.prog 20 = some (39, k20_17, [.tmp 6]) := by kernel_rfl
def q20_0 (r : Int) : QP := qret [.tmp 6] (e20 r)
def q20_2 (r : Int) : QP := tq Tryd.prog 39 k20_15 (q20_0 r)
def q20_4 (r : Int) : QP := inBlockA 0 (q20_2 r)
def slices_CompareFunc_order_pairs_order_pairs_Pair_Pair_j2 (ij1 : Int) (s1_ : (List (GValue × GValue))) (s2_ : (List (GValue × GValue))) (cmp : GFn) (r : Int) : Prop := DL Tryd.prog 39 0 0 k20_10 (q20_4 r) [(13, aI ij1), (12, aI (s1_.length : Int)), (11, .sl (List.map eGPair' s1_) .no), (0, .sl (List.map eGPair' s1_) .no), (1, .sl (List.map eGPair' s2_) .no), (2, .clo (.func cmp.fn) cmp.fi cmp.cap)] ⟨[], [], []⟩
theorem slices_CompareFunc_order_pairs_order_pairs_Pair_Pair_j2_low {ij1 : Int} {s1_ : (List (GValue × GValue))} {s2_ : (List (GValue × GValue))} {cmp : GFn} : lowE [] 0 [(13, aI ij1), (12, aI (s1_.length : Int)), (11, .sl (List.map eGPair' s1_) .no), (0, .sl (List.map eGPair' s1_) .no), (1, .sl (List.map eGPair' s2_) .no), (2, .clo (.func cmp.fn) cmp.fi cmp.cap)] = true /\ lowB [] 0 [] = true := ⟨by first | rfl | simp, by first | rfl | simp⟩
theorem slices_CompareFunc_order_pairs_order_pairs_Pair_Pair_j2_step (ij1 : Int) (s1_ : (List (GValue × GValue))) (s2_ : (List (GValue × GValue))) (cmp : GFn) (r : Int) (hw : ((decide (ij1 < (s1_.length : Int))) = true -> ∃ y4, s1_[ij1.toNat]? = some y4 /\ 0 <= ij1 /\ (((decide ((s2_.length : Int) <= ij1)) = true -> r = 1) /\ ((decide ((s2_.length : Int) <= ij1)) = false -> ∃ y5, s2_[ij1.toNat]? = some y5 /\ 0 <= ij1 /\ (∃ y6, FCall Tryd.prog [] (.clo (.func cmp.fn) cmp.fi cmp.cap) [.agg (eGPair y4), .agg (eGPair y5)] (aI y6) /\ (((y6 != 0) = true -> r = y6) /\ ((y6 != 0) = false -> slices_CompareFunc_order_pairs_order_pairs_Pair_Pair_j2 (wI (ij1 + 1)) s1_ s2_ cmp r)))))) /\ ((decide (ij1 < (s1_.length : Int))) = false -> ((decide ((s1_.length : Int) < (s2_.length : Int))) = true -> r = (-1)) /\ ((decide ((s1_.length : Int) < (s2_.length : Int))) = false -> r = 0))) : slices_CompareFunc_order_pairs_order_pairs_Pair_Pair_j2 ij1 s1_ s2_ cmp r := by
 refine dl_unroll (ds (va 1 [(14, aB (decide (ij1 < (s1_.length : Int))))] (ve (d_seqQ (dw hw (fun _ hw => ?_) (fun _ hw => ?_))))))
 ·refine d_skip (d_seqQ (d_blockQ (ds (va 1 [(15, aI ij1)] ?_))))
  obtain ⟨y4, hy, h0, hw⟩ := hw
  refine vo rfl (x_idx h0 hy (eGPair'_eq _)) rfl (vg 4 [(7, aI ij1), (8, .ptr 0 0)] [(eGPair y4)] [] (ve (d_seqQ (ds (va 2 [(19, .sl (List.map eGPair' s2_) .no), (18, aI ij1)] (vo rfl (x_len s2_ eGPair') rfl (va 1 [(21, aB (decide ((s2_.length : Int) <= ij1)))] (ve (dw hw (fun _ hw => ?_) (fun _ hw => ?_))))))))))
  ·exact ds (va 1 [(6, aI 1)] (ve (d_ret (rx hw (plr20 _)))))
  refine d_skip (ds (va 2 [(23, aI ij1), (22, .sl (List.map eGPair' s2_) .no)] ?_))
  obtain ⟨y5, hy, h0, hw⟩ := hw
  refine vo rfl (x_idx h0 hy (eGPair'_eq _)) rfl (vg 3 [(9, .ptr 1 0)] [(eGPair y5)] [] (ve (ds (va 3 [(28, .agg (eGPair y5)), (27, .agg (eGPair y4)), (26, .clo (.func cmp.fn) cmp.fi cmp.cap)] ?_))))
  obtain ⟨y6, hy, hw⟩ := hw
  refine vo rfl (x_fcall hy) rfl (va 1 [(10, aI y6)] (ve (ds (va 2 [(31, aB (y6 != 0))] (ve (dw hw (fun _ hw => ?_) (fun _ hw => ?_)))))))
  ·exact ds (va 2 [(6, aI y6)] (ve (d_ret (rx hw (plr20 _)))))
  exact d_skip (dr (va 2 [(13, aI (wI (ij1 + 1)))] (ve (jl slices_CompareFunc_order_pairs_order_pairs_Pair_Pair_j2_low hw))))
 refine d_exit (d_seqQ (ds (va 1 [(34, .sl (List.map eGPair' s1_) .no)] (vo rfl (x_len s1_ eGPair') rfl (va 1 [(36, .sl (List.map eGPair' s2_) .no)] (vo rfl (x_len s2_ eGPair') rfl (va 1 [(38, aB (decide ((s1_.length : Int) < (s2_.length : Int))))] (ve (dw hw (fun _ hw => ?_) (fun _ hw => ?_))))))))))
 ·exact ds (va 1 [(6, aI (-1))] (ve (d_ret (rx hw (plr20 _)))))
 exact d_skip (ds (va 1 [(6, aI 0)] (ve (d_ret (rx hw (plr20 _))))))
theorem slices_CompareFunc_order_pairs_order_pairs_Pair_Pair_step (s1_ : (List (GValue × GValue))) (s2_ : (List (GValue × GValue))) (cmp : GFn) (r : Int) (hw : slices_CompareFunc_order_pairs_order_pairs_Pair_Pair_j2 0 s1_ s2_ cmp r) : slices_CompareFunc_order_pairs_order_pairs_Pair_Pair s1_ s2_ cmp r := by
 exact f_pureD fn20 nle rfl (ds (va 1 [] (ve (d_seqQ (ds (va 1 [(11, .sl (List.map eGPair' s1_) .no)] (vo rfl (x_len s1_ eGPair') rfl (va 1 [(13, aI 0)] (ve (d_blockQ (d_loopQ (jl0 hw))))))))))))
theorem plr21 (r : Int) : plain (e21 r) = true := rfl
def r21_0 : LO := [o 2 (bx 0), o 3 (bx 1), o 4 (mi 0)]
def r21_1 : LO := [o 5 (fa 0 2), o 6 (ln 7 5), o 7 (fa 0 3), o 8 (ln 7 7), o 9 (.call (cf 6) [(T 6), (T 8)]), o 10 (fa 7 2), o 11 (ln 7 10), o 12 (fa 7 3), o 13 (ln 7 12), o 14 (.call (cf 6) [(T 11), (T 13)]), o 15 (.sliceLit 1 2 [(aI 0), (aI 0)] [((0, 1), (T 9)), ((1, 1), (T 14))]), o 16 (.call (cf 22) [(T 15)])]
def r21_1t : LO := [o 4 (mv 16)]
def r21_1o : LN := [[], [0], [], [2], [1, 3], [], [5], [], [7], [4, 6, 8], [4, 9], [9, 10]]
def k21_1 : ACode := .seq (.drawn r21_1o r21_1 r21_1t) .ret
def k21_2 : ACode := .seq (.region r21_0) k21_1
theorem fn21 : getFn Tryd.prog 21 = some (17, k21_2, [.tmp 4]) := by kernel_rfl
theorem order_cmpPair_step (a : (GValue × GValue)) (b : (GValue × GValue)) (r : Int) (hw : ∃ y1, order_Cmp a.1 b.1 y1 /\ (∃ y2, order_Cmp a.2 b.2 y2 /\ (∃ y3, cmp_Or_int ([y1, y2] : (List Int)) y3 /\ (r = y3)))) : order_cmpPair a b r := by
 refine f_pureD fn21 nle rfl (ds (vg 3 [(3, .ptr 1 0), (2, .ptr 0 0)] [(eGPair a), (eGPair b)] [] (ve (d_seqQ (dS [(0, (eGPair a)), (1, (eGPair b))] (sa 2 4 [(8, .agg (eGValue b.1)), (6, .agg (eGValue a.1))] ?_))))))
 obtain ⟨y1, hy, hw⟩ := hw
 refine sq rfl (y_call hy pl6) rfl (sa 2 4 [(13, .agg (eGValue b.2)), (11, .agg (eGValue a.2))] ?_)
 obtain ⟨y2, hy, hw⟩ := hw
 refine sq rfl (y_call hy pl6) rfl (sa 2 1 [(15, .sl [[aI y1], [aI y2]] .full)] ?_)
 obtain ⟨y3, hy, hw⟩ := hw
 exact sq rfl (y_call hy pl22) rfl (send (vp_start' (va 1 [(4, aI y3)] (ve (d_ret (rx hw (plr21 _)))))))
theorem plr22 (r : Int) : plain (e22 r) = true := rfl
def r22_0 : LO := [o 2 (mi 0)]
def r22_1 : LO := [o 3 (mi 0)]
def r22_2 : LO := [o 6 (mv 0), o 7 (.len false (T 6)), o 8 (mi 0)]
def r22_3 : LO := [o 9 (.bin .lss (T 8) (T 7))]
def r22_7 : LO := [o 10 (.idxSl 1 (T 6) (T 8)), o 11 (ld 10), o 5 (mv 11)]
def r22_8 : LO := [o 12 (mv 5), o 13 (mv 3), o 14 (.bin .neq (T 12) (T 13))]
def r22_9 : LO := [o 15 (mv 5), o 2 (mv 15)]
def k22_1 : ACode := .cond (T 14) (.seq (.region r22_9) .ret) .skip
def k22_2 : ACode := .seq (.region r22_8) k22_1
def r22_17 : LO := [o 16 (.bin .add (T 8) (ci 1)), o 8 (mv 16)]
def k22_3 : ACode := .seq (.block 1 (.seq (.region r22_7) k22_2)) (.region r22_17)
def k22_4 : ACode := .seq (.cond (T 9) .skip (.exit 0)) k22_3
def k22_5 : ACode := .seq (.region r22_3) k22_4
def k22_6 : ACode := .block 0 (.loop k22_5)
def r22_24 : LO := [o 17 (mv 3), o 2 (mv 17)]
def k22_7 : ACode := .seq (.region r22_24) .ret
def k22_8 : ACode := .seq (.seq (.region r22_2) k22_6) k22_7
def k22_9 : ACode := .seq (.region r22_1) k22_8
def k22_10 : ACode := .seq (.region r22_0) k22_9
theorem fn22 : getFn Tryd.prog 22 = some (18, k22_10, [.tmp 2]) := by kernel_rfl
def q22_0 (r : Int) : QP := qret [.tmp 2] (e22 r)
def q22_3 (r : Int) : QP := tq Tryd.prog 18 k22_7 (q22_0 r)
def q22_5 (r : Int) : QP := inBlockA 0 (q22_3 r)
def cmp_Or_int_j2 (ij1 : Int) (vals : (List Int)) (r : Int) : Prop := DL Tryd.prog 18 0 0 k22_5 (q22_5 r) [(8, aI ij1), (7, aI (vals.length : Int)), (6, .sl (List.map eI_i64 vals) .no), (3, aI 0)] ⟨[], [], []⟩
theorem cmp_Or_int_j2_step (ij1 : Int) (vals : (List Int)) (r : Int) (hw : ((decide (ij1 < (vals.length : Int))) = true -> ∃ y2, vals[ij1.toNat]? = some y2 /\ 0 <= ij1 /\ (((y2 != 0) = true -> r = y2) /\ ((y2 != 0) = false -> cmp_Or_int_j2 (wI (ij1 + 1)) vals r))) /\ ((decide (ij1 < (vals.length : Int))) = false -> r = 0)) : cmp_Or_int_j2 ij1 vals r := by
 refine dl_unroll (ds (va 1 [(9, aB (decide (ij1 < (vals.length : Int))))] (ve (d_seqQ (dw hw (fun _ hw => ?_) (fun _ hw => ?_))))))
 ·refine d_skip (d_seqQ (d_blockQ (ds ?_)))
  obtain ⟨y2, hy, h0, hw⟩ := hw
  refine vo rfl (x_idx h0 hy (rfl : eI_i64 y2 = eI_i64 y2)) rfl (va 2 [(5, aI y2)] (ve (ds (va 3 [(14, aB (y2 != 0))] (ve (dw hw (fun _ hw => ?_) (fun _ hw => ?_)))))))
  ·exact ds (va 2 [(2, aI y2)] (ve (d_ret (rx hw (plr22 _)))))
  exact d_skip (dr (va 2 [(8, aI (wI (ij1 + 1)))] (ve (jl0 hw))))
 exact d_exit (ds (va 2 [(2, aI 0)] (ve (d_ret (rx hw (plr22 _))))))
theorem cmp_Or_int_step (vals : (List Int)) (r : Int) (hw : cmp_Or_int_j2 0 vals r) : cmp_Or_int vals r := by
 exact f_pureD fn22 nle rfl (ds (va 1 [] (ve (ds (va 1 [(3, aI 0)] (ve (d_seqQ (ds (va 1 [(6, .sl (List.map eI_i64 vals) .no)] (vo rfl (x_len vals eI_i64) rfl (va 1 [(8, aI 0)] (ve (d_blockQ (d_loopQ (jl0 hw)))))))))))))))
theorem plr23 (r : Int) : plain (e23 r) = true := rfl
def r23_0 : LO := [o 6 (mi 0)]
def r23_1 : LO := [o 11 (mv 0), o 12 (.len false (T 11)), o 13 (mi 0)]
def r23_2 : LO := [o 14 (.bin .lss (T 13) (T 12))]
def r23_6 : LO := [o 15 (mv 13), o 16 (.idxSl 8 (T 11) (T 13)), o 17 (ln 8 16), o 8 (.alloc [(aI 0), (aI 0), (aU 0), aE, .nil, .nil, .nil, .nil]), o 7 (mv 15), on (st 8 8 17)]
def r23_7 : LO := [o 18 (mv 7), o 19 (mv 1), o 20 (.len false (T 19)), o 21 (.bin .geq (T 18) (T 20))]
def r23_8 : LO := [o 6 (mi 1)]
def k23_1 : ACode := .cond (T 21) (.seq (.region r23_8) .ret) .skip
def k23_2 : ACode := .seq (.region r23_7) k23_1
def r23_14 : LO := [o 22 (mv 1), o 23 (mv 7), o 24 (.idxSl 8 (T 22) (T 23)), o 25 (ln 8 24), o 9 (.alloc [(aI 0), (aI 0), (aU 0), aE, .nil, .nil, .nil, .nil]), on (st 8 9 25)]
def r23_15 : LO := [o 26 (mv 2), o 27 (ln 8 8), o 28 (ln 8 9), o 29 (.call (T 26) [(T 27), (T 28)]), o 10 (mv 29)]
def r23_16 : LO := [o 30 (mv 10), o 31 (.bin .neq (T 30) (ci 0))]
def r23_17 : LO := [o 32 (mv 10), o 6 (mv 32)]
def k23_3 : ACode := .cond (T 31) (.seq (.region r23_17) .ret) .skip
def k23_4 : ACode := .seq (.region r23_16) k23_3
def k23_5 : ACode := .seq (.region r23_15) k23_4
def k23_6 : ACode := .seq (.region r23_14) k23_5
def k23_7 : ACode := .seq k23_2 k23_6
def r23_28 : LO := [o 33 (.bin .add (T 13) (ci 1)), o 13 (mv 33)]
def k23_8 : ACode := .seq (.block 1 (.seq (.region r23_6) k23_7)) (.region r23_28)
def k23_9 : ACode := .seq (.cond (T 14) .skip (.exit 0)) k23_8
def k23_10 : ACode := .seq (.region r23_2) k23_9
def k23_11 : ACode := .block 0 (.loop k23_10)
def r23_35 : LO := [o 34 (mv 0), o 35 (.len false (T 34)), o 36 (mv 1), o 37 (.len false (T 36)), o 38 (.bin .lss (T 35) (T 37))]
def r23_36 : LO := [o 6 (mi (-1))]
def k23_12 : ACode := .cond (T 38) (.seq (.region r23_36) .ret) .skip
def k23_13 : ACode := .seq (.region r23_35) k23_12
def r23_42 : LO := [o 6 (mi 0)]
def k23_14 : ACode := .seq (.region r23_42) .ret
def k23_15 : ACode := .seq k23_13 k23_14
def k23_16 : ACode := .seq (.seq (.region r23_1) k23_11) k23_15
def k23_17 : ACode := .seq (.region r23_0) k23_16
theorem fn23 : getFn Tryd.prog 23 = some (39, k23_17, [.tmp 6]) := by kernel_rfl
def q23_0 (r : Int) : QP := qret [.tmp 6] (e23 r)
def q23_2 (r : Int) : QP := tq Tryd.prog 39 k23_15 (q23_0 r)
def q23_4 (r : Int) : QP := inBlockA 0 (q23_2 r)
def slices_CompareFunc_LSlot_LSlot_Slot_Slot_j2 (ij1 : Int) (s1_ : (List (Int × GValue))) (s2_ : (List (Int × GValue))) (cmp : GFn) (r : Int) : Prop := DL Tryd.prog 39 0 0 k23_10 (q23_4 r) [(13, aI ij1), (12, aI (s1_.length : Int)), (11, .sl (List.map eGSlot' s1_) .no), (0, .sl (List.map eGSlot' s1_) .no), (1, .sl (List.map eGSlot' s2_) .no), (2, .clo (.func cmp.fn) cmp.fi cmp.cap)] ⟨[], [], []⟩
theorem slices_CompareFunc_LSlot_LSlot_Slot_Slot_j2_low {ij1 : Int} {s1_ : (List (Int × GValue))} {s2_ : (List (Int × GValue))} {cmp : GFn} : lowE [] 0 [(13, aI ij1), (12, aI (s1_.length : Int)), (11, .sl (List.map eGSlot' s1_) .no), (0, .sl (List.map eGSlot' s1_) .no), (1, .sl (List.map eGSlot' s2_) .no), (2, .clo (.func cmp.fn) cmp.fi cmp.cap)] = true /\ lowB [] 0 [] = true := ⟨by first | rfl | simp, by first | rfl | simp⟩
theorem slices_CompareFunc_LSlot_LSlot_Slot_Slot_j2_step (ij1 : Int) (s1_ : (List (Int × GValue))) (s2_ : (List (Int × GValue))) (cmp : GFn) (r : Int) (hw : ((decide (ij1 < (s1_.length : Int))) = true -> ∃ y4, s1_[ij1.toNat]? = some y4 /\ 0 <= ij1 /\ (((decide ((s2_.length : Int) <= ij1)) = true -> r = 1) /\ ((decide ((s2_.length : Int) <= ij1)) = false -> ∃ y5, s2_[ij1.toNat]? = some y5 /\ 0 <= ij1 /\ (∃ y6, FCall Tryd.prog [] (.clo (.func cmp.fn) cmp.fi cmp.cap) [.agg (eGSlot y4), .agg (eGSlot y5)] (aI y6) /\ (((y6 != 0) = true -> r = y6) /\ ((y6 != 0) = false -> slices_CompareFunc_LSlot_LSlot_Slot_Slot_j2 (wI (ij1 + 1)) s1_ s2_ cmp r)))))) /\ ((decide (ij1 < (s1_.length : Int))) = false -> ((decide ((s1_.length : Int) < (s2_.length : Int))) = true -> r = (-1)) /\ ((decide ((s1_.length : Int) < (s2_.length : Int))) = false -> r = 0))) : slices_CompareFunc_LSlot_LSlot_Slot_Slot_j2 ij1 s1_ s2_ cmp r := by
 refine dl_unroll (ds (va 1 [(14, aB (decide (ij1 < (s1_.length : Int))))] (ve (d_seqQ (dw hw (fun _ hw => ?_) (fun _ hw => ?_))))))
 ·refine d_skip (d_seqQ (d_blockQ (ds (va 1 [(15, aI ij1)] ?_))))
  obtain ⟨y4, hy, h0, hw⟩ := hw
  refine vo rfl (x_idx h0 hy (eGSlot'_eq _)) rfl (vg 4 [(7, aI ij1), (8, .ptr 0 0)] [(eGSlot y4)] [] (ve (d_seqQ (ds (va 2 [(19, .sl (List.map eGSlot' s2_) .no), (18, aI ij1)] (vo rfl (x_len s2_ eGSlot') rfl (va 1 [(21, aB (decide ((s2_.length : Int) <= ij1)))] (ve (dw hw (fun _ hw => ?_) (fun _ hw => ?_))))))))))
  ·exact ds (va 1 [(6, aI 1)] (ve (d_ret (rx hw (plr23 _)))))
  refine d_skip (ds (va 2 [(23, aI ij1), (22, .sl (List.map eGSlot' s2_) .no)] ?_))
  obtain ⟨y5, hy, h0, hw⟩ := hw
  refine vo rfl (x_idx h0 hy (eGSlot'_eq _)) rfl (vg 3 [(9, .ptr 1 0)] [(eGSlot y5)] [] (ve (ds (va 3 [(28, .agg (eGSlot y5)), (27, .agg (eGSlot y4)), (26, .clo (.func cmp.fn) cmp.fi cmp.cap)] ?_))))
  obtain ⟨y6, hy, hw⟩ := hw
  refine vo rfl (x_fcall hy) rfl (va 1 [(10, aI y6)] (ve (ds (va 2 [(31, aB (y6 != 0))] (ve (dw hw (fun _ hw => ?_) (fun _ hw => ?_)))))))
  ·exact ds (va 2 [(6, aI y6)] (ve (d_ret (rx hw (plr23 _)))))
  exact d_skip (dr (va 2 [(13, aI (wI (ij1 + 1)))] (ve (jl slices_CompareFunc_LSlot_LSlot_Slot_Slot_j2_low hw))))
 refine d_exit (d_seqQ (ds (va 1 [(34, .sl (List.map eGSlot' s1_) .no)] (vo rfl (x_len s1_ eGSlot') rfl (va 1 [(36, .sl (List.map eGSlot' s2_) .no)] (vo rfl (x_len s2_ eGSlot') rfl (va 1 [(38, aB (decide ((s1_.length : Int) < (s2_.length : Int))))] (ve (dw hw (fun _ hw => ?_) (fun _ hw => ?_))))))))))
 ·exact ds (va 1 [(6, aI (-1))] (ve (d_ret (rx hw (plr23 _)))))
 exact d_skip (ds (va 1 [(6, aI 0)] (ve (d_ret (rx hw (plr23 _))))))
theorem slices_CompareFunc_LSlot_LSlot_Slot_Slot_step (s1_ : (List (Int × GValue))) (s2_ : (List (Int × GValue))) (cmp : GFn) (r : Int) (hw : slices_CompareFunc_LSlot_LSlot_Slot_Slot_j2 0 s1_ s2_ cmp r) : slices_CompareFunc_LSlot_LSlot_Slot_Slot s1_ s2_ cmp r := by
 exact f_pureD fn23 nle rfl (ds (va 1 [] (ve (d_seqQ (ds (va 1 [(11, .sl (List.map eGSlot' s1_) .no)] (vo rfl (x_len s1_ eGSlot') rfl (va 1 [(13, aI 0)] (ve (d_blockQ (d_loopQ (jl0 hw))))))))))))
theorem plr24 (r : Int) : plain (e24 r) = true := rfl
def r24_0 : LO := [o 2 (bx 0), o 3 (bx 1), o 4 (mi 0)]
def r24_1 : LO := [o 5 (fa 0 2), o 6 (ld 5), o 7 (fa 0 3), o 8 (ld 7), o 9 (.call (cf 16) [(T 6), (T 8)]), o 10 (fa 1 2), o 11 (ln 7 10), o 12 (fa 1 3), o 13 (ln 7 12), o 14 (.call (cf 6) [(T 11), (T 13)]), o 15 (.sliceLit 1 2 [(aI 0), (aI 0)] [((0, 1), (T 9)), ((1, 1), (T 14))]), o 16 (.call (cf 22) [(T 15)])]
def r24_1t : LO := [o 4 (mv 16)]
def r24_1o : LN := [[], [0], [], [2], [1, 3], [], [5], [], [7], [4, 6, 8], [4, 9], [9, 10]]
def k24_1 : ACode := .seq (.drawn r24_1o r24_1 r24_1t) .ret
def k24_2 : ACode := .seq (.region r24_0) k24_1
theorem fn24 : getFn Tryd.prog 24 = some (17, k24_2, [.tmp 4]) := by kernel_rfl
theorem order_cmpSlot_step (a : (Int × GValue)) (b : (Int × GValue)) (r : Int) (hw : ∃ y1, cmp_Compare_int a.1 b.1 y1 /\ (∃ y2, order_Cmp a.2 b.2 y2 /\ (∃ y3, cmp_Or_int ([y1, y2] : (List Int)) y3 /\ (r = y3)))) : order_cmpSlot a b r := by
 refine f_pureD fn24 nle rfl (ds (vg 3 [(3, .ptr 1 0), (2, .ptr 0 0)] [(eGSlot a), (eGSlot b)] [] (ve (d_seqQ (dS [(0, (eGSlot a)), (1, (eGSlot b))] (sa 2 4 [(8, aI b.1), (6, aI a.1)] ?_))))))
 obtain ⟨y1, hy, hw⟩ := hw
 refine sq rfl (y_call hy pl16) rfl (sa 2 4 [(13, .agg (eGValue b.2)), (11, .agg (eGValue a.2))] ?_)
 obtain ⟨y2, hy, hw⟩ := hw
 refine sq rfl (y_call hy pl6) rfl (sa 2 1 [(15, .sl [[aI y1], [aI y2]] .full)] ?_)
 obtain ⟨y3, hy, hw⟩ := hw
 exact sq rfl (y_call hy pl22) rfl (send (vp_start' (va 1 [(4, aI y3)] (ve (d_ret (rx hw (plr24 _)))))))
theorem plr25 (r : Int) : plain (e25 r) = true := rfl
def r25_0 : LO := [o 6 (mi 0)]
def r25_1 : LO := [o 11 (mv 0), o 12 (.len false (T 11)), o 13 (mi 0)]
def r25_2 : LO := [o 14 (.bin .lss (T 13) (T 12))]
def r25_6 : LO := [o 15 (mv 13), o 16 (.idxSl 4 (T 11) (T 13)), o 17 (ln 4 16), o 8 (.alloc [(aI 0), (aI 0), (aU 0), aE]), o 7 (mv 15), on (st 4 8 17)]
def r25_7 : LO := [o 18 (mv 7), o 19 (mv 1), o 20 (.len false (T 19)), o 21 (.bin .geq (T 18) (T 20))]
def r25_8 : LO := [o 6 (mi 1)]
def k25_1 : ACode := .cond (T 21) (.seq (.region r25_8) .ret) .skip
def k25_2 : ACode := .seq (.region r25_7) k25_1
def r25_14 : LO := [o 22 (mv 1), o 23 (mv 7), o 24 (.idxSl 4 (T 22) (T 23)), o 25 (ln 4 24), o 9 (.alloc [(aI 0), (aI 0), (aU 0), aE]), on (st 4 9 25)]
def r25_15 : LO := [o 26 (mv 2), o 27 (ln 4 8), o 28 (ln 4 9), o 29 (.call (T 26) [(T 27), (T 28)]), o 10 (mv 29)]
def r25_16 : LO := [o 30 (mv 10), o 31 (.bin .neq (T 30) (ci 0))]
def r25_17 : LO := [o 32 (mv 10), o 6 (mv 32)]
def k25_3 : ACode := .cond (T 31) (.seq (.region r25_17) .ret) .skip
def k25_4 : ACode := .seq (.region r25_16) k25_3
def k25_5 : ACode := .seq (.region r25_15) k25_4
def k25_6 : ACode := .seq (.region r25_14) k25_5
def k25_7 : ACode := .seq k25_2 k25_6
def r25_28 : LO := [o 33 (.bin .add (T 13) (ci 1)), o 13 (mv 33)]
def k25_8 : ACode := .seq (.block 1 (.seq (.region r25_6) k25_7)) (.region r25_28)
def k25_9 : ACode := .seq (.cond (T 14) .skip (.exit 0)) k25_8
def k25_10 : ACode := .seq (.region r25_2) k25_9
def k25_11 : ACode := .block 0 (.loop k25_10)
def r25_35 : LO := [o 34 (mv 0), o 35 (.len false (T 34)), o 36 (mv 1), o 37 (.len false (T 36)), o 38 (.bin .lss (T 35) (T 37))]
def r25_36 : LO := [o 6 (mi (-1))]
def k25_12 : ACode := .cond (T 38) (.seq (.region r25_36) .ret) .skip
def k25_13 : ACode := .seq (.region r25_35) k25_12
def r25_42 : LO := [o 6 (mi 0)]
def k25_14 : ACode := .seq (.region r25_42) .ret
def k25_15 : ACode := .seq k25_13 k25_14
def k25_16 : ACode := .seq (.seq (.region r25_1) k25_11) k25_15
def k25_17 : ACode := .seq (.region r25_0) k25_16
theorem fn25 : getFn Tryd.prog 25 = some (39, k25_17, [.tmp 6]) := by kernel_rfl
def q25_0 (r : Int) : QP := qret [.tmp 6] (e25 r)
def q25_2 (r : Int) : QP := tq Tryd.prog 39 k25_15 (q25_0 r)
def q25_4 (r : Int) : QP := inBlockA 0 (q25_2 r)
def slices_CompareFunc_LRaw_LRaw_Raw_Raw_j2 (ij1 : Int) (s1_ : (List GRaw)) (s2_ : (List GRaw)) (cmp : GFn) (r : Int) : Prop := DL Tryd.prog 39 0 0 k25_10 (q25_4 r) [(13, aI ij1), (12, aI (s1_.length : Int)), (11, .sl (List.map eGRaw s1_) .no), (0, .sl (List.map eGRaw s1_) .no), (1, .sl (List.map eGRaw s2_) .no), (2, .clo (.func cmp.fn) cmp.fi cmp.cap)] ⟨[], [], []⟩
theorem slices_CompareFunc_LRaw_LRaw_Raw_Raw_j2_low {ij1 : Int} {s1_ : (List GRaw)} {s2_ : (List GRaw)} {cmp : GFn} : lowE [] 0 [(13, aI ij1), (12, aI (s1_.length : Int)), (11, .sl (List.map eGRaw s1_) .no), (0, .sl (List.map eGRaw s1_) .no), (1, .sl (List.map eGRaw s2_) .no), (2, .clo (.func cmp.fn) cmp.fi cmp.cap)] = true /\ lowB [] 0 [] = true := ⟨by first | rfl | simp, by first | rfl | simp⟩
theorem slices_CompareFunc_LRaw_LRaw_Raw_Raw_j2_step (ij1 : Int) (s1_ : (List GRaw)) (s2_ : (List GRaw)) (cmp : GFn) (r : Int) (hw : ((decide (ij1 < (s1_.length : Int))) = true -> ∃ y4, s1_[ij1.toNat]? = some y4 /\ 0 <= ij1 /\ (((decide ((s2_.length : Int) <= ij1)) = true -> r = 1) /\ ((decide ((s2_.length : Int) <= ij1)) = false -> ∃ y5, s2_[ij1.toNat]? = some y5 /\ 0 <= ij1 /\ (∃ y6, FCall Tryd.prog [] (.clo (.func cmp.fn) cmp.fi cmp.cap) [.agg (eGRaw y4), .agg (eGRaw y5)] (aI y6) /\ (((y6 != 0) = true -> r = y6) /\ ((y6 != 0) = false -> slices_CompareFunc_LRaw_LRaw_Raw_Raw_j2 (wI (ij1 + 1)) s1_ s2_ cmp r)))))) /\ ((decide (ij1 < (s1_.length : Int))) = false -> ((decide ((s1_.length : Int) < (s2_.length : Int))) = true -> r = (-1)) /\ ((decide ((s1_.length : Int) < (s2_.length : Int))) = false -> r = 0))) : slices_CompareFunc_LRaw_LRaw_Raw_Raw_j2 ij1 s1_ s2_ cmp r := by
 refine dl_unroll (ds (va 1 [(14, aB (decide (ij1 < (s1_.length : Int))))] (ve (d_seqQ (dw hw (fun _ hw => ?_) (fun _ hw => ?_))))))
 ·refine d_skip (d_seqQ (d_blockQ (ds (va 1 [(15, aI ij1)] ?_))))
  obtain ⟨y4, hy, h0, hw⟩ := hw
  refine vo rfl (x_idx h0 hy (rfl : eGRaw y4 = eGRaw y4)) rfl (vg 4 [(7, aI ij1), (8, .ptr 0 0)] [(eGRaw y4)] [] (ve (d_seqQ (ds (va 2 [(19, .sl (List.map eGRaw s2_) .no), (18, aI ij1)] (vo rfl (x_len s2_ eGRaw) rfl (va 1 [(21, aB (decide ((s2_.length : Int) <= ij1)))] (ve (dw hw (fun _ hw => ?_) (fun _ hw => ?_))))))))))
  ·exact ds (va 1 [(6, aI 1)] (ve (d_ret (rx hw (plr25 _)))))
  refine d_skip (ds (va 2 [(23, aI ij1), (22, .sl (List.map eGRaw s2_) .no)] ?_))
  obtain ⟨y5, hy, h0, hw⟩ := hw
  refine vo rfl (x_idx h0 hy (rfl : eGRaw y5 = eGRaw y5)) rfl (vg 3 [(9, .ptr 1 0)] [(eGRaw y5)] [] (ve (ds (va 3 [(28, .agg (eGRaw y5)), (27, .agg (eGRaw y4)), (26, .clo (.func cmp.fn) cmp.fi cmp.cap)] ?_))))
  obtain ⟨y6, hy, hw⟩ := hw
  refine vo rfl (x_fcall hy) rfl (va 1 [(10, aI y6)] (ve (ds (va 2 [(31, aB (y6 != 0))] (ve (dw hw (fun _ hw => ?_) (fun _ hw => ?_)))))))
  ·exact ds (va 2 [(6, aI y6)] (ve (d_ret (rx hw (plr25 _)))))
  exact d_skip (dr (va 2 [(13, aI (wI (ij1 + 1)))] (ve (jl slices_CompareFunc_LRaw_LRaw_Raw_Raw_j2_low hw))))
 refine d_exit (d_seqQ (ds (va 1 [(34, .sl (List.map eGRaw s1_) .no)] (vo rfl (x_len s1_ eGRaw) rfl (va 1 [(36, .sl (List.map eGRaw s2_) .no)] (vo rfl (x_len s2_ eGRaw) rfl (va 1 [(38, aB (decide ((s1_.length : Int) < (s2_.length : Int))))] (ve (dw hw (fun _ hw => ?_) (fun _ hw => ?_))))))))))
 ·exact ds (va 1 [(6, aI (-1))] (ve (d_ret (rx hw (plr25 _)))))
 exact d_skip (ds (va 1 [(6, aI 0)] (ve (d_ret (rx hw (plr25 _))))))
theorem slices_CompareFunc_LRaw_LRaw_Raw_Raw_step (s1_ : (List GRaw)) (s2_ : (List GRaw)) (cmp : GFn) (r : Int) (hw : slices_CompareFunc_LRaw_LRaw_Raw_Raw_j2 0 s1_ s2_ cmp r) : slices_CompareFunc_LRaw_LRaw_Raw_Raw s1_ s2_ cmp r := by
 exact f_pureD fn25 nle rfl (ds (va 1 [] (ve (d_seqQ (ds (va 1 [(11, .sl (List.map eGRaw s1_) .no)] (vo rfl (x_len s1_ eGRaw) rfl (va 1 [(13, aI 0)] (ve (d_blockQ (d_loopQ (jl0 hw))))))))))))
theorem plr26 (r : Int) : plain (e26 r) = true := rfl
def r26_0 : LO := [o 2 (bx 0), o 3 (bx 1), o 4 (mi 0)]
def r26_1 : LO := [o 5 (fa 0 2), o 6 (ld 5), o 7 (fa 0 3), o 8 (ld 7), o 9 (.call (cf 16) [(T 6), (T 8)]), o 10 (fa 1 2), o 11 (ld 10), o 12 (fa 1 3), o 13 (ld 12), o 14 (.call (cf 16) [(T 11), (T 13)]), o 15 (fa 2 2), o 16 (ld 15), o 17 (fa 2 3), o 18 (ld 17), o 19 (.call (cf 37) [(T 16), (T 18)]), o 20 (fa 3 2), o 21 (ld 20), o 22 (fa 3 3), o 23 (ld 22), o 24 (.call (cf 36) [(T 21), (T 23)]), o 25 (.sliceLit 1 4 [(aI 0), (aI 0), (aI 0), (aI 0)] [((0, 1), (T 9)), ((1, 1), (T 14)), ((2, 1), (T 19)), ((3, 1), (T 24))]), o 26 (.call (cf 22) [(T 25)])]
def r26_1t : LO := [o 4 (mv 26)]
def r26_1o : LN := [[], [0], [], [2], [1, 3], [], [5], [], [7], [4, 6, 8], [], [10], [], [12], [9, 11, 13], [], [15], [], [17], [14, 16, 18], [4, 9, 14, 19], [19, 20]]
def k26_1 : ACode := .seq (.drawn r26_1o r26_1 r26_1t) .ret
def k26_2 : ACode := .seq (.region r26_0) k26_1
theorem fn26 : getFn Tryd.prog 26 = some (27, k26_2, [.tmp 4]) := by kernel_rfl
theorem order_cmpRaw_step (a : GRaw) (b : GRaw) (r : Int) (hw : ∃ y1, cmp_Compare_int a.Num b.Num y1 /\ (∃ y2, cmp_Compare_int a.Wire b.Wire y2 /\ (∃ y3, cmp_Compare_uint64 a.Bits b.Bits y3 /\ (∃ y4, cmp_Compare_string a.Data b.Data y4 /\ (∃ y5, cmp_Or_int ([y1, y2, y3, y4] : (List Int)) y5 /\ (r = y5)))))) : order_cmpRaw a b r := by
 refine f_pureD fn26 nle rfl (ds (vg 3 [(3, .ptr 1 0), (2, .ptr 0 0)] [(eGRaw a), (eGRaw b)] [] (ve (d_seqQ (dS [(0, (eGRaw a)), (1, (eGRaw b))] (sa 2 4 [(8, aI b.Num), (6, aI a.Num)] ?_))))))
 obtain ⟨y1, hy, hw⟩ := hw
 refine sq rfl (y_call hy pl16) rfl (sa 2 4 [(13, aI b.Wire), (11, aI a.Wire)] ?_)
 obtain ⟨y2, hy, hw⟩ := hw
 refine sq rfl (y_call hy pl16) rfl (sa 2 4 [(18, aU b.Bits), (16, aU a.Bits)] ?_)
 obtain ⟨y3, hy, hw⟩ := hw
 refine sq rfl (y_call hy pl37) rfl (sa 2 4 [(23, aS b.Data), (21, aS a.Data)] ?_)
 obtain ⟨y4, hy, hw⟩ := hw
 refine sq rfl (y_call hy pl36) rfl (sa 2 1 [(25, .sl [[aI y1], [aI y2], [aI y3], [aI y4]] .full)] ?_)
 obtain ⟨y5, hy, hw⟩ := hw
 exact sq rfl (y_call hy pl22) rfl (send (vp_start' (va 1 [(4, aI y5)] (ve (d_ret (rx hw (plr26 _)))))))
theorem plr27 (r : Int) : plain (e27 r) = true := rfl
def r27_0 : LO := [o 2 (bx 0), o 3 (bx 1), o 4 (mi 0)]
def r27_1 : LO := [o 6 (fa 0 2), o 7 (ld 6), o 8 (fa 0 3), o 9 (ld 8), o 10 (.bin .neq (T 7) (T 9))]
def r27_2 : LO := [o 11 (fa 0 2), o 12 (ld 11), o 13 (fa 0 3), o 14 (ld 13), o 15 (.call (cf 39) [(T 12), (T 14)]), o 4 (mv 15)]
def k27_1 : ACode := .cond (T 10) (.seq (.region r27_2) .ret) .skip
def k27_2 : ACode := .seq (.region r27_1) k27_1
def r27_8 : LO := [o 16 (fa 0 2), o 17 (ld 16)]
def r27_9 : LO := [o 19 (.bin .eql (T 17) (ci 11)), o 18 (mv 19)]
def r27_10 : LO := [o 20 (fa 3 2), o 21 (ld 20), o 22 (fa 3 3), o 23 (ld 22), o 24 (.call (cf 40) [(T 21), (T 23)]), o 4 (mv 24)]
def r27_13 : LO := [o 26 (.bin .eql (T 17) (ci 12)), o 25 (mv 26)]
def r27_14 : LO := [o 27 (fa 4 2), o 28 (ld 27), o 29 (fa 4 3), o 30 (ld 29), o 31 (.call (cf 41) [(T 28), (T 30)]), o 4 (mv 31)]
def r27_17 : LO := [o 33 (.bin .eql (T 17) (ci 10)), o 32 (mv 33)]
def r27_18 : LO := [o 34 (fa 5 2), o 35 (ld 34), o 36 (fa 5 3), o 37 (ld 36), o 38 (.call (cf 42) [(T 35), (T 37)]), o 5 (mv 38)]
def r27_19 : LO := [o 39 (mv 5), o 40 (.bin .neq (T 39) (ci 0))]
def r27_20 : LO := [o 41 (mv 5), o 4 (mv 41)]
def k27_3 : ACode := .cond (T 40) (.seq (.region r27_20) .ret) .skip
def k27_4 : ACode := .seq (.region r27_19) k27_3
def r27_27 : LO := [o 42 (fa 6 2), o 43 (ld 42), o 44 (fa 6 3), o 45 (ld 44), o 46 (.call (cf 43) [(T 43), (T 45)]), o 4 (mv 46)]
def k27_5 : ACode := .seq (.region r27_27) .ret
def k27_6 : ACode := .seq (.seq (.region r27_18) k27_4) k27_5
def k27_7 : ACode := .cond (T 32) k27_6 .skip
def k27_8 : ACode := .cond (T 25) (.seq (.region r27_14) .ret) (.seq (.region r27_17) k27_7)
def k27_9 : ACode := .cond (T 18) (.seq (.region r27_10) .ret) (.seq (.region r27_13) k27_8)
def k27_10 : ACode := .block 0 (.seq (.region r27_9) k27_9)
def r27_40 : LO := [o 47 (ln 7 2), o 48 (ln 7 3), o 49 (.call (cf 44) [(T 47), (T 48)]), o 4 (mv 49)]
def k27_11 : ACode := .seq (.region r27_40) .ret
def k27_12 : ACode := .seq (.seq (.region r27_8) k27_10) k27_11
def k27_13 : ACode := .seq k27_2 k27_12
def k27_14 : ACode := .seq (.region r27_0) k27_13
theorem fn27 : getFn Tryd.prog 27 = some (50, k27_14, [.tmp 4]) := by kernel_rfl
theorem ref16_Cmp_step (a : GValue) (b : GValue) (r : Int) (hw : ((a.Kind != b.Kind) = true -> ∃ y1, ref16_number a.Kind b.Kind y1 /\ (r = y1)) /\ ((a.Kind != b.Kind) = false -> ((a.Kind == 11) = true -> ∃ y2, ref16_lists a.List_ b.List_ y2 /\ (r = y2)) /\ ((a.Kind == 11) = false -> ((a.Kind == 12) = true -> ∃ y3, ref16_pairs a.Pairs b.Pairs y3 /\ (r = y3)) /\ ((a.Kind == 12) = false -> ((a.Kind == 10) = true -> ∃ y4, ref16_slots a.Slots b.Slots y4 /\ (((y4 != 0) = true -> r = y4) /\ ((y4 != 0) = false -> ∃ y5, ref16_raws a.Raws b.Raws y5 /\ (r = y5)))) /\ ((a.Kind == 10) = false -> ∃ y6, ref04_Cmp a b y6 /\ (r = y6)))))) : ref16_Cmp a b r := by
 refine f_pureD fn27 nle rfl (ds (vg 3 [(3, .ptr 1 0), (2, .ptr 0 0)] [(eGValue a), (eGValue b)] [] (ve (d_seqQ (ds (va 5 [(10, aB (a.Kind != b.Kind))] (ve (dw hw (fun _ hw => ?_) (fun _ hw => ?_)))))))))
 ·refine ds (va 4 [(14, aI b.Kind), (12, aI a.Kind)] ?_)
  obtain ⟨y1, hy, hw⟩ := hw
  exact vo rfl (x_call hy pl39) rfl (va 1 [(4, aI y1)] (ve (d_ret (rx hw (plr27 _)))))
 refine d_skip (d_seqQ (ds (va 2 [(17, aI a.Kind)] (ve (d_blockQ (ds (va 2 [(18, aB (a.Kind == 11))] (ve (dw hw (fun _ hw => ?_) (fun _ hw => ?_))))))))))
 ·refine ds (va 4 [(23, .sl (List.map eGValue' b.List_) .no), (21, .sl (List.map eGValue' a.List_) .no)] ?_)
  obtain ⟨y2, hy, hw⟩ := hw
  exact vo rfl (x_call hy pl40) rfl (va 1 [(4, aI y2)] (ve (d_ret (rx hw (plr27 _)))))
 refine ds (va 2 [(25, aB (a.Kind == 12))] (ve (dw hw (fun _ hw => ?_) (fun _ hw => ?_))))
 ·refine ds (va 4 [(30, .sl (List.map eGPair' b.Pairs) .no), (28, .sl (List.map eGPair' a.Pairs) .no)] ?_)
  obtain ⟨y3, hy, hw⟩ := hw
  exact vo rfl (x_call hy pl41) rfl (va 1 [(4, aI y3)] (ve (d_ret (rx hw (plr27 _)))))
 refine ds (va 2 [(32, aB (a.Kind == 10))] (ve (dw hw (fun _ hw => ?_) (fun _ hw => ?_))))
 ·refine d_seqQ (ds (va 4 [(37, .sl (List.map eGSlot' b.Slots) .no), (35, .sl (List.map eGSlot' a.Slots) .no)] ?_))
  obtain ⟨y4, hy, hw⟩ := hw
  refine vo rfl (x_call hy pl42) rfl (va 1 [(5, aI y4)] (ve (ds (va 2 [(40, aB (y4 != 0))] (ve (dw hw (fun _ hw => ?_) (fun _ hw => ?_)))))))
  ·exact ds (va 2 [(4, aI y4)] (ve (d_ret (rx hw (plr27 _)))))
  refine d_skip (ds (va 4 [(45, .sl (List.map eGRaw b.Raws) .no), (43, .sl (List.map eGRaw a.Raws) .no)] ?_))
  obtain ⟨y5, hy, hw⟩ := hw
  exact vo rfl (x_call hy pl43) rfl (va 1 [(4, aI y5)] (ve (d_ret (rx hw (plr27 _)))))
 refine d_skip (ds (va 2 [(48, .agg (eGValue b)), (47, .agg (eGValue a))] ?_))
 obtain ⟨y6, hy, hw⟩ := hw
 exact vo rfl (x_call hy pl44) rfl (va 1 [(4, aI y6)] (ve (d_ret (rx hw (plr27 _)))))
theorem plr28 (r : ByteArray) : plain (e28 r) = true := rfl
def r28_0 : LO := [o 1 (bx 0), o 2 (.mv (.c aE))]
def r28_1 : LO := [o 5 (fa 0 1), o 6 (ld 5), o 7 (ln 7 1), o 8 (.call (cf 45) [(T 6), (T 7)]), o 9 (.un .not (T 8)), o 4 (mv 9)]
def r28_2 : LO := [o 2 (.mv (.c aE))]
def r28_5 : LO := [o 11 (fa 0 1), o 12 (ld 11), o 13 (.bin .eql (T 12) (ci 7)), o 14 (mv 13), og 15 (fa 0 1) 14 false, og 16 (ld 15) 14 false, og 17 (.bin .eql (T 16) (ci 8)) 14 false, o 18 (.pick (T 14) (cb true) (T 17)), o 10 (mv 18)]
def r28_6 : LO := [o 19 (fa 0 1), o 20 (ld 19), o 21 (.conv (.num .i32) (T 20)), o 22 (.conv .chr (T 21)), o 23 (fa 2 1), o 24 (ld 23), o 25 (.call (cf 46) [(T 24), (.c (aS ⟨#[0]⟩)), (.c (aS ⟨#[0, 255]⟩))]), o 26 (.bin .add (T 22) (T 25)), o 27 (.bin .add (T 26) (.c (aS ⟨#[0, 0]⟩)))]
def r28_6t : LO := [o 2 (mv 27)]
def r28_6o : LN := [[], [0], [1], [2], [], [4], [5], [3, 6], [7]]
def k28_1 : ACode := .cond (T 10) (.seq (.drawn r28_6o r28_6 r28_6t) .ret) .skip
def k28_2 : ACode := .seq (.region r28_5) k28_1
def k28_3 : ACode := .cond (T 4) (.seq (.region r28_2) .ret) k28_2
def k28_4 : ACode := .seq (.region r28_1) k28_3
def r28_15 : LO := [o 28 (ln 7 1), o 29 (.call (cf 48) [(T 28)]), o 30 (.call (cf 47) [(T 29)]), o 31 (.bytes (T 30)), o 3 (mv 31)]
def r28_16 : LO := [o 32 (mv 3), o 33 (.call (cf 49) [(T 32)])]
def r28_17 : LO := [o 34 (fa 0 1), o 35 (ld 34), o 36 (.conv (.num .i32) (T 35)), o 37 (.conv .chr (T 36)), o 38 (mv 3), o 39 (.conv .str (T 38)), o 40 (.bin .add (T 37) (T 39)), o 2 (mv 40)]
def k28_5 : ACode := .seq (.region r28_17) .ret
def k28_6 : ACode := .seq (.region r28_16) k28_5
def k28_7 : ACode := .seq (.region r28_15) k28_6
def k28_8 : ACode := .seq (.block 0 k28_4) k28_7
def k28_9 : ACode := .seq (.region r28_0) k28_8
theorem fn28 : getFn Tryd.prog 28 = some (41, k28_9, [.tmp 2]) := by kernel_rfl
theorem order_Key_step (mg : Int) (v : GValue) (r : ByteArray) (hw : ∃ y1, scalar_Fits v.Kind v y1 /\ (((!y1) = true -> r = (⟨#[]⟩ : ByteArray)) /\ ((!y1) = false -> (((v.Kind == 7) || (v.Kind == 8)) = true -> ∃ y2, strings_ReplaceAll mg v.Text (⟨#[0]⟩ : ByteArray) (⟨#[0, 255]⟩ : ByteArray) y2 /\ ((((Utf8.encode (IntKind.i32.wrap v.Kind)).size + y2.size : Nat) : Int) <= 9223372036854775807 /\ (((((Utf8.encode (IntKind.i32.wrap v.Kind)) ++ y2).size + (⟨#[0, 0]⟩ : ByteArray).size : Nat) : Int) <= 9223372036854775807 /\ (r = (((Utf8.encode (IntKind.i32.wrap v.Kind)) ++ y2) ++ (⟨#[0, 0]⟩ : ByteArray)))))) /\ (((v.Kind == 7) || (v.Kind == 8)) = false -> ∃ y3, order_turned v y3 /\ (∃ y4, varint_Fixed y3 y4 /\ (∃ y5, slices_Reverse_Lbyte_byte (bI y4) y5 /\ (∃ y6, (bI y4) = bI y6 /\ ((((Utf8.encode (IntKind.i32.wrap v.Kind)).size + y6.size : Nat) : Int) <= 9223372036854775807 /\ (r = ((Utf8.encode (IntKind.i32.wrap v.Kind)) ++ y6)))))))))) : order_Key mg v r := by
 refine f_pureD fn28 nle rfl (ds (vg 2 [(1, .ptr 0 0)] [(eGValue v)] [] (ve (d_seqQ (d_blockQ (ds (va 3 [(7, .agg (eGValue v)), (6, aI v.Kind)] ?_)))))))
 obtain ⟨y1, hy, hw⟩ := hw
 refine vo rfl (x_call (pg hy) pl45) rfl (va 2 [(4, aB (!y1))] (ve (dw hw (fun _ hw => ?_) (fun _ hw => ?_))))
 ·exact ds (va 1 [(2, aE)] (ve (d_ret (rx hw (plr28 _)))))
 refine ds (va 4 [(14, aB (v.Kind == 7))] (vj 14 18 8 (v.Kind == 7) (fun z => aB (z || (v.Kind == 8))) km_d (fun _ key => ?_) (fun _ key => ?_) ?_))
 ·exact va 3 [(17, .tuple [])] (va 1 [(18, aB true)] (vle km_d key))
 ·exact va 3 [(17, aB (v.Kind == 8))] (va 1 [(18, aB (v.Kind == 8))] (vle km_d key))
 refine va 1 [(10, aB ((v.Kind == 7) || (v.Kind == 8)))] (ve (dw hw (fun _ hw => ?_) (fun _ hw => ?_)))
 ·refine d_seqQ (dS [(0, (eGValue v))] (sa 1 6 [(24, aS v.Text), (22, aS (Utf8.encode (IntKind.i32.wrap v.Kind)))] ?_))
  obtain ⟨y2, hy, hw⟩ := hw
  refine sq rfl (y_call hy pl46) rfl ?_
  obtain ⟨h0, hw⟩ := hw
  refine sq rfl (fun _ _ => x_cat h0) rfl ?_
  obtain ⟨h0, hw⟩ := hw
  exact sq rfl (fun _ _ => x_cat h0) rfl (send (vp_start' (va 1 [(2, aS (((Utf8.encode (IntKind.i32.wrap v.Kind)) ++ y2) ++ (⟨#[0, 0]⟩ : ByteArray)))] (ve (d_ret (rx hw (plr28 _)))))))
 refine d_skip (ds (va 1 [(28, .agg (eGValue v))] ?_))
 obtain ⟨y3, hy, hw⟩ := hw
 refine vo rfl (x_call (pg hy) pl48) rfl ?_
 obtain ⟨y4, hy, hw⟩ := hw
 refine vo rfl (x_call (pg hy) pl47) rfl (vo rfl (x_bytes y4) rfl (va 1 [(3, .sl (List.map eI_u8 (bI y4)) (.own 0))] (ve (ds (va 1 [(32, .sl (List.map eI_u8 (bI y4)) (.own 0))] ?_)))))
 obtain ⟨y5, hy, hw⟩ := hw
 refine vo rfl (x_call (pg hy) pl49) rfl (ve (ds (va 5 [(38, .sl (List.map eI_u8 (bI y4)) (.own 0)), (37, aS (Utf8.encode (IntKind.i32.wrap v.Kind)))] ?_)))
 obtain ⟨y6, hy, hw⟩ := hw
 refine vo rfl (x_str hy) rfl ?_
 obtain ⟨h0, hw⟩ := hw
 exact vo rfl (x_cat h0) rfl (va 1 [(2, aS ((Utf8.encode (IntKind.i32.wrap v.Kind)) ++ y6))] (ve (d_ret (rx hw (plr28 _)))))
def r32_0 : LO := [o 6 (mi 20)]
def r32_1 : LO := [o 10 (mv 6), o 7 (mi 0), o 8 (mv 10)]
def r32_2 : LO := [o 11 (mv 8), o 12 (mv 1), o 13 (.bin .leq (T 11) (T 12))]
def k32_1 : ACode := .cond (T 13) .skip (.exit 0)
def r32_7 : LO := [o 14 (mv 0), o 15 (mv 7), o 16 (mv 8), o 17 (mv 2), o 18 (.call (cf 51) [(T 14), (T 15), (T 16), (T 17)])]
def r32_8 : LO := [o 19 (mv 8), o 7 (mv 19)]
def r32_9 : LO := [o 20 (mv 8), o 21 (mv 6), o 22 (.bin .add (T 20) (T 21)), o 8 (mv 22)]
def k32_2 : ACode := .seq (.region r32_8) (.region r32_9)
def k32_3 : ACode := .block 1 (.seq (.region r32_7) k32_2)
def k32_4 : ACode := .seq (.seq (.region r32_2) k32_1) k32_3
def r32_16 : LO := [o 23 (mv 0), o 24 (mv 7), o 25 (mv 1), o 26 (mv 2), o 27 (.call (cf 51) [(T 23), (T 24), (T 25), (T 26)])]
def r32_17 : LO := [o 28 (mv 6), o 29 (mv 1), o 30 (.bin .lss (T 28) (T 29))]
def k32_5 : ACode := .cond (T 30) .skip (.exit 2)
def r32_22 : LO := [o 31 (mv 6), o 32 (.bin .mul (ci 2) (T 31)), o 7 (mi 0), o 8 (mv 32)]
def r32_23 : LO := [o 33 (mv 8), o 34 (mv 1), o 35 (.bin .leq (T 33) (T 34))]
def k32_6 : ACode := .cond (T 35) .skip (.exit 4)
def r32_28 : LO := [o 36 (mv 0), o 37 (mv 7), o 38 (mv 7), o 39 (mv 6), o 40 (.bin .add (T 38) (T 39)), o 41 (mv 8), o 42 (mv 2), o 43 (.call (cf 52) [(T 36), (T 37), (T 40), (T 41), (T 42)])]
def r32_29 : LO := [o 44 (mv 8), o 7 (mv 44)]
def r32_30 : LO := [o 45 (mv 8), o 46 (mv 6), o 47 (.bin .mul (ci 2) (T 46)), o 48 (.bin .add (T 45) (T 47)), o 8 (mv 48)]
def k32_7 : ACode := .seq (.region r32_29) (.region r32_30)
def k32_8 : ACode := .seq (.region r32_28) k32_7
def k32_9 : ACode := .block 5 k32_8
def k32_10 : ACode := .seq (.seq (.region r32_23) k32_6) k32_9
def r32_37 : LO := [o 49 (mv 7), o 50 (mv 6), o 51 (.bin .add (T 49) (T 50)), o 9 (mv 51)]
def r32_38 : LO := [o 52 (mv 9), o 53 (mv 1), o 54 (.bin .lss (T 52) (T 53))]
def r32_39 : LO := [o 55 (mv 0), o 56 (mv 7), o 57 (mv 9), o 58 (mv 1), o 59 (mv 2), o 60 (.call (cf 52) [(T 55), (T 56), (T 57), (T 58), (T 59)])]
def k32_11 : ACode := .cond (T 54) (.region r32_39) .skip
def k32_12 : ACode := .seq (.region r32_38) k32_11
def k32_13 : ACode := .seq (.region r32_37) k32_12
def r32_44 : LO := [o 61 (mv 6), o 62 (.bin .mul (T 61) (ci 2)), o 6 (mv 62)]
def k32_14 : ACode := .seq k32_13 (.region r32_44)
def k32_15 : ACode := .seq (.block 4 (.loop k32_10)) k32_14
def k32_16 : ACode := .seq (.region r32_22) k32_15
def k32_17 : ACode := .block 3 k32_16
def k32_18 : ACode := .seq (.seq (.region r32_17) k32_5) k32_17
def k32_19 : ACode := .block 2 (.loop k32_18)
def k32_20 : ACode := .seq (.region r32_16) k32_19
def k32_21 : ACode := .seq (.block 0 (.loop k32_4)) k32_20
def k32_22 : ACode := .seq (.region r32_1) k32_21
def k32_23 : ACode := .seq (.region r32_0) k32_22
theorem fn32 : getFn Tryd.prog 32 = some (63, k32_23, []) := by kernel_rfl
def q32_0 (r : (List (GValue × GValue))) : QP := qio 0 [] (.tuple []) (cellsOf eGPair' r) []
def q32_9 (r : (List (GValue × GValue))) : QP := inBlockA 2 (q32_0 r)
def q32_10 (r : (List (GValue × GValue))) : QP := tli 0 Tryd.prog 63 k32_18 (q32_9 r)
def q32_13 (r : (List (GValue × GValue))) : QP := inBlockA 3 (q32_10 r)
def q32_15 (r : (List (GValue × GValue))) : QP := tqi 0 Tryd.prog 63 k32_14 (q32_13 r)
def q32_16 (r : (List (GValue × GValue))) : QP := inBlockA 4 (q32_15 r)
def slices_stableCmpFunc_Pair_j14 (ij17 : Int) (ij18 : Int) (ij15 : Int) (n0 : Nat) (n : Int) (cmp : GFn) (lj19 : (List (GValue × GValue))) (r : (List (GValue × GValue))) : Prop := DL Tryd.prog 63 1 0 k32_10 (q32_16 r) [(8, aI ij17), (7, aI ij18), (6, aI ij15), (0, .row 0 0 14 n0 n0), (1, aI n), (2, .clo (.func cmp.fn) cmp.fi cmp.cap)] ⟨[some (cellsOf eGPair' lj19)], [], []⟩
def slices_stableCmpFunc_Pair_j12 (ij15 : Int) (n0 : Nat) (n : Int) (cmp : GFn) (lj16 : (List (GValue × GValue))) (r : (List (GValue × GValue))) : Prop := DL Tryd.prog 63 1 0 k32_18 (q32_9 r) [(6, aI ij15), (0, .row 0 0 14 n0 n0), (1, aI n), (2, .clo (.func cmp.fn) cmp.fi cmp.cap)] ⟨[some (cellsOf eGPair' lj16)], [], []⟩
def q32_3 (r : (List (GValue × GValue))) : QP := tqi 0 Tryd.prog 63 k32_20 (q32_0 r)
def q32_4 (r : (List (GValue × GValue))) : QP := inBlockA 0 (q32_3 r)
def slices_stableCmpFunc_Pair_j8 (ij9 : Int) (ij10 : Int) (n0 : Nat) (n : Int) (cmp : GFn) (lj11 : (List (GValue × GValue))) (r : (List (GValue × GValue))) : Prop := DL Tryd.prog 63 1 0 k32_4 (q32_4 r) [(8, aI ij9), (7, aI ij10), (6, aI 20), (0, .row 0 0 14 n0 n0), (1, aI n), (2, .clo (.func cmp.fn) cmp.fi cmp.cap)] ⟨[some (cellsOf eGPair' lj11)], [], []⟩
theorem slices_stableCmpFunc_Pair_j14_step (ij17 : Int) (ij18 : Int) (ij15 : Int) (n0 : Nat) (n : Int) (cmp : GFn) (lj19 : (List (GValue × GValue))) (r : (List (GValue × GValue))) (hw : ((decide (ij17 <= n)) = true -> ∃ y19, slices_symMergeCmpFunc_Pair n0 lj19 ij18 (wI (ij18 + ij15)) ij17 cmp y19 /\ (lj19 ≠ [] /\ y19 ≠ []) /\ (slices_stableCmpFunc_Pair_j14 (wI (ij17 + (wI (2 * ij15)))) ij17 ij15 n0 n cmp y19 r)) /\ ((decide (ij17 <= n)) = false -> ((decide ((wI (ij18 + ij15)) < n)) = true -> ∃ y18, slices_symMergeCmpFunc_Pair n0 lj19 ij18 (wI (ij18 + ij15)) n cmp y18 /\ (lj19 ≠ [] /\ y18 ≠ []) /\ (slices_stableCmpFunc_Pair_j12 (wI (ij15 * 2)) n0 n cmp y18 r)) /\ ((decide ((wI (ij18 + ij15)) < n)) = false -> slices_stableCmpFunc_Pair_j12 (wI (ij15 * 2)) n0 n cmp lj19 r))) : slices_stableCmpFunc_Pair_j14 ij17 ij18 ij15 n0 n cmp lj19 r := by
 refine dl_unroll (d_seqQ (ds (va 3 [(35, aB (decide (ij17 <= n)))] (ve (dw hw (fun _ hw => ?_) (fun _ hw => ?_))))))
 ·refine d_skip (d_blockQ (ds (va 7 [(42, .clo (.func cmp.fn) cmp.fi cmp.cap), (41, aI ij17), (40, aI (wI (ij18 + ij15))), (37, aI ij18), (36, .row 0 0 14 n0 n0)] ?_)))
  obtain ⟨y19, hy, h0, hw⟩ := hw
  exact vo rfl (x_rio 0 [.row 0 0 14 n0 n0, aI ij18, aI (wI (ij18 + ij15)), aI ij17, .clo (.func cmp.fn) cmp.fi cmp.cap] rowE_GPair hy h0 pio52) rfl (ve (ds (va 2 [(7, aI ij17)] (ve (dr (va 5 [(8, aI (wI (ij17 + (wI (2 * ij15)))))] (ve (jl0 hw))))))))
 refine d_exit (d_seqQ (ds (va 4 [(9, aI (wI (ij18 + ij15)))] (ve (ds (va 3 [(54, aB (decide ((wI (ij18 + ij15)) < n)))] (ve (dw hw (fun _ hw => ?_) (fun _ hw => ?_)))))))))
 ·refine dr (va 5 [(59, .clo (.func cmp.fn) cmp.fi cmp.cap), (58, aI n), (57, aI (wI (ij18 + ij15))), (56, aI ij18), (55, .row 0 0 14 n0 n0)] ?_)
  obtain ⟨y18, hy, h0, hw⟩ := hw
  exact vo rfl (x_rio 0 [.row 0 0 14 n0 n0, aI ij18, aI (wI (ij18 + ij15)), aI n, .clo (.func cmp.fn) cmp.fi cmp.cap] rowE_GPair hy h0 pio52) rfl (ve (dr (va 3 [(6, aI (wI (ij15 * 2)))] (ve (jl0 hw)))))
 exact d_skip (dr (va 3 [(6, aI (wI (ij15 * 2)))] (ve (jl0 hw))))
theorem slices_stableCmpFunc_Pair_j12_step (ij15 : Int) (n0 : Nat) (n : Int) (cmp : GFn) (lj16 : (List (GValue × GValue))) (r : (List (GValue × GValue))) (hw : ((decide (ij15 < n)) = true -> slices_stableCmpFunc_Pair_j14 (wI (2 * ij15)) 0 ij15 n0 n cmp lj16 r) /\ ((decide (ij15 < n)) = false -> lj16 ≠ [] /\ r = lj16)) : slices_stableCmpFunc_Pair_j12 ij15 n0 n cmp lj16 r := by
 refine dl_unroll (d_seqQ (ds (va 3 [(30, aB (decide (ij15 < n)))] (ve (dw hw (fun _ hw => ?_) (fun _ hw => ?_))))))
 ·exact d_skip (d_blockQ (ds (va 4 [(8, aI (wI (2 * ij15))), (7, aI 0)] (ve (d_seqQ (d_blockQ (d_loopQ (jl0 hw))))))))
 exact d_exit (riorn rowE_GPair hw)
theorem slices_stableCmpFunc_Pair_j8_step (ij9 : Int) (ij10 : Int) (n0 : Nat) (n : Int) (cmp : GFn) (lj11 : (List (GValue × GValue))) (r : (List (GValue × GValue))) (hw : ((decide (ij9 <= n)) = true -> ∃ y20, slices_insertionSortCmpFunc_Pair n0 lj11 ij10 ij9 cmp y20 /\ (lj11 ≠ [] /\ y20 ≠ []) /\ (slices_stableCmpFunc_Pair_j8 (wI (ij9 + 20)) ij9 n0 n cmp y20 r)) /\ ((decide (ij9 <= n)) = false -> ∃ y11, slices_insertionSortCmpFunc_Pair n0 lj11 ij10 n cmp y11 /\ (lj11 ≠ [] /\ y11 ≠ []) /\ (slices_stableCmpFunc_Pair_j12 20 n0 n cmp y11 r))) : slices_stableCmpFunc_Pair_j8 ij9 ij10 n0 n cmp lj11 r := by
 refine dl_unroll (d_seqQ (ds (va 3 [(13, aB (decide (ij9 <= n)))] (ve (dw hw (fun _ hw => ?_) (fun _ hw => ?_))))))
 ·refine d_skip (d_blockQ (ds (va 4 [(17, .clo (.func cmp.fn) cmp.fi cmp.cap), (16, aI ij9), (15, aI ij10), (14, .row 0 0 14 n0 n0)] ?_)))
  obtain ⟨y20, hy, h0, hw⟩ := hw
  exact vo rfl (x_rio 0 [.row 0 0 14 n0 n0, aI ij10, aI ij9, .clo (.func cmp.fn) cmp.fi cmp.cap] rowE_GPair hy h0 pio51) rfl (ve (ds (va 2 [(7, aI ij9)] (ve (dr (va 4 [(8, aI (wI (ij9 + 20)))] (ve (jl0 hw))))))))
 refine d_exit (ds (va 4 [(26, .clo (.func cmp.fn) cmp.fi cmp.cap), (25, aI n), (24, aI ij10), (23, .row 0 0 14 n0 n0)] ?_))
 obtain ⟨y11, hy, h0, hw⟩ := hw
 exact vo rfl (x_rio 0 [.row 0 0 14 n0 n0, aI ij10, aI n, .clo (.func cmp.fn) cmp.fi cmp.cap] rowE_GPair hy h0 pio51) rfl (ve (d_blockQ (d_loopQ (jl0 hw))))
theorem slices_stableCmpFunc_Pair_step (n0 : Nat) (data : (List (GValue × GValue))) (n : Int) (cmp : GFn) (r : (List (GValue × GValue))) (hw : slices_stableCmpFunc_Pair_j8 20 0 n0 n cmp data r) : slices_stableCmpFunc_Pair n0 data n cmp r := by
 exact f_rio fn32 nle rfl (ds (va 1 [(6, aI 20)] (ve (ds (va 3 [(8, aI 20), (7, aI 0)] (ve (d_seqQ (d_blockQ (d_loopQ (jl0 hw))))))))))
theorem plr33 (r : Bool) : plain (e33 r) = true := rfl
def r33_0 : LO := [o 2 (mb false)]
def r33_1 : LO := [o 3 (mv 0), o 4 (mv 0), o 5 (.bin .neq (T 3) (T 4)), o 2 (mv 5)]
def k33_1 : ACode := .seq (.region r33_1) .ret
def k33_2 : ACode := .seq (.region r33_0) k33_1
theorem fn33 : getFn Tryd.prog 33 = some (6, k33_2, [.tmp 2]) := by kernel_rfl
theorem cmp_isNaN_int_step (x : Int) (r : Bool) (hw : r = (x != x)) : cmp_isNaN_int x r := by
 exact f_pureD fn33 nle rfl (ds (va 1 [] (ve (ds (va 4 [(2, aB (x != x))] (ve (d_ret (rx hw (plr33 _)))))))))
theorem plr34 (r : Bool) : plain (e34 r) = true := rfl
def r34_0 : LO := [o 2 (mb false)]
def r34_1 : LO := [o 3 (mv 0), o 4 (.bin .geq (T 3) (ci 1)), o 5 (mv 4), og 6 (mv 0) 5 true, og 7 (.bin .leq (T 6) (ci 9)) 5 true, o 8 (.pick (T 5) (T 7) (cb false)), o 2 (mv 8)]
def k34_1 : ACode := .seq (.region r34_1) .ret
def k34_2 : ACode := .seq (.region r34_0) k34_1
theorem fn34 : getFn Tryd.prog 34 = some (9, k34_2, [.tmp 2]) := by kernel_rfl
theorem scalar_Is_step (kind : Int) (r : Bool) (hw : r = ((decide (1 <= kind)) && (decide (kind <= 9)))) : scalar_Is kind r := by
 refine f_pureD fn34 nle rfl (ds (va 1 [] (ve (ds (va 3 [(5, aB (decide (1 <= kind)))] (vj 5 8 6 (decide (1 <= kind)) (fun z => aB (z && (decide (kind <= 9)))) km_d (fun _ key => ?_) (fun _ key => ?_) ?_))))))
 ·exact va 2 [(7, aB (decide (kind <= 9)))] (va 1 [(8, aB (decide (kind <= 9)))] (vle km_d key))
 ·exact va 2 [(7, .tuple [])] (va 1 [(8, aB false)] (vle km_d key))
 exact va 1 [(2, aB ((decide (1 <= kind)) && (decide (kind <= 9))))] (ve (d_ret (rx hw (plr34 _))))
theorem plr35 (r : Bool) : plain (e35 r) = true := rfl
def r35_0 : LO := [o 2 (mb false)]
def r35_1 : LO := [o 3 (mv 0), o 4 (.bin .eql (T 3) (ci 7)), o 5 (mv 4), og 6 (mv 0) 5 false, og 7 (.bin .eql (T 6) (ci 8)) 5 false, o 8 (.pick (T 5) (cb true) (T 7)), o 2 (mv 8)]
def k35_1 : ACode := .seq (.region r35_1) .ret
def k35_2 : ACode := .seq (.region r35_0) k35_1
theorem fn35 : getFn Tryd.prog 35 = some (9, k35_2, [.tmp 2]) := by kernel_rfl
theorem scalar_texty_step (kind : Int) (r : Bool) (hw : r = ((kind == 7) || (kind == 8))) : scalar_texty kind r := by
 refine f_pureD fn35 nle rfl (ds (va 1 [] (ve (ds (va 3 [(5, aB (kind == 7))] (vj 5 8 6 (kind == 7) (fun z => aB (z || (kind == 8))) km_d (fun _ key => ?_) (fun _ key => ?_) ?_))))))
 ·exact va 2 [(7, .tuple [])] (va 1 [(8, aB true)] (vle km_d key))
 ·exact va 2 [(7, aB (kind == 8))] (va 1 [(8, aB (kind == 8))] (vle km_d key))
 exact va 1 [(2, aB ((kind == 7) || (kind == 8)))] (ve (d_ret (rx hw (plr35 _))))
theorem plr36 (r : Int) : plain (e36 r) = true := rfl
def r36_0 : LO := [o 4 (mi 0)]
def r36_1 : LO := [o 7 (mv 0), o 8 (.call (cf 53) [(T 7)]), o 5 (mv 8)]
def r36_2 : LO := [o 9 (mv 1), o 10 (.call (cf 53) [(T 9)]), o 6 (mv 10)]
def r36_3 : LO := [o 11 (mv 5)]
def r36_4 : LO := [o 12 (mv 6)]
def r36_5 : LO := [o 4 (mi 0)]
def k36_1 : ACode := .cond (T 12) (.seq (.region r36_5) .ret) .skip
def k36_2 : ACode := .seq (.region r36_4) k36_1
def r36_11 : LO := [o 4 (mi (-1))]
def k36_3 : ACode := .seq (.region r36_11) .ret
def k36_4 : ACode := .cond (T 11) (.seq k36_2 k36_3) .skip
def k36_5 : ACode := .seq (.region r36_3) k36_4
def r36_18 : LO := [o 13 (mv 6)]
def r36_19 : LO := [o 4 (mi 1)]
def k36_6 : ACode := .cond (T 13) (.seq (.region r36_19) .ret) .skip
def k36_7 : ACode := .seq (.region r36_18) k36_6
def r36_25 : LO := [o 14 (mv 0), o 15 (mv 1), o 16 (.bin .lss (T 14) (T 15))]
def r36_26 : LO := [o 4 (mi (-1))]
def k36_8 : ACode := .cond (T 16) (.seq (.region r36_26) .ret) .skip
def k36_9 : ACode := .seq (.region r36_25) k36_8
def r36_32 : LO := [o 17 (mv 0), o 18 (mv 1), o 19 (.bin .gtr (T 17) (T 18))]
def r36_33 : LO := [o 4 (mi 1)]
def k36_10 : ACode := .cond (T 19) (.seq (.region r36_33) .ret) .skip
def k36_11 : ACode := .seq (.region r36_32) k36_10
def r36_39 : LO := [o 4 (mi 0)]
def k36_12 : ACode := .seq (.region r36_39) .ret
def k36_13 : ACode := .seq k36_11 k36_12
def k36_14 : ACode := .seq k36_9 k36_13
def k36_15 : ACode := .seq k36_7 k36_14
def k36_16 : ACode := .seq k36_5 k36_15
def k36_17 : ACode := .seq (.region r36_2) k36_16
def k36_18 : ACode := .seq (.region r36_1) k36_17
def k36_19 : ACode := .seq (.region r36_0) k36_18
theorem fn36 : getFn Tryd.prog 36 = some (20, k36_19, [.tmp 4]) := by kernel_rfl
theorem cmp_Compare_string_step (x : ByteArray) (y : ByteArray) (r : Int) (hw : ∃ y1, cmp_isNaN_string x y1 /\ (∃ y2, cmp_isNaN_string y y2 /\ ((y1 = true -> (y2 = true -> r = 0) /\ (y2 = false -> r = (-1))) /\ (y1 = false -> (y2 = true -> r = 1) /\ (y2 = false -> ((Op.bytesLess x.toList y.toList) = true -> r = (-1)) /\ ((Op.bytesLess x.toList y.toList) = false -> ((!(Op.bytesLess x.toList y.toList || x.toList == y.toList)) = true -> r = 1) /\ ((!(Op.bytesLess x.toList y.toList || x.toList == y.toList)) = false -> r = 0))))))) : cmp_Compare_string x y r := by
 refine f_pureD fn36 nle rfl (ds (va 1 [] (ve (ds (va 1 [(7, aS x)] ?_)))))
 obtain ⟨y1, hy, hw⟩ := hw
 refine vo rfl (x_call hy pl53) rfl (va 1 [(5, aB y1)] (ve (ds (va 1 [(9, aS y)] ?_))))
 obtain ⟨y2, hy, hw⟩ := hw
 refine vo rfl (x_call hy pl53) rfl (va 1 [(6, aB y2)] (ve (d_seqQ (ds (va 1 [(11, aB y1)] (ve (dw hw (fun _ hw => ?_) (fun _ hw => ?_))))))))
 ·refine d_seqQ (ds (va 1 [(12, aB y2)] (ve (dw hw (fun _ hw => ?_) (fun _ hw => ?_)))))
  ·exact ds (va 1 [(4, aI 0)] (ve (d_ret (rx hw (plr36 _)))))
  exact d_skip (ds (va 1 [(4, aI (-1))] (ve (d_ret (rx hw (plr36 _))))))
 refine d_skip (d_seqQ (ds (va 1 [(13, aB y2)] (ve (dw hw (fun _ hw => ?_) (fun _ hw => ?_))))))
 ·exact ds (va 1 [(4, aI 1)] (ve (d_ret (rx hw (plr36 _)))))
 refine d_skip (d_seqQ (ds (va 2 [(15, aS y), (14, aS x)] (vo rfl (x_bin (c := True) (.bool (Op.bytesLess x.toList y.toList)) trivial) rfl (ve (dw hw (fun _ hw => ?_) (fun _ hw => ?_)))))))
 ·exact ds (va 1 [(4, aI (-1))] (ve (d_ret (rx hw (plr36 _)))))
 refine d_skip (d_seqQ (ds (va 2 [(18, aS y), (17, aS x)] (vo rfl (x_bin (c := True) (.bool (!(Op.bytesLess x.toList y.toList || x.toList == y.toList))) trivial) rfl (ve (dw hw (fun _ hw => ?_) (fun _ hw => ?_)))))))
 ·exact ds (va 1 [(4, aI 1)] (ve (d_ret (rx hw (plr36 _)))))
 exact d_skip (ds (va 1 [(4, aI 0)] (ve (d_ret (rx hw (plr36 _))))))
theorem plr37 (r : Int) : plain (e37 r) = true := rfl
def r37_0 : LO := [o 4 (mi 0)]
def r37_1 : LO := [o 7 (mv 0), o 8 (.call (cf 54) [(T 7)]), o 5 (mv 8)]
def r37_2 : LO := [o 9 (mv 1), o 10 (.call (cf 54) [(T 9)]), o 6 (mv 10)]
def r37_3 : LO := [o 11 (mv 5)]
def r37_4 : LO := [o 12 (mv 6)]
def r37_5 : LO := [o 4 (mi 0)]
def k37_1 : ACode := .cond (T 12) (.seq (.region r37_5) .ret) .skip
def k37_2 : ACode := .seq (.region r37_4) k37_1
def r37_11 : LO := [o 4 (mi (-1))]
def k37_3 : ACode := .seq (.region r37_11) .ret
def k37_4 : ACode := .cond (T 11) (.seq k37_2 k37_3) .skip
def k37_5 : ACode := .seq (.region r37_3) k37_4
def r37_18 : LO := [o 13 (mv 6)]
def r37_19 : LO := [o 4 (mi 1)]
def k37_6 : ACode := .cond (T 13) (.seq (.region r37_19) .ret) .skip
def k37_7 : ACode := .seq (.region r37_18) k37_6
def r37_25 : LO := [o 14 (mv 0), o 15 (mv 1), o 16 (.bin .lss (T 14) (T 15))]
def r37_26 : LO := [o 4 (mi (-1))]
def k37_8 : ACode := .cond (T 16) (.seq (.region r37_26) .ret) .skip
def k37_9 : ACode := .seq (.region r37_25) k37_8
def r37_32 : LO := [o 17 (mv 0), o 18 (mv 1), o 19 (.bin .gtr (T 17) (T 18))]
def r37_33 : LO := [o 4 (mi 1)]
def k37_10 : ACode := .cond (T 19) (.seq (.region r37_33) .ret) .skip
def k37_11 : ACode := .seq (.region r37_32) k37_10
def r37_39 : LO := [o 4 (mi 0)]
def k37_12 : ACode := .seq (.region r37_39) .ret
def k37_13 : ACode := .seq k37_11 k37_12
def k37_14 : ACode := .seq k37_9 k37_13
def k37_15 : ACode := .seq k37_7 k37_14
def k37_16 : ACode := .seq k37_5 k37_15
def k37_17 : ACode := .seq (.region r37_2) k37_16
def k37_18 : ACode := .seq (.region r37_1) k37_17
def k37_19 : ACode := .seq (.region r37_0) k37_18
theorem fn37 : getFn Tryd.prog 37 = some (20, k37_19, [.tmp 4]) := by kernel_rfl
theorem cmp_Compare_uint64_step (x : Int) (y : Int) (r : Int) (hw : ∃ y1, cmp_isNaN_uint64 x y1 /\ (∃ y2, cmp_isNaN_uint64 y y2 /\ ((y1 = true -> (y2 = true -> r = 0) /\ (y2 = false -> r = (-1))) /\ (y1 = false -> (y2 = true -> r = 1) /\ (y2 = false -> ((decide (x < y)) = true -> r = (-1)) /\ ((decide (x < y)) = false -> ((decide (y < x)) = true -> r = 1) /\ ((decide (y < x)) = false -> r = 0))))))) : cmp_Compare_uint64 x y r := by
 refine f_pureD fn37 nle rfl (ds (va 1 [] (ve (ds (va 1 [(7, aU x)] ?_)))))
 obtain ⟨y1, hy, hw⟩ := hw
 refine vo rfl (x_call hy pl54) rfl (va 1 [(5, aB y1)] (ve (ds (va 1 [(9, aU y)] ?_))))
 obtain ⟨y2, hy, hw⟩ := hw
 refine vo rfl (x_call hy pl54) rfl (va 1 [(6, aB y2)] (ve (d_seqQ (ds (va 1 [(11, aB y1)] (ve (dw hw (fun _ hw => ?_) (fun _ hw => ?_))))))))
 ·refine d_seqQ (ds (va 1 [(12, aB y2)] (ve (dw hw (fun _ hw => ?_) (fun _ hw => ?_)))))
  ·exact ds (va 1 [(4, aI 0)] (ve (d_ret (rx hw (plr37 _)))))
  exact d_skip (ds (va 1 [(4, aI (-1))] (ve (d_ret (rx hw (plr37 _))))))
 refine d_skip (d_seqQ (ds (va 1 [(13, aB y2)] (ve (dw hw (fun _ hw => ?_) (fun _ hw => ?_))))))
 ·exact ds (va 1 [(4, aI 1)] (ve (d_ret (rx hw (plr37 _)))))
 refine d_skip (d_seqQ (ds (va 3 [(16, aB (decide (x < y)))] (ve (dw hw (fun _ hw => ?_) (fun _ hw => ?_))))))
 ·exact ds (va 1 [(4, aI (-1))] (ve (d_ret (rx hw (plr37 _)))))
 refine d_skip (d_seqQ (ds (va 3 [(19, aB (decide (y < x)))] (ve (dw hw (fun _ hw => ?_) (fun _ hw => ?_))))))
 ·exact ds (va 1 [(4, aI 1)] (ve (d_ret (rx hw (plr37 _)))))
 exact d_skip (ds (va 1 [(4, aI 0)] (ve (d_ret (rx hw (plr37 _))))))
theorem plr38 (r : Int) : plain (e38 r) = true := rfl
def r38_0 : LO := [o 2 (.mv (.c (aU 0)))]
def r38_1 : LO := [o 4 (mv 0), o 5 (.call (cf 55) [(T 4)]), o 6 (.bin .eql (T 5) (ci 0)), o 3 (mv 6)]
def r38_2 : LO := [o 2 (.mv (.c (aU 18446744073709551615)))]
def r38_5 : LO := [o 8 (mv 0), o 9 (.bin .and (T 8) (.c (aU 9223372036854775808))), o 10 (.bin .neq (T 9) (.c (aU 0))), o 7 (mv 10)]
def r38_6 : LO := [o 11 (mv 0), o 12 (.un .xor (T 11)), o 2 (mv 12)]
def k38_1 : ACode := .cond (T 7) (.seq (.region r38_6) .ret) .skip
def k38_2 : ACode := .seq (.region r38_5) k38_1
def k38_3 : ACode := .cond (T 3) (.seq (.region r38_2) .ret) k38_2
def k38_4 : ACode := .seq (.region r38_1) k38_3
def r38_15 : LO := [o 13 (mv 0), o 14 (.bin .or (T 13) (.c (aU 9223372036854775808))), o 2 (mv 14)]
def k38_5 : ACode := .seq (.region r38_15) .ret
def k38_6 : ACode := .seq (.block 0 k38_4) k38_5
def k38_7 : ACode := .seq (.region r38_0) k38_6
theorem fn38 : getFn Tryd.prog 38 = some (15, k38_7, [.tmp 2]) := by kernel_rfl
theorem scalar_place_step (bits : Int) (r : Int) (hw : ∃ y1, scalar_Class bits y1 /\ (((y1 == 0) = true -> r = 18446744073709551615) /\ ((y1 == 0) = false -> (((bitsOf .and .u64 bits 9223372036854775808) != 0) = true -> r = (bitsOf .xor .u64 (IntKind.u64.max) bits)) /\ (((bitsOf .and .u64 bits 9223372036854775808) != 0) = false -> r = (bitsOf .or .u64 bits 9223372036854775808))))) : scalar_place bits r := by
 refine f_pureD fn38 nle rfl (ds (va 1 [] (ve (d_seqQ (d_blockQ (ds (va 1 [(4, aU bits)] ?_)))))))
 obtain ⟨y1, hy, hw⟩ := hw
 refine vo rfl (x_call hy pl55) rfl (va 2 [(3, aB (y1 == 0))] (ve (dw hw (fun _ hw => ?_) (fun _ hw => ?_))))
 ·exact ds (va 1 [(2, aU 18446744073709551615)] (ve (d_ret (rx hw (plr38 _)))))
 refine ds (va 4 [(7, aB ((bitsOf .and .u64 bits 9223372036854775808) != 0))] (ve (dw hw (fun _ hw => ?_) (fun _ hw => ?_))))
 ·exact ds (va 3 [(2, aU (bitsOf .xor .u64 (IntKind.u64.max) bits))] (ve (d_ret (rx hw (plr38 _)))))
 exact d_skip (ds (va 3 [(2, aU (bitsOf .or .u64 bits 9223372036854775808))] (ve (d_ret (rx hw (plr38 _))))))
theorem plr39 (r : Int) : plain (e39 r) = true := rfl
def r39_0 : LO := [o 4 (mi 0)]
def r39_1 : LO := [o 5 (mv 0), o 6 (mv 1), o 7 (.bin .lss (T 5) (T 6))]
def r39_2 : LO := [o 4 (mi (-1))]
def k39_1 : ACode := .cond (T 7) (.seq (.region r39_2) .ret) .skip
def k39_2 : ACode := .seq (.region r39_1) k39_1
def r39_8 : LO := [o 8 (mv 0), o 9 (mv 1), o 10 (.bin .gtr (T 8) (T 9))]
def r39_9 : LO := [o 4 (mi 1)]
def k39_3 : ACode := .cond (T 10) (.seq (.region r39_9) .ret) .skip
def k39_4 : ACode := .seq (.region r39_8) k39_3
def r39_15 : LO := [o 4 (mi 0)]
def k39_5 : ACode := .seq (.region r39_15) .ret
def k39_6 : ACode := .seq k39_4 k39_5
def k39_7 : ACode := .seq k39_2 k39_6
def k39_8 : ACode := .seq (.region r39_0) k39_7
theorem fn39 : getFn Tryd.prog 39 = some (11, k39_8, [.tmp 4]) := by kernel_rfl
theorem ref16_number_step (a : Int) (b : Int) (r : Int) (hw : ((decide (a < b)) = true -> r = (-1)) /\ ((decide (a < b)) = false -> ((decide (b < a)) = true -> r = 1) /\ ((decide (b < a)) = false -> r = 0))) : ref16_number a b r := by
 refine f_pureD fn39 nle rfl (ds (va 1 [] (ve (d_seqQ (ds (va 3 [(7, aB (decide (a < b)))] (ve (dw hw (fun _ hw => ?_) (fun _ hw => ?_)))))))))
 ·exact ds (va 1 [(4, aI (-1))] (ve (d_ret (rx hw (plr39 _)))))
 refine d_skip (d_seqQ (ds (va 3 [(10, aB (decide (b < a)))] (ve (dw hw (fun _ hw => ?_) (fun _ hw => ?_))))))
 ·exact ds (va 1 [(4, aI 1)] (ve (d_ret (rx hw (plr39 _)))))
 exact d_skip (ds (va 1 [(4, aI 0)] (ve (d_ret (rx hw (plr39 _))))))
theorem plr40 (r : Int) : plain (e40 r) = true := rfl
def r40_0 : LO := [o 4 (mi 0)]
def r40_1 : LO := [o 5 (mi 0)]
def r40_2 : LO := [o 7 (mv 5), o 8 (mv 0), o 9 (.len false (T 8)), o 10 (.bin .lss (T 7) (T 9)), o 11 (mv 10), og 12 (mv 5) 11 true, og 13 (mv 1) 11 true, og 14 (.len false (T 13)) 11 true, og 15 (.bin .lss (T 12) (T 14)) 11 true, o 16 (.pick (T 11) (T 15) (cb false))]
def k40_1 : ACode := .cond (T 16) .skip (.exit 0)
def r40_7 : LO := [o 19 (mv 0), o 20 (mv 5), o 21 (.idxSl 7 (T 19) (T 20)), o 22 (ln 7 21), o 23 (mv 1), o 24 (mv 5), o 25 (.idxSl 7 (T 23) (T 24)), o 26 (ln 7 25), o 27 (.call (cf 27) [(T 22), (T 26)])]
def r40_7t : LO := [o 6 (mv 27)]
def r40_7o : LN := [[], [], [0, 1], [2], [], [], [4, 5], [6], [3, 7]]
def r40_8 : LO := [o 28 (mv 6), o 29 (.bin .neq (T 28) (ci 0))]
def r40_9 : LO := [o 30 (mv 6), o 4 (mv 30)]
def k40_2 : ACode := .cond (T 29) (.seq (.region r40_9) .ret) .skip
def k40_3 : ACode := .seq (.region r40_8) k40_2
def r40_17 : LO := [o 17 (mv 5), o 18 (.bin .add (T 17) (ci 1)), o 5 (mv 18)]
def k40_4 : ACode := .seq (.block 1 (.seq (.drawn r40_7o r40_7 r40_7t) k40_3)) (.region r40_17)
def k40_5 : ACode := .seq (.seq (.region r40_2) k40_1) k40_4
def k40_6 : ACode := .block 0 (.loop k40_5)
def r40_23 : LO := [o 31 (mv 0), o 32 (.len false (T 31)), o 33 (mv 1), o 34 (.len false (T 33)), o 35 (.call (cf 39) [(T 32), (T 34)]), o 4 (mv 35)]
def k40_7 : ACode := .seq (.region r40_23) .ret
def k40_8 : ACode := .seq (.seq (.region r40_1) k40_6) k40_7
def k40_9 : ACode := .seq (.region r40_0) k40_8
theorem fn40 : getFn Tryd.prog 40 = some (36, k40_9, [.tmp 4]) := by kernel_rfl
def q40_0 (r : Int) : QP := qret [.tmp 4] (e40 r)
def q40_2 (r : Int) : QP := tq Tryd.prog 36 k40_7 (q40_0 r)
def q40_4 (r : Int) : QP := inBlockA 0 (q40_2 r)
def ref16_lists_j2 (ij1 : Int) (a : (List GValue)) (b : (List GValue)) (r : Int) : Prop := DL Tryd.prog 36 0 0 k40_5 (q40_4 r) [(5, aI ij1), (0, .sl (List.map eGValue' a) .no), (1, .sl (List.map eGValue' b) .no)] ⟨[], [], []⟩
theorem ref16_lists_j2_step (ij1 : Int) (a : (List GValue)) (b : (List GValue)) (r : Int) (hw : (((decide (ij1 < (a.length : Int))) && (decide (ij1 < (b.length : Int)))) = true -> ∃ y6, a[ij1.toNat]? = some y6 /\ 0 <= ij1 /\ (∃ y7, b[ij1.toNat]? = some y7 /\ 0 <= ij1 /\ (∃ y8, ref16_Cmp y6 y7 y8 /\ (((y8 != 0) = true -> r = y8) /\ ((y8 != 0) = false -> ref16_lists_j2 (wI (ij1 + 1)) a b r))))) /\ (((decide (ij1 < (a.length : Int))) && (decide (ij1 < (b.length : Int)))) = false -> ∃ y5, ref16_number (a.length : Int) (b.length : Int) y5 /\ (r = y5))) : ref16_lists_j2 ij1 a b r := by
 refine dl_unroll (d_seqQ (ds (va 2 [(8, .sl (List.map eGValue' a) .no), (7, aI ij1)] (vo rfl (x_len a eGValue') rfl (va 2 [(11, aB (decide (ij1 < (a.length : Int))))] (vj 11 16 10 (decide (ij1 < (a.length : Int))) (fun z => aB (z && (decide (ij1 < (b.length : Int))))) km_d (fun _ key => ?_) (fun _ key => ?_) ?_))))))
 ·exact va 2 [(13, .sl (List.map eGValue' b) .no), (12, aI ij1)] (vo rfl (x_len b eGValue') rfl (va 1 [(15, aB (decide (ij1 < (b.length : Int))))] (va 1 [(16, aB (decide (ij1 < (b.length : Int))))] (vle km_d key))))
 ·exact va 4 [(15, .tuple [])] (va 1 [(16, aB false)] (vle km_d key))
 refine ve (dw hw (fun _ hw => ?_) (fun _ hw => ?_))
 ·refine d_skip (d_seqQ (d_blockQ (d_seqQ (dS [] (sa 0 2 [(20, aI ij1), (19, .sl (List.map eGValue' a) .no)] ?_)))))
  obtain ⟨y6, hy, h0, hw⟩ := hw
  refine sq rfl (fun _ _ => x_idx h0 hy (eGValue'_eq _)) rfl (sa 0 3 [(24, aI ij1), (23, .sl (List.map eGValue' b) .no), (22, .agg (eGValue y6))] ?_)
  obtain ⟨y7, hy, h0, hw⟩ := hw
  refine sq rfl (fun _ _ => x_idx h0 hy (eGValue'_eq _)) rfl (sa 0 1 [(26, .agg (eGValue y7))] ?_)
  obtain ⟨y8, hy, hw⟩ := hw
  refine sq rfl (y_call hy pl27) rfl (send (vp_start' (va 1 [(6, aI y8)] (ve (ds (va 2 [(29, aB (y8 != 0))] (ve (dw hw (fun _ hw => ?_) (fun _ hw => ?_)))))))))
  ·exact ds (va 2 [(4, aI y8)] (ve (d_ret (rx hw (plr40 _)))))
  exact d_skip (dr (va 3 [(5, aI (wI (ij1 + 1)))] (ve (jl0 hw))))
 refine d_exit (ds (va 1 [(31, .sl (List.map eGValue' a) .no)] (vo rfl (x_len a eGValue') rfl (va 1 [(33, .sl (List.map eGValue' b) .no)] (vo rfl (x_len b eGValue') rfl ?_)))))
 obtain ⟨y5, hy, hw⟩ := hw
 exact vo rfl (x_call hy pl39) rfl (va 1 [(4, aI y5)] (ve (d_ret (rx hw (plr40 _)))))
theorem ref16_lists_step (a : (List GValue)) (b : (List GValue)) (r : Int) (hw : ref16_lists_j2 0 a b r) : ref16_lists a b r := by
 exact f_pureD fn40 nle rfl (ds (va 1 [] (ve (d_seqQ (ds (va 1 [(5, aI 0)] (ve (d_blockQ (d_loopQ (jl0 hw))))))))))
theorem plr41 (r : Int) : plain (e41 r) = true := rfl
def r41_0 : LO := [o 4 (mi 0)]
def r41_1 : LO := [o 5 (mi 0)]
def r41_2 : LO := [o 8 (mv 5), o 9 (mv 0), o 10 (.len false (T 9)), o 11 (.bin .lss (T 8) (T 10)), o 12 (mv 11), og 13 (mv 5) 12 true, og 14 (mv 1) 12 true, og 15 (.len false (T 14)) 12 true, og 16 (.bin .lss (T 13) (T 15)) 12 true, o 17 (.pick (T 12) (T 16) (cb false))]
def k41_1 : ACode := .cond (T 17) .skip (.exit 0)
def r41_7 : LO := [o 20 (mv 0), o 21 (mv 5), o 22 (.idxSl 14 (T 20) (T 21)), o 23 (fa 0 22), o 24 (ln 7 23), o 25 (mv 1), o 26 (mv 5), o 27 (.idxSl 14 (T 25) (T 26)), o 28 (fa 0 27), o 29 (ln 7 28), o 30 (.call (cf 27) [(T 24), (T 29)])]
def r41_7t : LO := [o 6 (mv 30)]
def r41_7o : LN := [[], [], [0, 1], [2], [3], [], [], [5, 6], [7], [8], [4, 9]]
def r41_8 : LO := [o 31 (mv 6), o 32 (.bin .neq (T 31) (ci 0))]
def r41_9 : LO := [o 33 (mv 6), o 4 (mv 33)]
def k41_2 : ACode := .cond (T 32) (.seq (.region r41_9) .ret) .skip
def k41_3 : ACode := .seq (.region r41_8) k41_2
def r41_16 : LO := [o 34 (mv 0), o 35 (mv 5), o 36 (.idxSl 14 (T 34) (T 35)), o 37 (fa 7 36), o 38 (ln 7 37), o 39 (mv 1), o 40 (mv 5), o 41 (.idxSl 14 (T 39) (T 40)), o 42 (fa 7 41), o 43 (ln 7 42), o 44 (.call (cf 27) [(T 38), (T 43)])]
def r41_16t : LO := [o 7 (mv 44)]
def r41_16o : LN := [[], [], [0, 1], [2], [3], [], [], [5, 6], [7], [8], [4, 9]]
def r41_17 : LO := [o 45 (mv 7), o 46 (.bin .neq (T 45) (ci 0))]
def r41_18 : LO := [o 47 (mv 7), o 4 (mv 47)]
def k41_4 : ACode := .cond (T 46) (.seq (.region r41_18) .ret) .skip
def k41_5 : ACode := .seq (.region r41_17) k41_4
def k41_6 : ACode := .seq (.drawn r41_16o r41_16 r41_16t) k41_5
def k41_7 : ACode := .seq (.seq (.drawn r41_7o r41_7 r41_7t) k41_3) k41_6
def r41_27 : LO := [o 18 (mv 5), o 19 (.bin .add (T 18) (ci 1)), o 5 (mv 19)]
def k41_8 : ACode := .seq (.block 1 k41_7) (.region r41_27)
def k41_9 : ACode := .seq (.seq (.region r41_2) k41_1) k41_8
def k41_10 : ACode := .block 0 (.loop k41_9)
def r41_33 : LO := [o 48 (mv 0), o 49 (.len false (T 48)), o 50 (mv 1), o 51 (.len false (T 50)), o 52 (.call (cf 39) [(T 49), (T 51)]), o 4 (mv 52)]
def k41_11 : ACode := .seq (.region r41_33) .ret
def k41_12 : ACode := .seq (.seq (.region r41_1) k41_10) k41_11
def k41_13 : ACode := .seq (.region r41_0) k41_12
theorem fn41 : getFn Tryd.prog 41 = some (53, k41_13, [.tmp 4]) := by kernel_rfl
def q41_0 (r : Int) : QP := qret [.tmp 4] (e41 r)
def q41_2 (r : Int) : QP := tq Tryd.prog 53 k41_11 (q41_0 r)
def q41_4 (r : Int) : QP := inBlockA 0 (q41_2 r)
def ref16_pairs_j2 (ij1 : Int) (a : (List (GValue × GValue))) (b : (List (GValue × GValue))) (r : Int) : Prop := DL Tryd.prog 53 0 0 k41_9 (q41_4 r) [(5, aI ij1), (0, .sl (List.map eGPair' a) .no), (1, .sl (List.map eGPair' b) .no)] ⟨[], [], []⟩
theorem ref16_pairs_j2_step (ij1 : Int) (a : (List (GValue × GValue))) (b : (List (GValue × GValue))) (r : Int) (hw : (((decide (ij1 < (a.length : Int))) && (decide (ij1 < (b.length : Int)))) = true -> ∃ y9, a[ij1.toNat]? = some y9 /\ 0 <= ij1 /\ (∃ y10, b[ij1.toNat]? = some y10 /\ 0 <= ij1 /\ (∃ y11, ref16_Cmp y9.1 y10.1 y11 /\ (((y11 != 0) = true -> r = y11) /\ ((y11 != 0) = false -> ∃ y12, a[ij1.toNat]? = some y12 /\ 0 <= ij1 /\ (∃ y13, b[ij1.toNat]? = some y13 /\ 0 <= ij1 /\ (∃ y14, ref16_Cmp y12.2 y13.2 y14 /\ (((y14 != 0) = true -> r = y14) /\ ((y14 != 0) = false -> ref16_pairs_j2 (wI (ij1 + 1)) a b r))))))))) /\ (((decide (ij1 < (a.length : Int))) && (decide (ij1 < (b.length : Int)))) = false -> ∃ y8, ref16_number (a.length : Int) (b.length : Int) y8 /\ (r = y8))) : ref16_pairs_j2 ij1 a b r := by
 refine dl_unroll (d_seqQ (ds (va 2 [(9, .sl (List.map eGPair' a) .no), (8, aI ij1)] (vo rfl (x_len a eGPair') rfl (va 2 [(12, aB (decide (ij1 < (a.length : Int))))] (vj 12 17 10 (decide (ij1 < (a.length : Int))) (fun z => aB (z && (decide (ij1 < (b.length : Int))))) km_d (fun _ key => ?_) (fun _ key => ?_) ?_))))))
 ·exact va 2 [(14, .sl (List.map eGPair' b) .no), (13, aI ij1)] (vo rfl (x_len b eGPair') rfl (va 1 [(16, aB (decide (ij1 < (b.length : Int))))] (va 1 [(17, aB (decide (ij1 < (b.length : Int))))] (vle km_d key))))
 ·exact va 4 [(16, .tuple [])] (va 1 [(17, aB false)] (vle km_d key))
 refine ve (dw hw (fun _ hw => ?_) (fun _ hw => ?_))
 ·refine d_skip (d_seqQ (d_blockQ (d_seqQ (d_seqQ (dS [] (sa 0 2 [(21, aI ij1), (20, .sl (List.map eGPair' a) .no)] ?_))))))
  obtain ⟨y9, hy, h0, hw⟩ := hw
  refine sq rfl (fun _ _ => x_idx h0 hy (eGPair'_eq _)) rfl (sa 0 4 [(26, aI ij1), (25, .sl (List.map eGPair' b) .no), (24, .agg (eGValue y9.1))] ?_)
  obtain ⟨y10, hy, h0, hw⟩ := hw
  refine sq rfl (fun _ _ => x_idx h0 hy (eGPair'_eq _)) rfl (sa 0 2 [(29, .agg (eGValue y10.1))] ?_)
  obtain ⟨y11, hy, hw⟩ := hw
  refine sq rfl (y_call hy pl27) rfl (send (vp_start' (va 1 [(6, aI y11)] (ve (ds (va 2 [(32, aB (y11 != 0))] (ve (dw hw (fun _ hw => ?_) (fun _ hw => ?_)))))))))
  ·exact ds (va 2 [(4, aI y11)] (ve (d_ret (rx hw (plr41 _)))))
  refine d_skip (d_seqQ (dS [] (sa 0 2 [(35, aI ij1), (34, .sl (List.map eGPair' a) .no)] ?_)))
  obtain ⟨y12, hy, h0, hw⟩ := hw
  refine sq rfl (fun _ _ => x_idx h0 hy (eGPair'_eq _)) rfl (sa 0 4 [(40, aI ij1), (39, .sl (List.map eGPair' b) .no), (38, .agg (eGValue y12.2))] ?_)
  obtain ⟨y13, hy, h0, hw⟩ := hw
  refine sq rfl (fun _ _ => x_idx h0 hy (eGPair'_eq _)) rfl (sa 0 2 [(43, .agg (eGValue y13.2))] ?_)
  obtain ⟨y14, hy, hw⟩ := hw
  refine sq rfl (y_call hy pl27) rfl (send (vp_start' (va 1 [(7, aI y14)] (ve (ds (va 2 [(46, aB (y14 != 0))] (ve (dw hw (fun _ hw => ?_) (fun _ hw => ?_)))))))))
  ·exact ds (va 2 [(4, aI y14)] (ve (d_ret (rx hw (plr41 _)))))
  exact d_skip (dr (va 3 [(5, aI (wI (ij1 + 1)))] (ve (jl0 hw))))
 refine d_exit (ds (va 1 [(48, .sl (List.map eGPair' a) .no)] (vo rfl (x_len a eGPair') rfl (va 1 [(50, .sl (List.map eGPair' b) .no)] (vo rfl (x_len b eGPair') rfl ?_)))))
 obtain ⟨y8, hy, hw⟩ := hw
 exact vo rfl (x_call hy pl39) rfl (va 1 [(4, aI y8)] (ve (d_ret (rx hw (plr41 _)))))
theorem ref16_pairs_step (a : (List (GValue × GValue))) (b : (List (GValue × GValue))) (r : Int) (hw : ref16_pairs_j2 0 a b r) : ref16_pairs a b r := by
 exact f_pureD fn41 nle rfl (ds (va 1 [] (ve (d_seqQ (ds (va 1 [(5, aI 0)] (ve (d_blockQ (d_loopQ (jl0 hw))))))))))
theorem plr42 (r : Int) : plain (e42 r) = true := rfl
def r42_0 : LO := [o 4 (mi 0)]
def r42_1 : LO := [o 5 (mi 0)]
def r42_2 : LO := [o 8 (mv 5), o 9 (mv 0), o 10 (.len false (T 9)), o 11 (.bin .lss (T 8) (T 10)), o 12 (mv 11), og 13 (mv 5) 12 true, og 14 (mv 1) 12 true, og 15 (.len false (T 14)) 12 true, og 16 (.bin .lss (T 13) (T 15)) 12 true, o 17 (.pick (T 12) (T 16) (cb false))]
def k42_1 : ACode := .cond (T 17) .skip (.exit 0)
def r42_7 : LO := [o 20 (mv 0), o 21 (mv 5), o 22 (.idxSl 8 (T 20) (T 21)), o 23 (fa 0 22), o 24 (ld 23), o 25 (mv 1), o 26 (mv 5), o 27 (.idxSl 8 (T 25) (T 26)), o 28 (fa 0 27), o 29 (ld 28), o 30 (.call (cf 39) [(T 24), (T 29)])]
def r42_7t : LO := [o 6 (mv 30)]
def r42_7o : LN := [[], [], [0, 1], [2], [3], [], [], [5, 6], [7], [8], [4, 9]]
def r42_8 : LO := [o 31 (mv 6), o 32 (.bin .neq (T 31) (ci 0))]
def r42_9 : LO := [o 33 (mv 6), o 4 (mv 33)]
def k42_2 : ACode := .cond (T 32) (.seq (.region r42_9) .ret) .skip
def k42_3 : ACode := .seq (.region r42_8) k42_2
def r42_16 : LO := [o 34 (mv 0), o 35 (mv 5), o 36 (.idxSl 8 (T 34) (T 35)), o 37 (fa 1 36), o 38 (ln 7 37), o 39 (mv 1), o 40 (mv 5), o 41 (.idxSl 8 (T 39) (T 40)), o 42 (fa 1 41), o 43 (ln 7 42), o 44 (.call (cf 27) [(T 38), (T 43)])]
def r42_16t : LO := [o 7 (mv 44)]
def r42_16o : LN := [[], [], [0, 1], [2], [3], [], [], [5, 6], [7], [8], [4, 9]]
def r42_17 : LO := [o 45 (mv 7), o 46 (.bin .neq (T 45) (ci 0))]
def r42_18 : LO := [o 47 (mv 7), o 4 (mv 47)]
def k42_4 : ACode := .cond (T 46) (.seq (.region r42_18) .ret) .skip
def k42_5 : ACode := .seq (.region r42_17) k42_4
def k42_6 : ACode := .seq (.drawn r42_16o r42_16 r42_16t) k42_5
def k42_7 : ACode := .seq (.seq (.drawn r42_7o r42_7 r42_7t) k42_3) k42_6
def r42_27 : LO := [o 18 (mv 5), o 19 (.bin .add (T 18) (ci 1)), o 5 (mv 19)]
def k42_8 : ACode := .seq (.block 1 k42_7) (.region r42_27)
def k42_9 : ACode := .seq (.seq (.region r42_2) k42_1) k42_8
def k42_10 : ACode := .block 0 (.loop k42_9)
def r42_33 : LO := [o 48 (mv 0), o 49 (.len false (T 48)), o 50 (mv 1), o 51 (.len false (T 50)), o 52 (.call (cf 39) [(T 49), (T 51)]), o 4 (mv 52)]
def k42_11 : ACode := .seq (.region r42_33) .ret
def k42_12 : ACode := .seq (.seq (.region r42_1) k42_10) k42_11
def k42_13 : ACode := .seq (.region r42_0) k42_12
theorem fn42 : getFn Tryd.prog 42 = some (53, k42_13, [.tmp 4]) := by kernel_rfl
def q42_0 (r : Int) : QP := qret [.tmp 4] (e42 r)
def q42_2 (r : Int) : QP := tq Tryd.prog 53 k42_11 (q42_0 r)
def q42_4 (r : Int) : QP := inBlockA 0 (q42_2 r)
def ref16_slots_j2 (ij1 : Int) (a : (List (Int × GValue))) (b : (List (Int × GValue))) (r : Int) : Prop := DL Tryd.prog 53 0 0 k42_9 (q42_4 r) [(5, aI ij1), (0, .sl (List.map eGSlot' a) .no), (1, .sl (List.map eGSlot' b) .no)] ⟨[], [], []⟩
theorem ref16_slots_j2_step (ij1 : Int) (a : (List (Int × GValue))) (b : (List (Int × GValue))) (r : Int) (hw : (((decide (ij1 < (a.length : Int))) && (decide (ij1 < (b.length : Int)))) = true -> ∃ y9, a[ij1.toNat]? = some y9 /\ 0 <= ij1 /\ (∃ y10, b[ij1.toNat]? = some y10 /\ 0 <= ij1 /\ (∃ y11, ref16_number y9.1 y10.1 y11 /\ (((y11 != 0) = true -> r = y11) /\ ((y11 != 0) = false -> ∃ y12, a[ij1.toNat]? = some y12 /\ 0 <= ij1 /\ (∃ y13, b[ij1.toNat]? = some y13 /\ 0 <= ij1 /\ (∃ y14, ref16_Cmp y12.2 y13.2 y14 /\ (((y14 != 0) = true -> r = y14) /\ ((y14 != 0) = false -> ref16_slots_j2 (wI (ij1 + 1)) a b r))))))))) /\ (((decide (ij1 < (a.length : Int))) && (decide (ij1 < (b.length : Int)))) = false -> ∃ y8, ref16_number (a.length : Int) (b.length : Int) y8 /\ (r = y8))) : ref16_slots_j2 ij1 a b r := by
 refine dl_unroll (d_seqQ (ds (va 2 [(9, .sl (List.map eGSlot' a) .no), (8, aI ij1)] (vo rfl (x_len a eGSlot') rfl (va 2 [(12, aB (decide (ij1 < (a.length : Int))))] (vj 12 17 10 (decide (ij1 < (a.length : Int))) (fun z => aB (z && (decide (ij1 < (b.length : Int))))) km_d (fun _ key => ?_) (fun _ key => ?_) ?_))))))
 ·exact va 2 [(14, .sl (List.map eGSlot' b) .no), (13, aI ij1)] (vo rfl (x_len b eGSlot') rfl (va 1 [(16, aB (decide (ij1 < (b.length : Int))))] (va 1 [(17, aB (decide (ij1 < (b.length : Int))))] (vle km_d key))))
 ·exact va 4 [(16, .tuple [])] (va 1 [(17, aB false)] (vle km_d key))
 refine ve (dw hw (fun _ hw => ?_) (fun _ hw => ?_))
 ·refine d_skip (d_seqQ (d_blockQ (d_seqQ (d_seqQ (dS [] (sa 0 2 [(21, aI ij1), (20, .sl (List.map eGSlot' a) .no)] ?_))))))
  obtain ⟨y9, hy, h0, hw⟩ := hw
  refine sq rfl (fun _ _ => x_idx h0 hy (eGSlot'_eq _)) rfl (sa 0 4 [(26, aI ij1), (25, .sl (List.map eGSlot' b) .no), (24, aI y9.1)] ?_)
  obtain ⟨y10, hy, h0, hw⟩ := hw
  refine sq rfl (fun _ _ => x_idx h0 hy (eGSlot'_eq _)) rfl (sa 0 2 [(29, aI y10.1)] ?_)
  obtain ⟨y11, hy, hw⟩ := hw
  refine sq rfl (y_call hy pl39) rfl (send (vp_start' (va 1 [(6, aI y11)] (ve (ds (va 2 [(32, aB (y11 != 0))] (ve (dw hw (fun _ hw => ?_) (fun _ hw => ?_)))))))))
  ·exact ds (va 2 [(4, aI y11)] (ve (d_ret (rx hw (plr42 _)))))
  refine d_skip (d_seqQ (dS [] (sa 0 2 [(35, aI ij1), (34, .sl (List.map eGSlot' a) .no)] ?_)))
  obtain ⟨y12, hy, h0, hw⟩ := hw
  refine sq rfl (fun _ _ => x_idx h0 hy (eGSlot'_eq _)) rfl (sa 0 4 [(40, aI ij1), (39, .sl (List.map eGSlot' b) .no), (38, .agg (eGValue y12.2))] ?_)
  obtain ⟨y13, hy, h0, hw⟩ := hw
  refine sq rfl (fun _ _ => x_idx h0 hy (eGSlot'_eq _)) rfl (sa 0 2 [(43, .agg (eGValue y13.2))] ?_)
  obtain ⟨y14, hy, hw⟩ := hw
  refine sq rfl (y_call hy pl27) rfl (send (vp_start' (va 1 [(7, aI y14)] (ve (ds (va 2 [(46, aB (y14 != 0))] (ve (dw hw (fun _ hw => ?_) (fun _ hw => ?_)))))))))
  ·exact ds (va 2 [(4, aI y14)] (ve (d_ret (rx hw (plr42 _)))))
  exact d_skip (dr (va 3 [(5, aI (wI (ij1 + 1)))] (ve (jl0 hw))))
 refine d_exit (ds (va 1 [(48, .sl (List.map eGSlot' a) .no)] (vo rfl (x_len a eGSlot') rfl (va 1 [(50, .sl (List.map eGSlot' b) .no)] (vo rfl (x_len b eGSlot') rfl ?_)))))
 obtain ⟨y8, hy, hw⟩ := hw
 exact vo rfl (x_call hy pl39) rfl (va 1 [(4, aI y8)] (ve (d_ret (rx hw (plr42 _)))))
theorem ref16_slots_step (a : (List (Int × GValue))) (b : (List (Int × GValue))) (r : Int) (hw : ref16_slots_j2 0 a b r) : ref16_slots a b r := by
 exact f_pureD fn42 nle rfl (ds (va 1 [] (ve (d_seqQ (ds (va 1 [(5, aI 0)] (ve (d_blockQ (d_loopQ (jl0 hw))))))))))
theorem plr43 (r : Int) : plain (e43 r) = true := rfl
def r43_0 : LO := [o 4 (mi 0)]
def r43_1 : LO := [o 5 (mi 0)]
def r43_2 : LO := [o 7 (mv 5), o 8 (mv 0), o 9 (.len false (T 8)), o 10 (.bin .lss (T 7) (T 9)), o 11 (mv 10), og 12 (mv 5) 11 true, og 13 (mv 1) 11 true, og 14 (.len false (T 13)) 11 true, og 15 (.bin .lss (T 12) (T 14)) 11 true, o 16 (.pick (T 11) (T 15) (cb false))]
def k43_1 : ACode := .cond (T 16) .skip (.exit 0)
def r43_7 : LO := [o 19 (mv 0), o 20 (mv 5), o 21 (.idxSl 4 (T 19) (T 20)), o 22 (ln 4 21), o 23 (mv 1), o 24 (mv 5), o 25 (.idxSl 4 (T 23) (T 24)), o 26 (ln 4 25), o 27 (.call (cf 56) [(T 22), (T 26)])]
def r43_7t : LO := [o 6 (mv 27)]
def r43_7o : LN := [[], [], [0, 1], [2], [], [], [4, 5], [6], [3, 7]]
def r43_8 : LO := [o 28 (mv 6), o 29 (.bin .neq (T 28) (ci 0))]
def r43_9 : LO := [o 30 (mv 6), o 4 (mv 30)]
def k43_2 : ACode := .cond (T 29) (.seq (.region r43_9) .ret) .skip
def k43_3 : ACode := .seq (.region r43_8) k43_2
def r43_17 : LO := [o 17 (mv 5), o 18 (.bin .add (T 17) (ci 1)), o 5 (mv 18)]
def k43_4 : ACode := .seq (.block 1 (.seq (.drawn r43_7o r43_7 r43_7t) k43_3)) (.region r43_17)
def k43_5 : ACode := .seq (.seq (.region r43_2) k43_1) k43_4
def k43_6 : ACode := .block 0 (.loop k43_5)
def r43_23 : LO := [o 31 (mv 0), o 32 (.len false (T 31)), o 33 (mv 1), o 34 (.len false (T 33)), o 35 (.call (cf 39) [(T 32), (T 34)]), o 4 (mv 35)]
def k43_7 : ACode := .seq (.region r43_23) .ret
def k43_8 : ACode := .seq (.seq (.region r43_1) k43_6) k43_7
def k43_9 : ACode := .seq (.region r43_0) k43_8
theorem fn43 : getFn Tryd.prog 43 = some (36, k43_9, [.tmp 4]) := by kernel_rfl
def q43_0 (r : Int) : QP := qret [.tmp 4] (e43 r)
def q43_2 (r : Int) : QP := tq Tryd.prog 36 k43_7 (q43_0 r)
def q43_4 (r : Int) : QP := inBlockA 0 (q43_2 r)
def ref16_raws_j2 (ij1 : Int) (a : (List GRaw)) (b : (List GRaw)) (r : Int) : Prop := DL Tryd.prog 36 0 0 k43_5 (q43_4 r) [(5, aI ij1), (0, .sl (List.map eGRaw a) .no), (1, .sl (List.map eGRaw b) .no)] ⟨[], [], []⟩
theorem ref16_raws_j2_step (ij1 : Int) (a : (List GRaw)) (b : (List GRaw)) (r : Int) (hw : (((decide (ij1 < (a.length : Int))) && (decide (ij1 < (b.length : Int)))) = true -> ∃ y6, a[ij1.toNat]? = some y6 /\ 0 <= ij1 /\ (∃ y7, b[ij1.toNat]? = some y7 /\ 0 <= ij1 /\ (∃ y8, ref16_raw y6 y7 y8 /\ (((y8 != 0) = true -> r = y8) /\ ((y8 != 0) = false -> ref16_raws_j2 (wI (ij1 + 1)) a b r))))) /\ (((decide (ij1 < (a.length : Int))) && (decide (ij1 < (b.length : Int)))) = false -> ∃ y5, ref16_number (a.length : Int) (b.length : Int) y5 /\ (r = y5))) : ref16_raws_j2 ij1 a b r := by
 refine dl_unroll (d_seqQ (ds (va 2 [(8, .sl (List.map eGRaw a) .no), (7, aI ij1)] (vo rfl (x_len a eGRaw) rfl (va 2 [(11, aB (decide (ij1 < (a.length : Int))))] (vj 11 16 10 (decide (ij1 < (a.length : Int))) (fun z => aB (z && (decide (ij1 < (b.length : Int))))) km_d (fun _ key => ?_) (fun _ key => ?_) ?_))))))
 ·exact va 2 [(13, .sl (List.map eGRaw b) .no), (12, aI ij1)] (vo rfl (x_len b eGRaw) rfl (va 1 [(15, aB (decide (ij1 < (b.length : Int))))] (va 1 [(16, aB (decide (ij1 < (b.length : Int))))] (vle km_d key))))
 ·exact va 4 [(15, .tuple [])] (va 1 [(16, aB false)] (vle km_d key))
 refine ve (dw hw (fun _ hw => ?_) (fun _ hw => ?_))
 ·refine d_skip (d_seqQ (d_blockQ (d_seqQ (dS [] (sa 0 2 [(20, aI ij1), (19, .sl (List.map eGRaw a) .no)] ?_)))))
  obtain ⟨y6, hy, h0, hw⟩ := hw
  refine sq rfl (fun _ _ => x_idx h0 hy (rfl : eGRaw y6 = eGRaw y6)) rfl (sa 0 3 [(24, aI ij1), (23, .sl (List.map eGRaw b) .no), (22, .agg (eGRaw y6))] ?_)
  obtain ⟨y7, hy, h0, hw⟩ := hw
  refine sq rfl (fun _ _ => x_idx h0 hy (rfl : eGRaw y7 = eGRaw y7)) rfl (sa 0 1 [(26, .agg (eGRaw y7))] ?_)
  obtain ⟨y8, hy, hw⟩ := hw
  refine sq rfl (y_call hy pl56) rfl (send (vp_start' (va 1 [(6, aI y8)] (ve (ds (va 2 [(29, aB (y8 != 0))] (ve (dw hw (fun _ hw => ?_) (fun _ hw => ?_)))))))))
  ·exact ds (va 2 [(4, aI y8)] (ve (d_ret (rx hw (plr43 _)))))
  exact d_skip (dr (va 3 [(5, aI (wI (ij1 + 1)))] (ve (jl0 hw))))
 refine d_exit (ds (va 1 [(31, .sl (List.map eGRaw a) .no)] (vo rfl (x_len a eGRaw) rfl (va 1 [(33, .sl (List.map eGRaw b) .no)] (vo rfl (x_len b eGRaw) rfl ?_)))))
 obtain ⟨y5, hy, hw⟩ := hw
 exact vo rfl (x_call hy pl39) rfl (va 1 [(4, aI y5)] (ve (d_ret (rx hw (plr43 _)))))
theorem ref16_raws_step (a : (List GRaw)) (b : (List GRaw)) (r : Int) (hw : ref16_raws_j2 0 a b r) : ref16_raws a b r := by
 exact f_pureD fn43 nle rfl (ds (va 1 [] (ve (d_seqQ (ds (va 1 [(5, aI 0)] (ve (d_blockQ (d_loopQ (jl0 hw))))))))))
theorem plr44 (r : Int) : plain (e44 r) = true := rfl
def r44_0 : LO := [o 2 (bx 0), o 3 (bx 1), o 4 (mi 0)]
def r44_1 : LO := [o 6 (fa 0 2), o 7 (ld 6), o 8 (fa 0 3), o 9 (ld 8), o 10 (.bin .lss (T 7) (T 9)), o 5 (mv 10)]
def r44_2 : LO := [o 4 (mi (-1))]
def r44_5 : LO := [o 12 (fa 0 2), o 13 (ld 12), o 14 (fa 0 3), o 15 (ld 14), o 16 (.bin .gtr (T 13) (T 15)), o 11 (mv 16)]
def r44_6 : LO := [o 4 (mi 1)]
def r44_9 : LO := [o 18 (fa 0 2), o 19 (ld 18), o 20 (.call (cf 57) [(T 19)]), o 21 (.un .not (T 20)), o 17 (mv 21)]
def r44_10 : LO := [o 4 (mi 0)]
def r44_13 : LO := [o 23 (fa 0 2), o 24 (ld 23), o 25 (.call (cf 58) [(T 24)]), o 26 (mv 25), og 27 (fa 2 2) 26 true, og 28 (ld 27) 26 true, og 29 (fa 2 3) 26 true, og 30 (ld 29) 26 true, og 31 (.bin .lss (T 28) (T 30)) 26 true, o 32 (.pick (T 26) (T 31) (cb false)), o 22 (mv 32)]
def r44_14 : LO := [o 4 (mi (-1))]
def r44_17 : LO := [o 34 (fa 0 2), o 35 (ld 34), o 36 (.call (cf 58) [(T 35)]), o 37 (mv 36), og 38 (fa 2 2) 37 true, og 39 (ld 38) 37 true, og 40 (fa 2 3) 37 true, og 41 (ld 40) 37 true, og 42 (.bin .gtr (T 39) (T 41)) 37 true, o 43 (.pick (T 37) (T 42) (cb false)), o 33 (mv 43)]
def r44_18 : LO := [o 4 (mi 1)]
def r44_21 : LO := [o 45 (fa 0 2), o 46 (ld 45), o 47 (.call (cf 58) [(T 46)]), o 44 (mv 47)]
def r44_22 : LO := [o 4 (mi 0)]
def r44_25 : LO := [o 49 (ln 7 2), o 50 (.call (cf 59) [(T 49)]), o 51 (ln 7 3), o 52 (.call (cf 59) [(T 51)]), o 53 (.bin .lss (T 50) (T 52)), o 48 (mv 53)]
def r44_25t : LO := []
def r44_25o : LN := [[], [0], [], [1, 2], [1, 3], [3, 4]]
def r44_26 : LO := [o 4 (mi (-1))]
def r44_29 : LO := [o 55 (ln 7 2), o 56 (.call (cf 59) [(T 55)]), o 57 (ln 7 3), o 58 (.call (cf 59) [(T 57)]), o 59 (.bin .gtr (T 56) (T 58)), o 54 (mv 59)]
def r44_29t : LO := []
def r44_29o : LN := [[], [0], [], [1, 2], [1, 3], [3, 4]]
def r44_30 : LO := [o 4 (mi 1)]
def k44_1 : ACode := .cond (T 54) (.seq (.region r44_30) .ret) .skip
def k44_2 : ACode := .seq (.drawn r44_29o r44_29 r44_29t) k44_1
def k44_3 : ACode := .cond (T 48) (.seq (.region r44_26) .ret) k44_2
def k44_4 : ACode := .seq (.drawn r44_25o r44_25 r44_25t) k44_3
def k44_5 : ACode := .cond (T 44) (.seq (.region r44_22) .ret) k44_4
def k44_6 : ACode := .seq (.region r44_21) k44_5
def k44_7 : ACode := .cond (T 33) (.seq (.region r44_18) .ret) k44_6
def k44_8 : ACode := .seq (.region r44_17) k44_7
def k44_9 : ACode := .cond (T 22) (.seq (.region r44_14) .ret) k44_8
def k44_10 : ACode := .seq (.region r44_13) k44_9
def k44_11 : ACode := .cond (T 17) (.seq (.region r44_10) .ret) k44_10
def k44_12 : ACode := .seq (.region r44_9) k44_11
def k44_13 : ACode := .cond (T 11) (.seq (.region r44_6) .ret) k44_12
def k44_14 : ACode := .seq (.region r44_5) k44_13
def k44_15 : ACode := .cond (T 5) (.seq (.region r44_2) .ret) k44_14
def k44_16 : ACode := .seq (.region r44_1) k44_15
def r44_51 : LO := [o 4 (mi 0)]
def k44_17 : ACode := .seq (.region r44_51) .ret
def k44_18 : ACode := .seq (.block 0 k44_16) k44_17
def k44_19 : ACode := .seq (.region r44_0) k44_18
theorem fn44 : getFn Tryd.prog 44 = some (60, k44_19, [.tmp 4]) := by kernel_rfl
theorem ref04_Cmp_step (a : GValue) (b : GValue) (r : Int) (hw : ((decide (a.Kind < b.Kind)) = true -> r = (-1)) /\ ((decide (a.Kind < b.Kind)) = false -> ((decide (b.Kind < a.Kind)) = true -> r = 1) /\ ((decide (b.Kind < a.Kind)) = false -> ∃ y1, ref04_Is a.Kind y1 /\ (((!y1) = true -> r = 0) /\ ((!y1) = false -> ∃ y2, ref04_texts a.Kind y2 /\ (((y2 && (Op.bytesLess a.Text.toList b.Text.toList)) = true -> r = (-1)) /\ ((y2 && (Op.bytesLess a.Text.toList b.Text.toList)) = false -> ∃ y3, ref04_texts a.Kind y3 /\ (((y3 && (!(Op.bytesLess a.Text.toList b.Text.toList || a.Text.toList == b.Text.toList))) = true -> r = 1) /\ ((y3 && (!(Op.bytesLess a.Text.toList b.Text.toList || a.Text.toList == b.Text.toList))) = false -> ∃ y4, ref04_texts a.Kind y4 /\ ((y4 = true -> r = 0) /\ (y4 = false -> ∃ y5, ref04_rank a y5 /\ (∃ y6, ref04_rank b y6 /\ (((decide (y5 < y6)) = true -> r = (-1)) /\ ((decide (y5 < y6)) = false -> ∃ y7, ref04_rank a y7 /\ (∃ y8, ref04_rank b y8 /\ (((decide (y8 < y7)) = true -> r = 1) /\ ((decide (y8 < y7)) = false -> r = 0))))))))))))))))) : ref04_Cmp a b r := by
 refine f_pureD fn44 nle rfl (ds (vg 3 [(3, .ptr 1 0), (2, .ptr 0 0)] [(eGValue a), (eGValue b)] [] (ve (d_seqQ (d_blockQ (ds (va 6 [(5, aB (decide (a.Kind < b.Kind)))] (ve (dw hw (fun _ hw => ?_) (fun _ hw => ?_))))))))))
 ·exact ds (va 1 [(4, aI (-1))] (ve (d_ret (rx hw (plr44 _)))))
 refine ds (va 6 [(11, aB (decide (b.Kind < a.Kind)))] (ve (dw hw (fun _ hw => ?_) (fun _ hw => ?_))))
 ·exact ds (va 1 [(4, aI 1)] (ve (d_ret (rx hw (plr44 _)))))
 refine ds (va 2 [(19, aI a.Kind)] ?_)
 obtain ⟨y1, hy, hw⟩ := hw
 refine vo rfl (x_call hy pl57) rfl (va 2 [(17, aB (!y1))] (ve (dw hw (fun _ hw => ?_) (fun _ hw => ?_))))
 ·exact ds (va 1 [(4, aI 0)] (ve (d_ret (rx hw (plr44 _)))))
 refine ds (va 2 [(24, aI a.Kind)] ?_)
 obtain ⟨y2, hy, hw⟩ := hw
 refine vo rfl (x_call hy pl58) rfl (va 1 [(26, aB y2)] (vj 26 32 10 y2 (fun z => aB (z && (Op.bytesLess a.Text.toList b.Text.toList))) km_d (fun _ key => ?_) (fun _ key => ?_) ?_))
 ·exact va 4 [(30, aS b.Text), (28, aS a.Text)] (vo rfl (x_bin (c := True) (.bool (Op.bytesLess a.Text.toList b.Text.toList)) trivial) rfl (va 1 [(32, aB (Op.bytesLess a.Text.toList b.Text.toList))] (vle km_d key)))
 ·exact va 5 [(31, .tuple [])] (va 1 [(32, aB false)] (vle km_d key))
 refine va 1 [(22, aB (y2 && (Op.bytesLess a.Text.toList b.Text.toList)))] (ve (dw hw (fun _ hw => ?_) (fun _ hw => ?_)))
 ·exact ds (va 1 [(4, aI (-1))] (ve (d_ret (rx hw (plr44 _)))))
 refine ds (va 2 [(35, aI a.Kind)] ?_)
 obtain ⟨y3, hy, hw⟩ := hw
 refine vo rfl (x_call hy pl58) rfl (va 1 [(37, aB y3)] (vj 37 43 10 y3 (fun z => aB (z && (!(Op.bytesLess a.Text.toList b.Text.toList || a.Text.toList == b.Text.toList)))) km_d (fun _ key => ?_) (fun _ key => ?_) ?_))
 ·exact va 4 [(41, aS b.Text), (39, aS a.Text)] (vo rfl (x_bin (c := True) (.bool (!(Op.bytesLess a.Text.toList b.Text.toList || a.Text.toList == b.Text.toList))) trivial) rfl (va 1 [(43, aB (!(Op.bytesLess a.Text.toList b.Text.toList || a.Text.toList == b.Text.toList)))] (vle km_d key)))
 ·exact va 5 [(42, .tuple [])] (va 1 [(43, aB false)] (vle km_d key))
 refine va 1 [(33, aB (y3 && (!(Op.bytesLess a.Text.toList b.Text.toList || a.Text.toList == b.Text.toList))))] (ve (dw hw (fun _ hw => ?_) (fun _ hw => ?_)))
 ·exact ds (va 1 [(4, aI 1)] (ve (d_ret (rx hw (plr44 _)))))
 refine ds (va 2 [(46, aI a.Kind)] ?_)
 obtain ⟨y4, hy, hw⟩ := hw
 refine vo rfl (x_call hy pl58) rfl (va 1 [(44, aB y4)] (ve (dw hw (fun _ hw => ?_) (fun _ hw => ?_))))
 ·exact ds (va 1 [(4, aI 0)] (ve (d_ret (rx hw (plr44 _)))))
 refine d_seqQ (dS [(0, (eGValue a)), (1, (eGValue b))] (sa 2 1 [(49, .agg (eGValue a))] ?_))
 obtain ⟨y5, hy, hw⟩ := hw
 refine sq rfl (y_call hy pl59) rfl (sa 2 1 [(51, .agg (eGValue b))] ?_)
 obtain ⟨y6, hy, hw⟩ := hw
 refine sq rfl (y_call hy pl59) rfl (sa 2 2 [(48, aB (decide (y5 < y6)))] (send (vp_start' (ve (dw hw (fun _ hw => ?_) (fun _ hw => ?_))))))
 ·exact ds (va 1 [(4, aI (-1))] (ve (d_ret (rx hw (plr44 _)))))
 refine d_seqQ (dS [(0, (eGValue a)), (1, (eGValue b))] (sa 2 1 [(55, .agg (eGValue a))] ?_))
 obtain ⟨y7, hy, hw⟩ := hw
 refine sq rfl (y_call hy pl59) rfl (sa 2 1 [(57, .agg (eGValue b))] ?_)
 obtain ⟨y8, hy, hw⟩ := hw
 refine sq rfl (y_call hy pl59) rfl (sa 2 2 [(54, aB (decide (y8 < y7)))] (send (vp_start' (ve (dw hw (fun _ hw => ?_) (fun _ hw => ?_))))))
 ·exact ds (va 1 [(4, aI 1)] (ve (d_ret (rx hw (plr44 _)))))
 exact d_skip (ds (va 1 [(4, aI 0)] (ve (d_ret (rx hw (plr44 _))))))
def r45_0 : LO := [o 3 (bx 1), o 4 (mb false)]
def r45_1 : LO := [o 5 (mv 0), o 6 (.call (cf 34) [(T 5)]), o 7 (.un .not (T 6)), o 8 (mv 7), og 9 (fa 0 3) 8 false, og 10 (ld 9) 8 false, og 11 (mv 0) 8 false, og 12 (.bin .neq (T 10) (T 11)) 8 false, o 13 (.pick (T 8) (cb true) (T 12)), o 14 (mv 13), og 15 (ln 7 3) 14 false, og 16 (.call (cf 60) [(T 15)]) 14 false, og 17 (.un .not (T 16)) 14 false, o 18 (.pick (T 14) (cb true) (T 17)), o 19 (mv 18), og 20 (mv 0) 19 false, og 21 (fa 1 3) 19 false, og 22 (ld 21) 19 false, og 23 (.call (cf 61) [(T 20), (T 22)]) 19 false, og 24 (.un .not (T 23)) 19 false, o 25 (.pick (T 19) (cb true) (T 24)), o 26 (mv 25), og 27 (fa 2 3) 26 false, og 28 (ld 27) 26 false, og 29 (.len true (T 28)) 26 false, og 30 (.bin .gtr (T 29) (ci 4096)) 26 false, o 31 (.pick (T 26) (cb true) (T 30))]
def r45_2 : LO := [o 4 (mb false)]
def k45_1 : ACode := .cond (T 31) (.seq (.region r45_2) .ret) .skip
def k45_2 : ACode := .seq (.region r45_1) k45_1
def r45_8 : LO := [o 32 (mv 0), o 33 (.bin .neq (T 32) (ci 7)), o 34 (mv 33), og 35 (fa 2 3) 34 false, og 36 (ld 35) 34 false, og 37 (.call (cf 62) [(T 36)]) 34 false, o 38 (.pick (T 34) (cb true) (T 37)), o 4 (mv 38)]
def k45_3 : ACode := .seq (.region r45_8) .ret
def k45_4 : ACode := .seq k45_2 k45_3
def k45_5 : ACode := .seq (.region r45_0) k45_4
theorem fn45 : getFn Tryd.prog 45 = some (39, k45_5, [.tmp 4]) := by kernel_rfl
end
section
attribute [-simp] List.map_take List.map_drop List.map_append List.map_set List.map_replicate List.map_cons List.map_map
attribute [local simp] plain plainL lowE lowB keepB low lowL lowLL plm_I_i8 plm_I_i16 plm_I_i32 plm_I_i64 plm_I_u8 plm_I_u16 plm_I_u32 plm_I_u64 plm_Bool plm_Str gfn_fi gfn_cap plm_Fn pl_GRaw plm_GRaw pl_GValue plm_GValue pl_GPair plm_GPair pl_GSlot plm_GSlot pl_Gparts plm_Gparts pl_Any eI_i8 eI_i16 eI_i32 eI_i64 eI_u8 eI_u16 eI_u32 eI_u64 eBool eStr eFn gfn_lfi gfn_lcap lwm_GRaw lwm_GValue lwm_GPair lwm_GSlot
def r51_0 : LO := [o 10 (mv 1), o 11 (.bin .add (T 10) (ci 1)), o 8 (mv 11)]
def r51_1 : LO := [o 12 (mv 8), o 13 (mv 2), o 14 (.bin .lss (T 12) (T 13))]
def k51_1 : ACode := .cond (T 14) .skip (.exit 0)
def r51_6 : LO := [o 17 (mv 8), o 9 (mv 17)]
def r51_7 : LO := [o 18 (mv 9), o 19 (mv 1), o 20 (.bin .gtr (T 18) (T 19)), o 21 (mv 20), og 22 (mv 3) 21 true, og 23 (mv 0) 21 true, og 24 (mv 9) 21 true, og 25 (.idxSl 14 (T 23) (T 24)) 21 true, og 26 (ln 14 25) 21 true, og 27 (mv 0) 21 true, og 28 (mv 9) 21 true, og 29 (.bin .sub (T 28) (ci 1)) 21 true, og 30 (.idxSl 14 (T 27) (T 29)) 21 true, og 31 (ln 14 30) 21 true, og 32 (.call (T 22) [(T 26), (T 31)]) 21 true, og 33 (.bin .lss (T 32) (ci 0)) 21 true, o 34 (.pick (T 21) (T 33) (cb false))]
def r51_7t : LO := []
def r51_7o : LN := [[], [], [0, 1], [2], [3], [3], [3], [3, 5, 6], [3, 7], [3], [3], [3, 10], [3, 9, 11], [3, 12], [3, 4, 8, 13], [3, 14], [3, 15]]
def k51_2 : ACode := .cond (T 34) .skip (.exit 2)
def k51_3 : ACode := .seq (.drawn r51_7o r51_7 r51_7t) k51_2
def r51_12 : LO := [o 37 (mv 0), o 38 (mv 9), o 39 (mv 0), o 40 (mv 9), o 41 (.bin .sub (T 40) (ci 1)), o 42 (mv 0), o 43 (mv 9), o 44 (.bin .sub (T 43) (ci 1)), o 45 (.idxSl 14 (T 42) (T 44)), o 46 (ln 14 45), o 47 (mv 0), o 48 (mv 9), o 49 (.idxSl 14 (T 47) (T 48)), o 50 (ln 14 49), o 51 (.idxSl 14 (T 37) (T 38)), on (st 14 51 46)]
def r51_12t : LO := [o 52 (.idxSl 14 (T 39) (T 41)), on (st 14 52 50)]
def r51_12o : LN := [[], [], [], [], [3], [], [], [6], [5, 7], [8], [], [], [10, 11], [12], [0, 1, 5, 6, 7, 8, 9, 13], [0, 1, 5, 6, 7, 8, 9, 13, 14]]
def r51_14 : LO := [o 35 (mv 9), o 36 (.bin .sub (T 35) (ci 1)), o 9 (mv 36)]
def k51_4 : ACode := .seq (.block 3 (.drawn r51_12o r51_12 r51_12t)) (.region r51_14)
def k51_5 : ACode := .seq k51_3 k51_4
def k51_6 : ACode := .block 2 (.loop k51_5)
def r51_21 : LO := [o 15 (mv 8), o 16 (.bin .add (T 15) (ci 1)), o 8 (mv 16)]
def k51_7 : ACode := .seq (.block 1 (.seq (.region r51_6) k51_6)) (.region r51_21)
def k51_8 : ACode := .seq (.seq (.region r51_1) k51_1) k51_7
def k51_9 : ACode := .block 0 (.loop k51_8)
def k51_10 : ACode := .seq (.region r51_0) k51_9
theorem fn51 : getFn Tryd.prog 51 = some (53, k51_10, []) := by kernel_rfl
def q51_0 (r : (List (GValue × GValue))) : QP := qio 0 [] (.tuple []) (cellsOf eGPair' r) []
def q51_2 (r : (List (GValue × GValue))) : QP := inBlockA 0 (q51_0 r)
def q51_3 (r : (List (GValue × GValue))) : QP := tli 0 Tryd.prog 53 k51_8 (q51_2 r)
def q51_6 (r : (List (GValue × GValue))) : QP := tqi 0 Tryd.prog 53 (.region r51_21) (q51_3 r)
def q51_7 (r : (List (GValue × GValue))) : QP := inBlockA 1 (q51_6 r)
def q51_9 (r : (List (GValue × GValue))) : QP := inBlockA 2 (q51_7 r)
def slices_insertionSortCmpFunc_Pair_j6 (ij5 : Int) (ij3 : Int) (n0 : Nat) (a : Int) (b : Int) (cmp : GFn) (lj6 : (List (GValue × GValue))) (r : (List (GValue × GValue))) : Prop := DL Tryd.prog 53 1 0 k51_5 (q51_9 r) [(9, aI ij5), (8, aI ij3), (0, .row 0 0 14 n0 n0), (1, aI a), (2, aI b), (3, .clo (.func cmp.fn) cmp.fi cmp.cap)] ⟨[some (cellsOf eGPair' lj6)], [], []⟩
def slices_insertionSortCmpFunc_Pair_j4 (ij3 : Int) (n0 : Nat) (a : Int) (b : Int) (cmp : GFn) (lj4 : (List (GValue × GValue))) (r : (List (GValue × GValue))) : Prop := DL Tryd.prog 53 1 0 k51_8 (q51_2 r) [(8, aI ij3), (0, .row 0 0 14 n0 n0), (1, aI a), (2, aI b), (3, .clo (.func cmp.fn) cmp.fi cmp.cap)] ⟨[some (cellsOf eGPair' lj4)], [], []⟩
theorem slices_insertionSortCmpFunc_Pair_j6_step (ij5 : Int) (ij3 : Int) (n0 : Nat) (a : Int) (b : Int) (cmp : GFn) (lj6 : (List (GValue × GValue))) (r : (List (GValue × GValue))) (hw : ∃ R8 : Bool -> Prop, (∀ bz8 : Bool, R8 bz8 -> ((bz8 = true -> (0 <= (wI (ij5 - 1)) /\ (wI (ij5 - 1)) < (n0 : Int)) /\ (∃ y19, lj6[(wI (ij5 - 1)).toNat]? = some y19 /\ ((0 <= ij5 /\ ij5 < (n0 : Int)) /\ (∃ y20, lj6[ij5.toNat]? = some y20 /\ ((0 <= ij5 /\ ij5 < (n0 : Int)) /\ (ij5.toNat < lj6.length /\ ((0 <= (wI (ij5 - 1)) /\ (wI (ij5 - 1)) < (n0 : Int)) /\ ((wI (ij5 - 1)).toNat < (lj6.set ij5.toNat y19).length /\ (slices_insertionSortCmpFunc_Pair_j6 (wI (ij5 - 1)) ij3 n0 a b cmp ((lj6.set ij5.toNat y19).set (wI (ij5 - 1)).toNat y20) r))))))))) /\ (bz8 = false -> slices_insertionSortCmpFunc_Pair_j4 (wI (ij3 + 1)) n0 a b cmp lj6 r))) /\ (((decide (a < ij5)) = true -> (0 <= ij5 /\ ij5 < (n0 : Int)) /\ (∃ y16, lj6[ij5.toNat]? = some y16 /\ ((0 <= (wI (ij5 - 1)) /\ (wI (ij5 - 1)) < (n0 : Int)) /\ (∃ y17, lj6[(wI (ij5 - 1)).toNat]? = some y17 /\ (∃ y18, FCall Tryd.prog [] (.clo (.func cmp.fn) cmp.fi cmp.cap) [.agg (eGPair y16), .agg (eGPair y17)] (aI y18) /\ (R8 (decide (y18 < 0)))))))) /\ ((decide (a < ij5)) = false -> R8 false))) : slices_insertionSortCmpFunc_Pair_j6 ij5 ij3 n0 a b cmp lj6 r := by
 refine dl_unroll (d_seqQ (d_seqQ (dS [(0, (cellsOf eGPair' lj6))] (sa 1 4 [(21, aB (decide (a < ij5)))] ?_))))
 obtain ⟨R8, hR, hw⟩ := hw
 refine sr 21 34 17 (decide (a < ij5)) R8 (fun bz8 => aB bz8) (km_vd km_d) (fun bz8 hz => ?_) (fun key => ⟨fun hb13 => ?_, fun hb13 => ?_⟩)
 ·have hw := hR bz8 hz
  refine send (vp_start' (ve (dw hw (fun _ hw => ?_) (fun _ hw => ?_))))
  ·refine d_skip (d_seqQ (d_blockQ (dL 15 [(0, (cellsOf eGPair' lj6))] rfl (sa 1 8 [(44, aI (wI (ij5 - 1))), (42, .row 0 0 14 n0 n0), (41, aI (wI (ij5 - 1))), (39, .row 0 0 14 n0 n0), (38, aI ij5), (37, .row 0 0 14 n0 n0)] (hK := (km_L km_d)) ?_))))
   obtain ⟨h0, hw⟩ := hw
   refine sq rfl (fun _ _ => x_ridx 0 n0 n0 h0) rfl ?_
   obtain ⟨y19, hy, hw⟩ := hw
   refine sq rfl (y_rldn (sz := 14) (r := 0) (e := eGPair') (i := (wI (ij5 - 1)).toNat) (cs := (eGPair y19)) (off := (0 + (wI (ij5 - 1)).toNat * 14)) (fun _ => by rw [eGPair'_eq]; rfl) (fun _ => by rw [eGPair'_eq]; rfl) hy (eGPair'_eq _) (by omega) (List.mem_of_getElem? (i := 0) rfl)) rfl (sa 1 2 [(48, aI ij5), (47, .row 0 0 14 n0 n0)] (hK := (km_L km_d)) ?_)
   obtain ⟨h0, hw⟩ := hw
   refine sq rfl (fun _ _ => x_ridx 0 n0 n0 h0) rfl ?_
   obtain ⟨y20, hy, hw⟩ := hw
   refine sq rfl (y_rldn (sz := 14) (r := 0) (e := eGPair') (i := ij5.toNat) (cs := (eGPair y20)) (off := (0 + ij5.toNat * 14)) (fun _ => by rw [eGPair'_eq]; rfl) (fun _ => by rw [eGPair'_eq]; rfl) hy (eGPair'_eq _) (by omega) (List.mem_of_getElem? (i := 0) rfl)) rfl ?_
   obtain ⟨h0, hw⟩ := hw
   refine sq rfl (fun _ _ => x_ridx 0 n0 n0 h0) rfl (send ?_)
   obtain ⟨h0, hw⟩ := hw
   refine ⟨_, _, (x_rst (sz := 14) (r := 0) (e := eGPair') (i := ij5.toNat) (off := (0 + ij5.toNat * 14)) (l := lj6) (av := .agg (eGPair y19)) y19 (fun _ => by rw [eGPair'_eq]; rfl) (fun _ => by rw [eGPair'_eq]; rfl) h0 (eGPair'_eq _) (by omega)), ?_⟩
   obtain ⟨h0, hw⟩ := hw
   refine vo rfl (x_ridx 0 n0 n0 h0) rfl ?_
   obtain ⟨h0, hw⟩ := hw
   exact vw rfl (x_rst (sz := 14) (r := 0) (e := eGPair') (i := (wI (ij5 - 1)).toNat) (off := (0 + (wI (ij5 - 1)).toNat * 14)) (l := (lj6.set ij5.toNat y19)) (av := .agg (eGPair y20)) y20 (fun _ => by rw [eGPair'_eq]; rfl) (fun _ => by rw [eGPair'_eq]; rfl) h0 (eGPair'_eq _) (by omega)) (ve (dr (va 3 [(9, aI (wI (ij5 - 1)))] (ve (jl0 hw)))))
  exact d_exit (dr (va 3 [(8, aI (wI (ij3 + 1)))] (ve (jl0 hw))))
 ·have hw := hw.1 hb13
  refine sa 1 3 [(24, aI ij5), (23, .row 0 0 14 n0 n0), (22, .clo (.func cmp.fn) cmp.fi cmp.cap)] ?_
  obtain ⟨h0, hw⟩ := hw
  refine sq rfl (fun _ _ => x_ridx 0 n0 n0 h0) rfl ?_
  obtain ⟨y16, hy, hw⟩ := hw
  refine sq rfl (y_rldn (sz := 14) (r := 0) (e := eGPair') (i := ij5.toNat) (cs := (eGPair y16)) (off := (0 + ij5.toNat * 14)) (fun _ => by rw [eGPair'_eq]; rfl) (fun _ => by rw [eGPair'_eq]; rfl) hy (eGPair'_eq _) (by omega) (List.mem_of_getElem? (i := 0) rfl)) rfl (sa 1 3 [(29, aI (wI (ij5 - 1))), (27, .row 0 0 14 n0 n0)] ?_)
  obtain ⟨h0, hw⟩ := hw
  refine sq rfl (fun _ _ => x_ridx 0 n0 n0 h0) rfl ?_
  obtain ⟨y17, hy, hw⟩ := hw
  refine sq rfl (y_rldn (sz := 14) (r := 0) (e := eGPair') (i := (wI (ij5 - 1)).toNat) (cs := (eGPair y17)) (off := (0 + (wI (ij5 - 1)).toNat * 14)) (fun _ => by rw [eGPair'_eq]; rfl) (fun _ => by rw [eGPair'_eq]; rfl) hy (eGPair'_eq _) (by omega) (List.mem_of_getElem? (i := 0) rfl)) rfl ?_
  obtain ⟨y18, hy, hw⟩ := hw
  exact sq rfl (y_fcall hy) rfl (sa 1 1 [(33, aB (decide (y18 < 0)))] (sa 1 1 [(34, aB (decide (y18 < 0)))] (sle (km_vd km_d) (key _ hw))))
 ·have hw := hw.2 hb13
  exact sa 1 12 [(33, .tuple [])] (sa 1 1 [(34, aB false)] (sle (km_vd km_d) (key _ hw)))
theorem slices_insertionSortCmpFunc_Pair_j4_step (ij3 : Int) (n0 : Nat) (a : Int) (b : Int) (cmp : GFn) (lj4 : (List (GValue × GValue))) (r : (List (GValue × GValue))) (hw : ((decide (ij3 < b)) = true -> slices_insertionSortCmpFunc_Pair_j6 ij3 ij3 n0 a b cmp lj4 r) /\ ((decide (ij3 < b)) = false -> lj4 ≠ [] /\ r = lj4)) : slices_insertionSortCmpFunc_Pair_j4 ij3 n0 a b cmp lj4 r := by
 refine dl_unroll (d_seqQ (ds (va 3 [(14, aB (decide (ij3 < b)))] (ve (dw hw (fun _ hw => ?_) (fun _ hw => ?_))))))
 ·exact d_skip (d_seqQ (d_blockQ (ds (va 2 [(9, aI ij3)] (ve (d_blockQ (d_loopQ (jl0 hw))))))))
 exact d_exit (riorn rowE_GPair hw)
theorem slices_insertionSortCmpFunc_Pair_step (n0 : Nat) (data : (List (GValue × GValue))) (a : Int) (b : Int) (cmp : GFn) (r : (List (GValue × GValue))) (hw : slices_insertionSortCmpFunc_Pair_j4 (wI (a + 1)) n0 a b cmp data r) : slices_insertionSortCmpFunc_Pair n0 data a b cmp r := by
 exact f_rio fn51 nle rfl (ds (va 3 [(8, aI (wI (a + 1)))] (ve (d_blockQ (d_loopQ (jl0 hw))))))
def r52_0 : LO := [o 25 (mv 2), o 26 (mv 1), o 27 (.bin .sub (T 25) (T 26)), o 28 (.bin .eql (T 27) (ci 1))]
def r52_1 : LO := [o 29 (mv 2), o 10 (mv 29)]
def r52_2 : LO := [o 30 (mv 3), o 11 (mv 30)]
def r52_3 : LO := [o 31 (mv 10), o 32 (mv 11), o 33 (.bin .lss (T 31) (T 32))]
def k52_1 : ACode := .cond (T 33) .skip (.exit 0)
def r52_8 : LO := [o 34 (mv 10), o 35 (mv 11), o 36 (.bin .add (T 34) (T 35)), o 37 (.conv (.num .u64) (T 36)), o 38 (.bin .shr (T 37) (.c (aU 1))), o 39 (.conv (.num .i64) (T 38)), o 12 (mv 39)]
def r52_9 : LO := [o 40 (mv 4), o 41 (mv 0), o 42 (mv 12), o 43 (.idxSl 14 (T 41) (T 42)), o 44 (ln 14 43), o 45 (mv 0), o 46 (mv 1), o 47 (.idxSl 14 (T 45) (T 46)), o 48 (ln 14 47), o 49 (.call (T 40) [(T 44), (T 48)]), o 50 (.bin .lss (T 49) (ci 0))]
def r52_9t : LO := []
def r52_9o : LN := [[], [], [], [1, 2], [3], [], [], [5, 6], [7], [0, 4, 8], [9]]
def r52_10 : LO := [o 51 (mv 12), o 52 (.bin .add (T 51) (ci 1)), o 10 (mv 52)]
def r52_11 : LO := [o 53 (mv 12), o 11 (mv 53)]
def k52_2 : ACode := .cond (T 50) (.region r52_10) (.region r52_11)
def k52_3 : ACode := .seq (.drawn r52_9o r52_9 r52_9t) k52_2
def k52_4 : ACode := .block 1 (.seq (.region r52_8) k52_3)
def k52_5 : ACode := .seq (.seq (.region r52_3) k52_1) k52_4
def r52_19 : LO := [o 54 (mv 1), o 13 (mv 54)]
def r52_20 : LO := [o 55 (mv 13), o 56 (mv 10), o 57 (.bin .sub (T 56) (ci 1)), o 58 (.bin .lss (T 55) (T 57))]
def k52_6 : ACode := .cond (T 58) .skip (.exit 2)
def r52_25 : LO := [o 61 (mv 0), o 62 (mv 13), o 63 (mv 0), o 64 (mv 13), o 65 (.bin .add (T 64) (ci 1)), o 66 (mv 0), o 67 (mv 13), o 68 (.bin .add (T 67) (ci 1)), o 69 (.idxSl 14 (T 66) (T 68)), o 70 (ln 14 69), o 71 (mv 0), o 72 (mv 13), o 73 (.idxSl 14 (T 71) (T 72)), o 74 (ln 14 73), o 75 (.idxSl 14 (T 61) (T 62)), on (st 14 75 70)]
def r52_25t : LO := [o 76 (.idxSl 14 (T 63) (T 65)), on (st 14 76 74)]
def r52_25o : LN := [[], [], [], [], [3], [], [], [6], [5, 7], [8], [], [], [10, 11], [12], [0, 1, 5, 6, 7, 8, 9, 13], [0, 1, 5, 6, 7, 8, 9, 13, 14]]
def r52_27 : LO := [o 59 (mv 13), o 60 (.bin .add (T 59) (ci 1)), o 13 (mv 60)]
def k52_7 : ACode := .seq (.block 3 (.drawn r52_25o r52_25 r52_25t)) (.region r52_27)
def k52_8 : ACode := .seq (.seq (.region r52_20) k52_6) k52_7
def k52_9 : ACode := .block 2 (.loop k52_8)
def k52_10 : ACode := .seq (.seq (.region r52_19) k52_9) .ret
def k52_11 : ACode := .seq (.block 0 (.loop k52_5)) k52_10
def k52_12 : ACode := .seq (.region r52_2) k52_11
def k52_13 : ACode := .cond (T 28) (.seq (.region r52_1) k52_12) .skip
def r52_41 : LO := [o 77 (mv 3), o 78 (mv 2), o 79 (.bin .sub (T 77) (T 78)), o 80 (.bin .eql (T 79) (ci 1))]
def r52_42 : LO := [o 81 (mv 1), o 14 (mv 81)]
def r52_43 : LO := [o 82 (mv 2), o 15 (mv 82)]
def r52_44 : LO := [o 83 (mv 14), o 84 (mv 15), o 85 (.bin .lss (T 83) (T 84))]
def k52_14 : ACode := .cond (T 85) .skip (.exit 4)
def r52_49 : LO := [o 86 (mv 14), o 87 (mv 15), o 88 (.bin .add (T 86) (T 87)), o 89 (.conv (.num .u64) (T 88)), o 90 (.bin .shr (T 89) (.c (aU 1))), o 91 (.conv (.num .i64) (T 90)), o 16 (mv 91)]
def r52_50 : LO := [o 92 (mv 4), o 93 (mv 0), o 94 (mv 2), o 95 (.idxSl 14 (T 93) (T 94)), o 96 (ln 14 95), o 97 (mv 0), o 98 (mv 16), o 99 (.idxSl 14 (T 97) (T 98)), o 100 (ln 14 99), o 101 (.call (T 92) [(T 96), (T 100)]), o 102 (.bin .lss (T 101) (ci 0)), o 103 (.un .not (T 102))]
def r52_50t : LO := []
def r52_50o : LN := [[], [], [], [1, 2], [3], [], [], [5, 6], [7], [0, 4, 8], [9], [10]]
def r52_51 : LO := [o 104 (mv 16), o 105 (.bin .add (T 104) (ci 1)), o 14 (mv 105)]
def r52_52 : LO := [o 106 (mv 16), o 15 (mv 106)]
def k52_15 : ACode := .cond (T 103) (.region r52_51) (.region r52_52)
def k52_16 : ACode := .seq (.drawn r52_50o r52_50 r52_50t) k52_15
def k52_17 : ACode := .block 5 (.seq (.region r52_49) k52_16)
def k52_18 : ACode := .seq (.seq (.region r52_44) k52_14) k52_17
def r52_60 : LO := [o 107 (mv 2), o 17 (mv 107)]
def r52_61 : LO := [o 108 (mv 17), o 109 (mv 14), o 110 (.bin .gtr (T 108) (T 109))]
def k52_19 : ACode := .cond (T 110) .skip (.exit 6)
def r52_66 : LO := [o 113 (mv 0), o 114 (mv 17), o 115 (mv 0), o 116 (mv 17), o 117 (.bin .sub (T 116) (ci 1)), o 118 (mv 0), o 119 (mv 17), o 120 (.bin .sub (T 119) (ci 1)), o 121 (.idxSl 14 (T 118) (T 120)), o 122 (ln 14 121), o 123 (mv 0), o 124 (mv 17), o 125 (.idxSl 14 (T 123) (T 124)), o 126 (ln 14 125), o 127 (.idxSl 14 (T 113) (T 114)), on (st 14 127 122)]
def r52_66t : LO := [o 128 (.idxSl 14 (T 115) (T 117)), on (st 14 128 126)]
def r52_66o : LN := [[], [], [], [], [3], [], [], [6], [5, 7], [8], [], [], [10, 11], [12], [0, 1, 5, 6, 7, 8, 9, 13], [0, 1, 5, 6, 7, 8, 9, 13, 14]]
def r52_68 : LO := [o 111 (mv 17), o 112 (.bin .sub (T 111) (ci 1)), o 17 (mv 112)]
def k52_20 : ACode := .seq (.block 7 (.drawn r52_66o r52_66 r52_66t)) (.region r52_68)
def k52_21 : ACode := .seq (.seq (.region r52_61) k52_19) k52_20
def k52_22 : ACode := .block 6 (.loop k52_21)
def k52_23 : ACode := .seq (.seq (.region r52_60) k52_22) .ret
def k52_24 : ACode := .seq (.block 4 (.loop k52_18)) k52_23
def k52_25 : ACode := .seq (.region r52_43) k52_24
def k52_26 : ACode := .cond (T 80) (.seq (.region r52_42) k52_25) .skip
def r52_82 : LO := [o 129 (mv 1), o 130 (mv 3), o 131 (.bin .add (T 129) (T 130)), o 132 (.conv (.num .u64) (T 131)), o 133 (.bin .shr (T 132) (.c (aU 1))), o 134 (.conv (.num .i64) (T 133)), o 18 (mv 134)]
def r52_83 : LO := [o 135 (mv 18), o 136 (mv 2), o 137 (.bin .add (T 135) (T 136)), o 19 (mv 137)]
def r52_84 : LO := [o 20 (mi 0), o 21 (mi 0)]
def r52_85 : LO := [o 138 (mv 2), o 139 (mv 18), o 140 (.bin .gtr (T 138) (T 139))]
def r52_86 : LO := [o 141 (mv 19), o 142 (mv 3), o 143 (.bin .sub (T 141) (T 142)), o 20 (mv 143)]
def r52_87 : LO := [o 144 (mv 18), o 21 (mv 144)]
def r52_89 : LO := [o 145 (mv 1), o 20 (mv 145)]
def r52_90 : LO := [o 146 (mv 2), o 21 (mv 146)]
def k52_27 : ACode := .cond (T 140) (.seq (.region r52_86) (.region r52_87)) (.seq (.region r52_89) (.region r52_90))
def r52_94 : LO := [o 147 (mv 19), o 148 (.bin .sub (T 147) (ci 1)), o 22 (mv 148)]
def r52_95 : LO := [o 149 (mv 20), o 150 (mv 21), o 151 (.bin .lss (T 149) (T 150))]
def k52_28 : ACode := .cond (T 151) .skip (.exit 8)
def r52_100 : LO := [o 152 (mv 20), o 153 (mv 21), o 154 (.bin .add (T 152) (T 153)), o 155 (.conv (.num .u64) (T 154)), o 156 (.bin .shr (T 155) (.c (aU 1))), o 157 (.conv (.num .i64) (T 156)), o 23 (mv 157)]
def r52_101 : LO := [o 158 (mv 4), o 159 (mv 0), o 160 (mv 22), o 161 (mv 23), o 162 (.bin .sub (T 160) (T 161)), o 163 (.idxSl 14 (T 159) (T 162)), o 164 (ln 14 163), o 165 (mv 0), o 166 (mv 23), o 167 (.idxSl 14 (T 165) (T 166)), o 168 (ln 14 167), o 169 (.call (T 158) [(T 164), (T 168)]), o 170 (.bin .lss (T 169) (ci 0)), o 171 (.un .not (T 170))]
def r52_101t : LO := []
def r52_101o : LN := [[], [], [], [], [2, 3], [1, 4], [5], [], [], [7, 8], [9], [0, 6, 10], [11], [12]]
def r52_102 : LO := [o 172 (mv 23), o 173 (.bin .add (T 172) (ci 1)), o 20 (mv 173)]
def r52_103 : LO := [o 174 (mv 23), o 21 (mv 174)]
def k52_29 : ACode := .cond (T 171) (.region r52_102) (.region r52_103)
def k52_30 : ACode := .seq (.drawn r52_101o r52_101 r52_101t) k52_29
def k52_31 : ACode := .block 9 (.seq (.region r52_100) k52_30)
def k52_32 : ACode := .seq (.seq (.region r52_95) k52_28) k52_31
def r52_111 : LO := [o 175 (mv 19), o 176 (mv 20), o 177 (.bin .sub (T 175) (T 176)), o 24 (mv 177)]
def r52_112 : LO := [o 178 (mv 20), o 179 (mv 2), o 180 (.bin .lss (T 178) (T 179)), o 181 (mv 180), og 182 (mv 2) 181 true, og 183 (mv 24) 181 true, og 184 (.bin .lss (T 182) (T 183)) 181 true, o 185 (.pick (T 181) (T 184) (cb false))]
def r52_113 : LO := [o 186 (mv 0), o 187 (mv 20), o 188 (mv 2), o 189 (mv 24), o 190 (mv 4), o 191 (.call (cf 67) [(T 186), (T 187), (T 188), (T 189), (T 190)])]
def k52_33 : ACode := .cond (T 185) (.region r52_113) .skip
def k52_34 : ACode := .seq (.region r52_112) k52_33
def r52_117 : LO := [o 192 (mv 1), o 193 (mv 20), o 194 (.bin .lss (T 192) (T 193)), o 195 (mv 194), og 196 (mv 20) 195 true, og 197 (mv 18) 195 true, og 198 (.bin .lss (T 196) (T 197)) 195 true, o 199 (.pick (T 195) (T 198) (cb false))]
def r52_118 : LO := [o 200 (mv 0), o 201 (mv 1), o 202 (mv 20), o 203 (mv 18), o 204 (mv 4), o 205 (.call (cf 52) [(T 200), (T 201), (T 202), (T 203), (T 204)])]
def k52_35 : ACode := .cond (T 199) (.region r52_118) .skip
def k52_36 : ACode := .seq (.region r52_117) k52_35
def r52_122 : LO := [o 206 (mv 18), o 207 (mv 24), o 208 (.bin .lss (T 206) (T 207)), o 209 (mv 208), og 210 (mv 24) 209 true, og 211 (mv 3) 209 true, og 212 (.bin .lss (T 210) (T 211)) 209 true, o 213 (.pick (T 209) (T 212) (cb false))]
def r52_123 : LO := [o 214 (mv 0), o 215 (mv 18), o 216 (mv 24), o 217 (mv 3), o 218 (mv 4), o 219 (.call (cf 52) [(T 214), (T 215), (T 216), (T 217), (T 218)])]
def k52_37 : ACode := .cond (T 213) (.region r52_123) .skip
def k52_38 : ACode := .seq (.region r52_122) k52_37
def k52_39 : ACode := .seq k52_36 k52_38
def k52_40 : ACode := .seq k52_34 k52_39
def k52_41 : ACode := .seq (.region r52_111) k52_40
def k52_42 : ACode := .seq (.block 8 (.loop k52_32)) k52_41
def k52_43 : ACode := .seq (.region r52_94) k52_42
def k52_44 : ACode := .seq (.seq (.region r52_85) k52_27) k52_43
def k52_45 : ACode := .seq (.region r52_84) k52_44
def k52_46 : ACode := .seq (.region r52_83) k52_45
def k52_47 : ACode := .seq (.region r52_82) k52_46
def k52_48 : ACode := .seq (.seq (.region r52_41) k52_26) k52_47
def k52_49 : ACode := .seq (.seq (.region r52_0) k52_13) k52_48
theorem fn52 : getFn Tryd.prog 52 = some (220, k52_49, []) := by kernel_rfl
def q52_0 (r : (List (GValue × GValue))) : QP := qio 0 [] (.tuple []) (cellsOf eGPair' r) []
def q52_1 (r : (List (GValue × GValue))) : QP := tqi 0 Tryd.prog 220 k52_48 (q52_0 r)
def q52_10 (r : (List (GValue × GValue))) : QP := tqi 0 Tryd.prog 220 .ret (q52_1 r)
def q52_12 (r : (List (GValue × GValue))) : QP := inBlockA 2 (q52_10 r)
def slices_symMergeCmpFunc_Pair_j6 (ij5 : Int) (ij3 : Int) (n0 : Nat) (lj6 : (List (GValue × GValue))) (r : (List (GValue × GValue))) : Prop := DL Tryd.prog 220 1 0 k52_8 (q52_12 r) [(13, aI ij5), (10, aI ij3), (0, .row 0 0 14 n0 n0)] ⟨[some (cellsOf eGPair' lj6)], [], []⟩
def q52_5 (r : (List (GValue × GValue))) : QP := tqi 0 Tryd.prog 220 k52_10 (q52_1 r)
def q52_6 (r : (List (GValue × GValue))) : QP := inBlockA 0 (q52_5 r)
def slices_symMergeCmpFunc_Pair_j4 (ij4 : Int) (ij3 : Int) (n0 : Nat) (a : Int) (cmp : GFn) (data : (List (GValue × GValue))) (r : (List (GValue × GValue))) : Prop := DL Tryd.prog 220 1 0 k52_5 (q52_6 r) [(11, aI ij4), (10, aI ij3), (0, .row 0 0 14 n0 n0), (1, aI a), (4, .clo (.func cmp.fn) cmp.fi cmp.cap)] ⟨[some (cellsOf eGPair' data)], [], []⟩
def q52_21 (r : (List (GValue × GValue))) : QP := tqi 0 Tryd.prog 220 k52_47 (q52_0 r)
def q52_30 (r : (List (GValue × GValue))) : QP := tqi 0 Tryd.prog 220 .ret (q52_21 r)
def q52_32 (r : (List (GValue × GValue))) : QP := inBlockA 6 (q52_30 r)
def slices_symMergeCmpFunc_Pair_j12 (ij11 : Int) (ij9 : Int) (n0 : Nat) (lj12 : (List (GValue × GValue))) (r : (List (GValue × GValue))) : Prop := DL Tryd.prog 220 1 0 k52_21 (q52_32 r) [(17, aI ij11), (14, aI ij9), (0, .row 0 0 14 n0 n0)] ⟨[some (cellsOf eGPair' lj12)], [], []⟩
def q52_25 (r : (List (GValue × GValue))) : QP := tqi 0 Tryd.prog 220 k52_23 (q52_21 r)
def q52_26 (r : (List (GValue × GValue))) : QP := inBlockA 4 (q52_25 r)
def slices_symMergeCmpFunc_Pair_j10 (ij10 : Int) (ij9 : Int) (n0 : Nat) (m : Int) (cmp : GFn) (data : (List (GValue × GValue))) (r : (List (GValue × GValue))) : Prop := DL Tryd.prog 220 1 0 k52_18 (q52_26 r) [(15, aI ij10), (14, aI ij9), (0, .row 0 0 14 n0 n0), (2, aI m), (4, .clo (.func cmp.fn) cmp.fi cmp.cap)] ⟨[some (cellsOf eGPair' data)], [], []⟩
def slices_symMergeCmpFunc_Pair_j42 (a : Int) (b : Int) (m : Int) (ij26 : Int) (n0 : Nat) (cmp : GFn) (lj30 : (List (GValue × GValue))) (r : (List (GValue × GValue))) : Prop := D Tryd.prog 220 1 0 k52_38 (q52_0 r) [(24, aI (wI ((wI ((wI ((wU (wI (a + b))).fdiv (2 ^ min (1 : Int).toNat IntKind.u64.bits))) + m)) - ij26))), (18, aI (wI ((wU (wI (a + b))).fdiv (2 ^ min (1 : Int).toNat IntKind.u64.bits)))), (0, .row 0 0 14 n0 n0), (3, aI b), (4, .clo (.func cmp.fn) cmp.fi cmp.cap)] ⟨[some (cellsOf eGPair' lj30)], [], []⟩
def slices_symMergeCmpFunc_Pair_j40 (a : Int) (b : Int) (m : Int) (ij26 : Int) (n0 : Nat) (cmp : GFn) (lj29 : (List (GValue × GValue))) (r : (List (GValue × GValue))) : Prop := D Tryd.prog 220 1 0 k52_39 (q52_0 r) [(24, aI (wI ((wI ((wI ((wU (wI (a + b))).fdiv (2 ^ min (1 : Int).toNat IntKind.u64.bits))) + m)) - ij26))), (20, aI ij26), (18, aI (wI ((wU (wI (a + b))).fdiv (2 ^ min (1 : Int).toNat IntKind.u64.bits)))), (0, .row 0 0 14 n0 n0), (1, aI a), (3, aI b), (4, .clo (.func cmp.fn) cmp.fi cmp.cap)] ⟨[some (cellsOf eGPair' lj29)], [], []⟩
def q52_49 (r : (List (GValue × GValue))) : QP := tqi 0 Tryd.prog 220 k52_41 (q52_0 r)
def q52_50 (r : (List (GValue × GValue))) : QP := inBlockA 8 (q52_49 r)
def slices_symMergeCmpFunc_Pair_j36 (a : Int) (b : Int) (m : Int) (ij27 : Int) (ij26 : Int) (n0 : Nat) (cmp : GFn) (data : (List (GValue × GValue))) (r : (List (GValue × GValue))) : Prop := DL Tryd.prog 220 1 0 k52_32 (q52_50 r) [(22, aI (wI ((wI ((wI ((wU (wI (a + b))).fdiv (2 ^ min (1 : Int).toNat IntKind.u64.bits))) + m)) - 1))), (21, aI ij27), (20, aI ij26), (19, aI (wI ((wI ((wU (wI (a + b))).fdiv (2 ^ min (1 : Int).toNat IntKind.u64.bits))) + m))), (18, aI (wI ((wU (wI (a + b))).fdiv (2 ^ min (1 : Int).toNat IntKind.u64.bits)))), (0, .row 0 0 14 n0 n0), (1, aI a), (2, aI m), (3, aI b), (4, .clo (.func cmp.fn) cmp.fi cmp.cap)] ⟨[some (cellsOf eGPair' data)], [], []⟩
def slices_symMergeCmpFunc_Pair_j28 (ij21 : Int) (ij22 : Int) (a : Int) (b : Int) (m : Int) (n0 : Nat) (cmp : GFn) (data : (List (GValue × GValue))) (r : (List (GValue × GValue))) : Prop := D Tryd.prog 220 1 0 k52_43 (q52_0 r) [(21, aI ij21), (20, aI ij22), (19, aI (wI ((wI ((wU (wI (a + b))).fdiv (2 ^ min (1 : Int).toNat IntKind.u64.bits))) + m))), (18, aI (wI ((wU (wI (a + b))).fdiv (2 ^ min (1 : Int).toNat IntKind.u64.bits)))), (0, .row 0 0 14 n0 n0), (1, aI a), (2, aI m), (3, aI b), (4, .clo (.func cmp.fn) cmp.fi cmp.cap)] ⟨[some (cellsOf eGPair' data)], [], []⟩
theorem slices_symMergeCmpFunc_Pair_j6_step (ij5 : Int) (ij3 : Int) (n0 : Nat) (lj6 : (List (GValue × GValue))) (r : (List (GValue × GValue))) (hw : ((decide (ij5 < (wI (ij3 - 1)))) = true -> (0 <= (wI (ij5 + 1)) /\ (wI (ij5 + 1)) < (n0 : Int)) /\ (∃ y10, lj6[(wI (ij5 + 1)).toNat]? = some y10 /\ ((0 <= ij5 /\ ij5 < (n0 : Int)) /\ (∃ y11, lj6[ij5.toNat]? = some y11 /\ ((0 <= ij5 /\ ij5 < (n0 : Int)) /\ (ij5.toNat < lj6.length /\ ((0 <= (wI (ij5 + 1)) /\ (wI (ij5 + 1)) < (n0 : Int)) /\ ((wI (ij5 + 1)).toNat < (lj6.set ij5.toNat y10).length /\ (slices_symMergeCmpFunc_Pair_j6 (wI (ij5 + 1)) ij3 n0 ((lj6.set ij5.toNat y10).set (wI (ij5 + 1)).toNat y11) r))))))))) /\ ((decide (ij5 < (wI (ij3 - 1)))) = false -> lj6 ≠ [] /\ r = lj6)) : slices_symMergeCmpFunc_Pair_j6 ij5 ij3 n0 lj6 r := by
 refine dl_unroll (d_seqQ (ds (va 4 [(58, aB (decide (ij5 < (wI (ij3 - 1)))))] (ve (dw hw (fun _ hw => ?_) (fun _ hw => ?_))))))
 ·refine d_skip (d_seqQ (d_blockQ (dL 15 [(0, (cellsOf eGPair' lj6))] rfl (sa 1 8 [(68, aI (wI (ij5 + 1))), (66, .row 0 0 14 n0 n0), (65, aI (wI (ij5 + 1))), (63, .row 0 0 14 n0 n0), (62, aI ij5), (61, .row 0 0 14 n0 n0)] (hK := (km_L km_d)) ?_))))
  obtain ⟨h0, hw⟩ := hw
  refine sq rfl (fun _ _ => x_ridx 0 n0 n0 h0) rfl ?_
  obtain ⟨y10, hy, hw⟩ := hw
  refine sq rfl (y_rldn (sz := 14) (r := 0) (e := eGPair') (i := (wI (ij5 + 1)).toNat) (cs := (eGPair y10)) (off := (0 + (wI (ij5 + 1)).toNat * 14)) (fun _ => by rw [eGPair'_eq]; rfl) (fun _ => by rw [eGPair'_eq]; rfl) hy (eGPair'_eq _) (by omega) (List.mem_of_getElem? (i := 0) rfl)) rfl (sa 1 2 [(72, aI ij5), (71, .row 0 0 14 n0 n0)] (hK := (km_L km_d)) ?_)
  obtain ⟨h0, hw⟩ := hw
  refine sq rfl (fun _ _ => x_ridx 0 n0 n0 h0) rfl ?_
  obtain ⟨y11, hy, hw⟩ := hw
  refine sq rfl (y_rldn (sz := 14) (r := 0) (e := eGPair') (i := ij5.toNat) (cs := (eGPair y11)) (off := (0 + ij5.toNat * 14)) (fun _ => by rw [eGPair'_eq]; rfl) (fun _ => by rw [eGPair'_eq]; rfl) hy (eGPair'_eq _) (by omega) (List.mem_of_getElem? (i := 0) rfl)) rfl ?_
  obtain ⟨h0, hw⟩ := hw
  refine sq rfl (fun _ _ => x_ridx 0 n0 n0 h0) rfl (send ?_)
  obtain ⟨h0, hw⟩ := hw
  refine ⟨_, _, (x_rst (sz := 14) (r := 0) (e := eGPair') (i := ij5.toNat) (off := (0 + ij5.toNat * 14)) (l := lj6) (av := .agg (eGPair y10)) y10 (fun _ => by rw [eGPair'_eq]; rfl) (fun _ => by rw [eGPair'_eq]; rfl) h0 (eGPair'_eq _) (by omega)), ?_⟩
  obtain ⟨h0, hw⟩ := hw
  refine vo rfl (x_ridx 0 n0 n0 h0) rfl ?_
  obtain ⟨h0, hw⟩ := hw
  exact vw rfl (x_rst (sz := 14) (r := 0) (e := eGPair') (i := (wI (ij5 + 1)).toNat) (off := (0 + (wI (ij5 + 1)).toNat * 14)) (l := (lj6.set ij5.toNat y10)) (av := .agg (eGPair y11)) y11 (fun _ => by rw [eGPair'_eq]; rfl) (fun _ => by rw [eGPair'_eq]; rfl) h0 (eGPair'_eq _) (by omega)) (ve (dr (va 3 [(13, aI (wI (ij5 + 1)))] (ve (jl0 hw)))))
 exact d_exit (d_ret (rior rowE_GPair hw))
theorem slices_symMergeCmpFunc_Pair_j4_step (ij4 : Int) (ij3 : Int) (n0 : Nat) (a : Int) (cmp : GFn) (data : (List (GValue × GValue))) (r : (List (GValue × GValue))) (hw : ((decide (ij3 < ij4)) = true -> (0 <= (wI ((wU (wI (ij3 + ij4))).fdiv (2 ^ min (1 : Int).toNat IntKind.u64.bits))) /\ (wI ((wU (wI (ij3 + ij4))).fdiv (2 ^ min (1 : Int).toNat IntKind.u64.bits))) < (n0 : Int)) /\ (∃ y12, data[(wI ((wU (wI (ij3 + ij4))).fdiv (2 ^ min (1 : Int).toNat IntKind.u64.bits))).toNat]? = some y12 /\ ((0 <= a /\ a < (n0 : Int)) /\ (∃ y13, data[a.toNat]? = some y13 /\ (∃ y14, FCall Tryd.prog [] (.clo (.func cmp.fn) cmp.fi cmp.cap) [.agg (eGPair y12), .agg (eGPair y13)] (aI y14) /\ (((decide (y14 < 0)) = true -> slices_symMergeCmpFunc_Pair_j4 ij4 (wI ((wI ((wU (wI (ij3 + ij4))).fdiv (2 ^ min (1 : Int).toNat IntKind.u64.bits))) + 1)) n0 a cmp data r) /\ ((decide (y14 < 0)) = false -> slices_symMergeCmpFunc_Pair_j4 (wI ((wU (wI (ij3 + ij4))).fdiv (2 ^ min (1 : Int).toNat IntKind.u64.bits))) ij3 n0 a cmp data r))))))) /\ ((decide (ij3 < ij4)) = false -> slices_symMergeCmpFunc_Pair_j6 a ij3 n0 data r)) : slices_symMergeCmpFunc_Pair_j4 ij4 ij3 n0 a cmp data r := by
 refine dl_unroll (d_seqQ (ds (va 3 [(33, aB (decide (ij3 < ij4)))] (ve (dw hw (fun _ hw => ?_) (fun _ hw => ?_))))))
 ·refine d_skip (d_blockQ (ds (va 7 [(12, aI (wI ((wU (wI (ij3 + ij4))).fdiv (2 ^ min (1 : Int).toNat IntKind.u64.bits))))] (ve (d_seqQ (dS [(0, (cellsOf eGPair' data))] (sa 1 3 [(42, aI (wI ((wU (wI (ij3 + ij4))).fdiv (2 ^ min (1 : Int).toNat IntKind.u64.bits)))), (41, .row 0 0 14 n0 n0), (40, .clo (.func cmp.fn) cmp.fi cmp.cap)] ?_)))))))
  obtain ⟨h0, hw⟩ := hw
  refine sq rfl (fun _ _ => x_ridx 0 n0 n0 h0) rfl ?_
  obtain ⟨y12, hy, hw⟩ := hw
  refine sq rfl (y_rldn (sz := 14) (r := 0) (e := eGPair') (i := (wI ((wU (wI (ij3 + ij4))).fdiv (2 ^ min (1 : Int).toNat IntKind.u64.bits))).toNat) (cs := (eGPair y12)) (off := (0 + (wI ((wU (wI (ij3 + ij4))).fdiv (2 ^ min (1 : Int).toNat IntKind.u64.bits))).toNat * 14)) (fun _ => by rw [eGPair'_eq]; rfl) (fun _ => by rw [eGPair'_eq]; rfl) hy (eGPair'_eq _) (by omega) (List.mem_of_getElem? (i := 0) rfl)) rfl (sa 1 2 [(46, aI a), (45, .row 0 0 14 n0 n0)] ?_)
  obtain ⟨h0, hw⟩ := hw
  refine sq rfl (fun _ _ => x_ridx 0 n0 n0 h0) rfl ?_
  obtain ⟨y13, hy, hw⟩ := hw
  refine sq rfl (y_rldn (sz := 14) (r := 0) (e := eGPair') (i := a.toNat) (cs := (eGPair y13)) (off := (0 + a.toNat * 14)) (fun _ => by rw [eGPair'_eq]; rfl) (fun _ => by rw [eGPair'_eq]; rfl) hy (eGPair'_eq _) (by omega) (List.mem_of_getElem? (i := 0) rfl)) rfl ?_
  obtain ⟨y14, hy, hw⟩ := hw
  refine sq rfl (y_fcall hy) rfl (sa 1 1 [(50, aB (decide (y14 < 0)))] (send (vp_start' (ve (dw hw (fun _ hw => ?_) (fun _ hw => ?_))))))
  ·exact dr (va 3 [(10, aI (wI ((wI ((wU (wI (ij3 + ij4))).fdiv (2 ^ min (1 : Int).toNat IntKind.u64.bits))) + 1)))] (ve (jl0 hw)))
  exact dr (va 2 [(11, aI (wI ((wU (wI (ij3 + ij4))).fdiv (2 ^ min (1 : Int).toNat IntKind.u64.bits))))] (ve (jl0 hw)))
 exact d_exit (d_seqQ (ds (va 2 [(13, aI a)] (ve (d_blockQ (d_loopQ (jl0 hw)))))))
theorem slices_symMergeCmpFunc_Pair_j12_step (ij11 : Int) (ij9 : Int) (n0 : Nat) (lj12 : (List (GValue × GValue))) (r : (List (GValue × GValue))) (hw : ((decide (ij9 < ij11)) = true -> (0 <= (wI (ij11 - 1)) /\ (wI (ij11 - 1)) < (n0 : Int)) /\ (∃ y24, lj12[(wI (ij11 - 1)).toNat]? = some y24 /\ ((0 <= ij11 /\ ij11 < (n0 : Int)) /\ (∃ y25, lj12[ij11.toNat]? = some y25 /\ ((0 <= ij11 /\ ij11 < (n0 : Int)) /\ (ij11.toNat < lj12.length /\ ((0 <= (wI (ij11 - 1)) /\ (wI (ij11 - 1)) < (n0 : Int)) /\ ((wI (ij11 - 1)).toNat < (lj12.set ij11.toNat y24).length /\ (slices_symMergeCmpFunc_Pair_j12 (wI (ij11 - 1)) ij9 n0 ((lj12.set ij11.toNat y24).set (wI (ij11 - 1)).toNat y25) r))))))))) /\ ((decide (ij9 < ij11)) = false -> lj12 ≠ [] /\ r = lj12)) : slices_symMergeCmpFunc_Pair_j12 ij11 ij9 n0 lj12 r := by
 refine dl_unroll (d_seqQ (ds (va 3 [(110, aB (decide (ij9 < ij11)))] (ve (dw hw (fun _ hw => ?_) (fun _ hw => ?_))))))
 ·refine d_skip (d_seqQ (d_blockQ (dL 15 [(0, (cellsOf eGPair' lj12))] rfl (sa 1 8 [(120, aI (wI (ij11 - 1))), (118, .row 0 0 14 n0 n0), (117, aI (wI (ij11 - 1))), (115, .row 0 0 14 n0 n0), (114, aI ij11), (113, .row 0 0 14 n0 n0)] (hK := (km_L km_d)) ?_))))
  obtain ⟨h0, hw⟩ := hw
  refine sq rfl (fun _ _ => x_ridx 0 n0 n0 h0) rfl ?_
  obtain ⟨y24, hy, hw⟩ := hw
  refine sq rfl (y_rldn (sz := 14) (r := 0) (e := eGPair') (i := (wI (ij11 - 1)).toNat) (cs := (eGPair y24)) (off := (0 + (wI (ij11 - 1)).toNat * 14)) (fun _ => by rw [eGPair'_eq]; rfl) (fun _ => by rw [eGPair'_eq]; rfl) hy (eGPair'_eq _) (by omega) (List.mem_of_getElem? (i := 0) rfl)) rfl (sa 1 2 [(124, aI ij11), (123, .row 0 0 14 n0 n0)] (hK := (km_L km_d)) ?_)
  obtain ⟨h0, hw⟩ := hw
  refine sq rfl (fun _ _ => x_ridx 0 n0 n0 h0) rfl ?_
  obtain ⟨y25, hy, hw⟩ := hw
  refine sq rfl (y_rldn (sz := 14) (r := 0) (e := eGPair') (i := ij11.toNat) (cs := (eGPair y25)) (off := (0 + ij11.toNat * 14)) (fun _ => by rw [eGPair'_eq]; rfl) (fun _ => by rw [eGPair'_eq]; rfl) hy (eGPair'_eq _) (by omega) (List.mem_of_getElem? (i := 0) rfl)) rfl ?_
  obtain ⟨h0, hw⟩ := hw
  refine sq rfl (fun _ _ => x_ridx 0 n0 n0 h0) rfl (send ?_)
  obtain ⟨h0, hw⟩ := hw
  refine ⟨_, _, (x_rst (sz := 14) (r := 0) (e := eGPair') (i := ij11.toNat) (off := (0 + ij11.toNat * 14)) (l := lj12) (av := .agg (eGPair y24)) y24 (fun _ => by rw [eGPair'_eq]; rfl) (fun _ => by rw [eGPair'_eq]; rfl) h0 (eGPair'_eq _) (by omega)), ?_⟩
  obtain ⟨h0, hw⟩ := hw
  refine vo rfl (x_ridx 0 n0 n0 h0) rfl ?_
  obtain ⟨h0, hw⟩ := hw
  exact vw rfl (x_rst (sz := 14) (r := 0) (e := eGPair') (i := (wI (ij11 - 1)).toNat) (off := (0 + (wI (ij11 - 1)).toNat * 14)) (l := (lj12.set ij11.toNat y24)) (av := .agg (eGPair y25)) y25 (fun _ => by rw [eGPair'_eq]; rfl) (fun _ => by rw [eGPair'_eq]; rfl) h0 (eGPair'_eq _) (by omega)) (ve (dr (va 3 [(17, aI (wI (ij11 - 1)))] (ve (jl0 hw)))))
 exact d_exit (d_ret (rior rowE_GPair hw))
theorem slices_symMergeCmpFunc_Pair_j10_step (ij10 : Int) (ij9 : Int) (n0 : Nat) (m : Int) (cmp : GFn) (data : (List (GValue × GValue))) (r : (List (GValue × GValue))) (hw : ((decide (ij9 < ij10)) = true -> (0 <= m /\ m < (n0 : Int)) /\ (∃ y26, data[m.toNat]? = some y26 /\ ((0 <= (wI ((wU (wI (ij9 + ij10))).fdiv (2 ^ min (1 : Int).toNat IntKind.u64.bits))) /\ (wI ((wU (wI (ij9 + ij10))).fdiv (2 ^ min (1 : Int).toNat IntKind.u64.bits))) < (n0 : Int)) /\ (∃ y27, data[(wI ((wU (wI (ij9 + ij10))).fdiv (2 ^ min (1 : Int).toNat IntKind.u64.bits))).toNat]? = some y27 /\ (∃ y28, FCall Tryd.prog [] (.clo (.func cmp.fn) cmp.fi cmp.cap) [.agg (eGPair y26), .agg (eGPair y27)] (aI y28) /\ (((!(decide (y28 < 0))) = true -> slices_symMergeCmpFunc_Pair_j10 ij10 (wI ((wI ((wU (wI (ij9 + ij10))).fdiv (2 ^ min (1 : Int).toNat IntKind.u64.bits))) + 1)) n0 m cmp data r) /\ ((!(decide (y28 < 0))) = false -> slices_symMergeCmpFunc_Pair_j10 (wI ((wU (wI (ij9 + ij10))).fdiv (2 ^ min (1 : Int).toNat IntKind.u64.bits))) ij9 n0 m cmp data r))))))) /\ ((decide (ij9 < ij10)) = false -> slices_symMergeCmpFunc_Pair_j12 m ij9 n0 data r)) : slices_symMergeCmpFunc_Pair_j10 ij10 ij9 n0 m cmp data r := by
 refine dl_unroll (d_seqQ (ds (va 3 [(85, aB (decide (ij9 < ij10)))] (ve (dw hw (fun _ hw => ?_) (fun _ hw => ?_))))))
 ·refine d_skip (d_blockQ (ds (va 7 [(16, aI (wI ((wU (wI (ij9 + ij10))).fdiv (2 ^ min (1 : Int).toNat IntKind.u64.bits))))] (ve (d_seqQ (dS [(0, (cellsOf eGPair' data))] (sa 1 3 [(94, aI m), (93, .row 0 0 14 n0 n0), (92, .clo (.func cmp.fn) cmp.fi cmp.cap)] ?_)))))))
  obtain ⟨h0, hw⟩ := hw
  refine sq rfl (fun _ _ => x_ridx 0 n0 n0 h0) rfl ?_
  obtain ⟨y26, hy, hw⟩ := hw
  refine sq rfl (y_rldn (sz := 14) (r := 0) (e := eGPair') (i := m.toNat) (cs := (eGPair y26)) (off := (0 + m.toNat * 14)) (fun _ => by rw [eGPair'_eq]; rfl) (fun _ => by rw [eGPair'_eq]; rfl) hy (eGPair'_eq _) (by omega) (List.mem_of_getElem? (i := 0) rfl)) rfl (sa 1 2 [(98, aI (wI ((wU (wI (ij9 + ij10))).fdiv (2 ^ min (1 : Int).toNat IntKind.u64.bits)))), (97, .row 0 0 14 n0 n0)] ?_)
  obtain ⟨h0, hw⟩ := hw
  refine sq rfl (fun _ _ => x_ridx 0 n0 n0 h0) rfl ?_
  obtain ⟨y27, hy, hw⟩ := hw
  refine sq rfl (y_rldn (sz := 14) (r := 0) (e := eGPair') (i := (wI ((wU (wI (ij9 + ij10))).fdiv (2 ^ min (1 : Int).toNat IntKind.u64.bits))).toNat) (cs := (eGPair y27)) (off := (0 + (wI ((wU (wI (ij9 + ij10))).fdiv (2 ^ min (1 : Int).toNat IntKind.u64.bits))).toNat * 14)) (fun _ => by rw [eGPair'_eq]; rfl) (fun _ => by rw [eGPair'_eq]; rfl) hy (eGPair'_eq _) (by omega) (List.mem_of_getElem? (i := 0) rfl)) rfl ?_
  obtain ⟨y28, hy, hw⟩ := hw
  refine sq rfl (y_fcall hy) rfl (sa 1 2 [(103, aB (!(decide (y28 < 0))))] (send (vp_start' (ve (dw hw (fun _ hw => ?_) (fun _ hw => ?_))))))
  ·exact dr (va 3 [(14, aI (wI ((wI ((wU (wI (ij9 + ij10))).fdiv (2 ^ min (1 : Int).toNat IntKind.u64.bits))) + 1)))] (ve (jl0 hw)))
  exact dr (va 2 [(15, aI (wI ((wU (wI (ij9 + ij10))).fdiv (2 ^ min (1 : Int).toNat IntKind.u64.bits))))] (ve (jl0 hw)))
 exact d_exit (d_seqQ (ds (va 2 [(17, aI m)] (ve (d_blockQ (d_loopQ (jl0 hw)))))))
theorem slices_symMergeCmpFunc_Pair_j42_step (a : Int) (b : Int) (m : Int) (ij26 : Int) (n0 : Nat) (cmp : GFn) (lj30 : (List (GValue × GValue))) (r : (List (GValue × GValue))) (hw : (((decide ((wI ((wU (wI (a + b))).fdiv (2 ^ min (1 : Int).toNat IntKind.u64.bits))) < (wI ((wI ((wI ((wU (wI (a + b))).fdiv (2 ^ min (1 : Int).toNat IntKind.u64.bits))) + m)) - ij26)))) && (decide ((wI ((wI ((wI ((wU (wI (a + b))).fdiv (2 ^ min (1 : Int).toNat IntKind.u64.bits))) + m)) - ij26)) < b))) = true -> ∃ y65, slices_symMergeCmpFunc_Pair n0 lj30 (wI ((wU (wI (a + b))).fdiv (2 ^ min (1 : Int).toNat IntKind.u64.bits))) (wI ((wI ((wI ((wU (wI (a + b))).fdiv (2 ^ min (1 : Int).toNat IntKind.u64.bits))) + m)) - ij26)) b cmp y65 /\ (lj30 ≠ [] /\ y65 ≠ []) /\ (y65 ≠ [] /\ r = y65)) /\ (((decide ((wI ((wU (wI (a + b))).fdiv (2 ^ min (1 : Int).toNat IntKind.u64.bits))) < (wI ((wI ((wI ((wU (wI (a + b))).fdiv (2 ^ min (1 : Int).toNat IntKind.u64.bits))) + m)) - ij26)))) && (decide ((wI ((wI ((wI ((wU (wI (a + b))).fdiv (2 ^ min (1 : Int).toNat IntKind.u64.bits))) + m)) - ij26)) < b))) = false -> lj30 ≠ [] /\ r = lj30)) : slices_symMergeCmpFunc_Pair_j42 a b m ij26 n0 cmp lj30 r := by
 show D _ _ _ _ _ _ _ _
 refine ds (va 4 [(209, aB (decide ((wI ((wU (wI (a + b))).fdiv (2 ^ min (1 : Int).toNat IntKind.u64.bits))) < (wI ((wI ((wI ((wU (wI (a + b))).fdiv (2 ^ min (1 : Int).toNat IntKind.u64.bits))) + m)) - ij26)))))] (vj 209 213 8 (decide ((wI ((wU (wI (a + b))).fdiv (2 ^ min (1 : Int).toNat IntKind.u64.bits))) < (wI ((wI ((wI ((wU (wI (a + b))).fdiv (2 ^ min (1 : Int).toNat IntKind.u64.bits))) + m)) - ij26)))) (fun z => aB (z && (decide ((wI ((wI ((wI ((wU (wI (a + b))).fdiv (2 ^ min (1 : Int).toNat IntKind.u64.bits))) + m)) - ij26)) < b)))) km_d (fun _ key => ?_) (fun _ key => ?_) ?_))
 ·exact va 3 [(212, aB (decide ((wI ((wI ((wI ((wU (wI (a + b))).fdiv (2 ^ min (1 : Int).toNat IntKind.u64.bits))) + m)) - ij26)) < b)))] (va 1 [(213, aB (decide ((wI ((wI ((wI ((wU (wI (a + b))).fdiv (2 ^ min (1 : Int).toNat IntKind.u64.bits))) + m)) - ij26)) < b)))] (vle km_d key))
 ·exact va 3 [(212, .tuple [])] (va 1 [(213, aB false)] (vle km_d key))
 refine ve (dw hw (fun _ hw => ?_) (fun _ hw => ?_))
 ·refine dr (va 5 [(218, .clo (.func cmp.fn) cmp.fi cmp.cap), (217, aI b), (216, aI (wI ((wI ((wI ((wU (wI (a + b))).fdiv (2 ^ min (1 : Int).toNat IntKind.u64.bits))) + m)) - ij26))), (215, aI (wI ((wU (wI (a + b))).fdiv (2 ^ min (1 : Int).toNat IntKind.u64.bits)))), (214, .row 0 0 14 n0 n0)] (hK := km_io) ?_)
  obtain ⟨y65, hy, h0, hw⟩ := hw
  exact vo rfl (x_rio 0 [.row 0 0 14 n0 n0, aI (wI ((wU (wI (a + b))).fdiv (2 ^ min (1 : Int).toNat IntKind.u64.bits))), aI (wI ((wI ((wI ((wU (wI (a + b))).fdiv (2 ^ min (1 : Int).toNat IntKind.u64.bits))) + m)) - ij26)), aI b, .clo (.func cmp.fn) cmp.fi cmp.cap] rowE_GPair hy h0 pio52) rfl (ve (riorn rowE_GPair hw))
 exact d_skip (riorn rowE_GPair hw)
theorem slices_symMergeCmpFunc_Pair_j40_step (a : Int) (b : Int) (m : Int) (ij26 : Int) (n0 : Nat) (cmp : GFn) (lj29 : (List (GValue × GValue))) (r : (List (GValue × GValue))) (hw : (((decide (a < ij26)) && (decide (ij26 < (wI ((wU (wI (a + b))).fdiv (2 ^ min (1 : Int).toNat IntKind.u64.bits)))))) = true -> ∃ y63, slices_symMergeCmpFunc_Pair n0 lj29 a ij26 (wI ((wU (wI (a + b))).fdiv (2 ^ min (1 : Int).toNat IntKind.u64.bits))) cmp y63 /\ (lj29 ≠ [] /\ y63 ≠ []) /\ (slices_symMergeCmpFunc_Pair_j42 a b m ij26 n0 cmp y63 r)) /\ (((decide (a < ij26)) && (decide (ij26 < (wI ((wU (wI (a + b))).fdiv (2 ^ min (1 : Int).toNat IntKind.u64.bits)))))) = false -> slices_symMergeCmpFunc_Pair_j42 a b m ij26 n0 cmp lj29 r)) : slices_symMergeCmpFunc_Pair_j40 a b m ij26 n0 cmp lj29 r := by
 show D _ _ _ _ _ _ _ _
 refine d_seqQ (ds (va 4 [(195, aB (decide (a < ij26)))] (vj 195 199 8 (decide (a < ij26)) (fun z => aB (z && (decide (ij26 < (wI ((wU (wI (a + b))).fdiv (2 ^ min (1 : Int).toNat IntKind.u64.bits))))))) km_d (fun _ key => ?_) (fun _ key => ?_) ?_)))
 ·exact va 3 [(198, aB (decide (ij26 < (wI ((wU (wI (a + b))).fdiv (2 ^ min (1 : Int).toNat IntKind.u64.bits))))))] (va 1 [(199, aB (decide (ij26 < (wI ((wU (wI (a + b))).fdiv (2 ^ min (1 : Int).toNat IntKind.u64.bits))))))] (vle km_d key))
 ·exact va 3 [(198, .tuple [])] (va 1 [(199, aB false)] (vle km_d key))
 refine ve (dw hw (fun _ hw => ?_) (fun _ hw => ?_))
 ·refine dr (va 5 [(204, .clo (.func cmp.fn) cmp.fi cmp.cap), (203, aI (wI ((wU (wI (a + b))).fdiv (2 ^ min (1 : Int).toNat IntKind.u64.bits)))), (202, aI ij26), (201, aI a), (200, .row 0 0 14 n0 n0)] ?_)
  obtain ⟨y63, hy, h0, hw⟩ := hw
  exact vo rfl (x_rio 0 [.row 0 0 14 n0 n0, aI a, aI ij26, aI (wI ((wU (wI (a + b))).fdiv (2 ^ min (1 : Int).toNat IntKind.u64.bits))), .clo (.func cmp.fn) cmp.fi cmp.cap] rowE_GPair hy h0 pio52) rfl (ve (jd0 hw))
 exact d_skip (jd0 hw)
theorem slices_symMergeCmpFunc_Pair_j36_step (a : Int) (b : Int) (m : Int) (ij27 : Int) (ij26 : Int) (n0 : Nat) (cmp : GFn) (data : (List (GValue × GValue))) (r : (List (GValue × GValue))) (hw : ((decide (ij26 < ij27)) = true -> (0 <= (wI ((wI ((wI ((wI ((wU (wI (a + b))).fdiv (2 ^ min (1 : Int).toNat IntKind.u64.bits))) + m)) - 1)) - (wI ((wU (wI (ij26 + ij27))).fdiv (2 ^ min (1 : Int).toNat IntKind.u64.bits))))) /\ (wI ((wI ((wI ((wI ((wU (wI (a + b))).fdiv (2 ^ min (1 : Int).toNat IntKind.u64.bits))) + m)) - 1)) - (wI ((wU (wI (ij26 + ij27))).fdiv (2 ^ min (1 : Int).toNat IntKind.u64.bits))))) < (n0 : Int)) /\ (∃ y66, data[(wI ((wI ((wI ((wI ((wU (wI (a + b))).fdiv (2 ^ min (1 : Int).toNat IntKind.u64.bits))) + m)) - 1)) - (wI ((wU (wI (ij26 + ij27))).fdiv (2 ^ min (1 : Int).toNat IntKind.u64.bits))))).toNat]? = some y66 /\ ((0 <= (wI ((wU (wI (ij26 + ij27))).fdiv (2 ^ min (1 : Int).toNat IntKind.u64.bits))) /\ (wI ((wU (wI (ij26 + ij27))).fdiv (2 ^ min (1 : Int).toNat IntKind.u64.bits))) < (n0 : Int)) /\ (∃ y67, data[(wI ((wU (wI (ij26 + ij27))).fdiv (2 ^ min (1 : Int).toNat IntKind.u64.bits))).toNat]? = some y67 /\ (∃ y68, FCall Tryd.prog [] (.clo (.func cmp.fn) cmp.fi cmp.cap) [.agg (eGPair y66), .agg (eGPair y67)] (aI y68) /\ (((!(decide (y68 < 0))) = true -> slices_symMergeCmpFunc_Pair_j36 a b m ij27 (wI ((wI ((wU (wI (ij26 + ij27))).fdiv (2 ^ min (1 : Int).toNat IntKind.u64.bits))) + 1)) n0 cmp data r) /\ ((!(decide (y68 < 0))) = false -> slices_symMergeCmpFunc_Pair_j36 a b m (wI ((wU (wI (ij26 + ij27))).fdiv (2 ^ min (1 : Int).toNat IntKind.u64.bits))) ij26 n0 cmp data r))))))) /\ ((decide (ij26 < ij27)) = false -> (((decide (ij26 < m)) && (decide (m < (wI ((wI ((wI ((wU (wI (a + b))).fdiv (2 ^ min (1 : Int).toNat IntKind.u64.bits))) + m)) - ij26))))) = true -> ∃ y59, slices_rotateCmpFunc_Pair n0 data ij26 m (wI ((wI ((wI ((wU (wI (a + b))).fdiv (2 ^ min (1 : Int).toNat IntKind.u64.bits))) + m)) - ij26)) cmp y59 /\ (data ≠ [] /\ y59 ≠ []) /\ (slices_symMergeCmpFunc_Pair_j40 a b m ij26 n0 cmp y59 r)) /\ (((decide (ij26 < m)) && (decide (m < (wI ((wI ((wI ((wU (wI (a + b))).fdiv (2 ^ min (1 : Int).toNat IntKind.u64.bits))) + m)) - ij26))))) = false -> slices_symMergeCmpFunc_Pair_j40 a b m ij26 n0 cmp data r))) : slices_symMergeCmpFunc_Pair_j36 a b m ij27 ij26 n0 cmp data r := by
 refine dl_unroll (d_seqQ (ds (va 3 [(151, aB (decide (ij26 < ij27)))] (ve (dw hw (fun _ hw => ?_) (fun _ hw => ?_))))))
 ·refine d_skip (d_blockQ (ds (va 7 [(23, aI (wI ((wU (wI (ij26 + ij27))).fdiv (2 ^ min (1 : Int).toNat IntKind.u64.bits))))] (ve (d_seqQ (dS [(0, (cellsOf eGPair' data))] (sa 1 5 [(162, aI (wI ((wI ((wI ((wI ((wU (wI (a + b))).fdiv (2 ^ min (1 : Int).toNat IntKind.u64.bits))) + m)) - 1)) - (wI ((wU (wI (ij26 + ij27))).fdiv (2 ^ min (1 : Int).toNat IntKind.u64.bits)))))), (159, .row 0 0 14 n0 n0), (158, .clo (.func cmp.fn) cmp.fi cmp.cap)] ?_)))))))
  obtain ⟨h0, hw⟩ := hw
  refine sq rfl (fun _ _ => x_ridx 0 n0 n0 h0) rfl ?_
  obtain ⟨y66, hy, hw⟩ := hw
  refine sq rfl (y_rldn (sz := 14) (r := 0) (e := eGPair') (i := (wI ((wI ((wI ((wI ((wU (wI (a + b))).fdiv (2 ^ min (1 : Int).toNat IntKind.u64.bits))) + m)) - 1)) - (wI ((wU (wI (ij26 + ij27))).fdiv (2 ^ min (1 : Int).toNat IntKind.u64.bits))))).toNat) (cs := (eGPair y66)) (off := (0 + (wI ((wI ((wI ((wI ((wU (wI (a + b))).fdiv (2 ^ min (1 : Int).toNat IntKind.u64.bits))) + m)) - 1)) - (wI ((wU (wI (ij26 + ij27))).fdiv (2 ^ min (1 : Int).toNat IntKind.u64.bits))))).toNat * 14)) (fun _ => by rw [eGPair'_eq]; rfl) (fun _ => by rw [eGPair'_eq]; rfl) hy (eGPair'_eq _) (by omega) (List.mem_of_getElem? (i := 0) rfl)) rfl (sa 1 2 [(166, aI (wI ((wU (wI (ij26 + ij27))).fdiv (2 ^ min (1 : Int).toNat IntKind.u64.bits)))), (165, .row 0 0 14 n0 n0)] ?_)
  obtain ⟨h0, hw⟩ := hw
  refine sq rfl (fun _ _ => x_ridx 0 n0 n0 h0) rfl ?_
  obtain ⟨y67, hy, hw⟩ := hw
  refine sq rfl (y_rldn (sz := 14) (r := 0) (e := eGPair') (i := (wI ((wU (wI (ij26 + ij27))).fdiv (2 ^ min (1 : Int).toNat IntKind.u64.bits))).toNat) (cs := (eGPair y67)) (off := (0 + (wI ((wU (wI (ij26 + ij27))).fdiv (2 ^ min (1 : Int).toNat IntKind.u64.bits))).toNat * 14)) (fun _ => by rw [eGPair'_eq]; rfl) (fun _ => by rw [eGPair'_eq]; rfl) hy (eGPair'_eq _) (by omega) (List.mem_of_getElem? (i := 0) rfl)) rfl ?_
  obtain ⟨y68, hy, hw⟩ := hw
  refine sq rfl (y_fcall hy) rfl (sa 1 2 [(171, aB (!(decide (y68 < 0))))] (send (vp_start' (ve (dw hw (fun _ hw => ?_) (fun _ hw => ?_))))))
  ·exact dr (va 3 [(20, aI (wI ((wI ((wU (wI (ij26 + ij27))).fdiv (2 ^ min (1 : Int).toNat IntKind.u64.bits))) + 1)))] (ve (jl0 hw)))
  exact dr (va 2 [(21, aI (wI ((wU (wI (ij26 + ij27))).fdiv (2 ^ min (1 : Int).toNat IntKind.u64.bits))))] (ve (jl0 hw)))
 refine d_exit (ds (va 4 [(24, aI (wI ((wI ((wI ((wU (wI (a + b))).fdiv (2 ^ min (1 : Int).toNat IntKind.u64.bits))) + m)) - ij26)))] (ve (d_seqQ (ds (va 4 [(181, aB (decide (ij26 < m)))] (vj 181 185 8 (decide (ij26 < m)) (fun z => aB (z && (decide (m < (wI ((wI ((wI ((wU (wI (a + b))).fdiv (2 ^ min (1 : Int).toNat IntKind.u64.bits))) + m)) - ij26)))))) km_d (fun _ key => ?_) (fun _ key => ?_) ?_)))))))
 ·exact va 3 [(184, aB (decide (m < (wI ((wI ((wI ((wU (wI (a + b))).fdiv (2 ^ min (1 : Int).toNat IntKind.u64.bits))) + m)) - ij26)))))] (va 1 [(185, aB (decide (m < (wI ((wI ((wI ((wU (wI (a + b))).fdiv (2 ^ min (1 : Int).toNat IntKind.u64.bits))) + m)) - ij26)))))] (vle km_d key))
 ·exact va 3 [(184, .tuple [])] (va 1 [(185, aB false)] (vle km_d key))
 refine ve (dw hw (fun _ hw => ?_) (fun _ hw => ?_))
 ·refine dr (va 5 [(190, .clo (.func cmp.fn) cmp.fi cmp.cap), (189, aI (wI ((wI ((wI ((wU (wI (a + b))).fdiv (2 ^ min (1 : Int).toNat IntKind.u64.bits))) + m)) - ij26))), (188, aI m), (187, aI ij26), (186, .row 0 0 14 n0 n0)] ?_)
  obtain ⟨y59, hy, h0, hw⟩ := hw
  exact vo rfl (x_rio 0 [.row 0 0 14 n0 n0, aI ij26, aI m, aI (wI ((wI ((wI ((wU (wI (a + b))).fdiv (2 ^ min (1 : Int).toNat IntKind.u64.bits))) + m)) - ij26)), .clo (.func cmp.fn) cmp.fi cmp.cap] rowE_GPair hy h0 pio67) rfl (ve (jd0 hw))
 exact d_skip (jd0 hw)
theorem slices_symMergeCmpFunc_Pair_j28_step (ij21 : Int) (ij22 : Int) (a : Int) (b : Int) (m : Int) (n0 : Nat) (cmp : GFn) (data : (List (GValue × GValue))) (r : (List (GValue × GValue))) (hw : slices_symMergeCmpFunc_Pair_j36 a b m ij21 ij22 n0 cmp data r) : slices_symMergeCmpFunc_Pair_j28 ij21 ij22 a b m n0 cmp data r := by
 show D _ _ _ _ _ _ _ _
 exact ds (va 3 [(22, aI (wI ((wI ((wI ((wU (wI (a + b))).fdiv (2 ^ min (1 : Int).toNat IntKind.u64.bits))) + m)) - 1)))] (ve (d_seqQ (d_blockQ (d_loopQ (jl0 hw))))))
theorem slices_symMergeCmpFunc_Pair_step (n0 : Nat) (data : (List (GValue × GValue))) (a : Int) (m : Int) (b : Int) (cmp : GFn) (r : (List (GValue × GValue))) (hw : (((wI (m - a)) == 1) = true -> slices_symMergeCmpFunc_Pair_j4 b m n0 a cmp data r) /\ (((wI (m - a)) == 1) = false -> (((wI (b - m)) == 1) = true -> slices_symMergeCmpFunc_Pair_j10 m a n0 m cmp data r) /\ (((wI (b - m)) == 1) = false -> ((decide ((wI ((wU (wI (a + b))).fdiv (2 ^ min (1 : Int).toNat IntKind.u64.bits))) < m)) = true -> slices_symMergeCmpFunc_Pair_j28 (wI ((wU (wI (a + b))).fdiv (2 ^ min (1 : Int).toNat IntKind.u64.bits))) (wI ((wI ((wI ((wU (wI (a + b))).fdiv (2 ^ min (1 : Int).toNat IntKind.u64.bits))) + m)) - b)) a b m n0 cmp data r) /\ ((decide ((wI ((wU (wI (a + b))).fdiv (2 ^ min (1 : Int).toNat IntKind.u64.bits))) < m)) = false -> slices_symMergeCmpFunc_Pair_j28 m a a b m n0 cmp data r)))) : slices_symMergeCmpFunc_Pair n0 data a m b cmp r := by
 refine f_rio fn52 nle rfl (d_seqQ (ds (va 4 [(28, aB ((wI (m - a)) == 1))] (ve (dw hw (fun _ hw => ?_) (fun _ hw => ?_))))))
 ·exact ds (va 2 [(10, aI m)] (ve (ds (va 2 [(11, aI b)] (ve (d_seqQ (d_blockQ (d_loopQ (jl0 hw)))))))))
 refine d_skip (d_seqQ (ds (va 4 [(80, aB ((wI (b - m)) == 1))] (ve (dw hw (fun _ hw => ?_) (fun _ hw => ?_))))))
 ·exact ds (va 2 [(14, aI a)] (ve (ds (va 2 [(15, aI m)] (ve (d_seqQ (d_blockQ (d_loopQ (jl0 hw)))))))))
 refine d_skip (ds (va 7 [(18, aI (wI ((wU (wI (a + b))).fdiv (2 ^ min (1 : Int).toNat IntKind.u64.bits))))] (ve (ds (va 4 [(19, aI (wI ((wI ((wU (wI (a + b))).fdiv (2 ^ min (1 : Int).toNat IntKind.u64.bits))) + m)))] (ve (ds (va 2 [] (ve (d_seqQ (ds (va 3 [(140, aB (decide ((wI ((wU (wI (a + b))).fdiv (2 ^ min (1 : Int).toNat IntKind.u64.bits))) < m)))] (ve (dw hw (fun _ hw => ?_) (fun _ hw => ?_)))))))))))))))
 ·exact ds (va 4 [(20, aI (wI ((wI ((wI ((wU (wI (a + b))).fdiv (2 ^ min (1 : Int).toNat IntKind.u64.bits))) + m)) - b)))] (ve (dr (va 2 [(21, aI (wI ((wU (wI (a + b))).fdiv (2 ^ min (1 : Int).toNat IntKind.u64.bits))))] (ve (jd0 hw))))))
 exact ds (va 2 [(20, aI a)] (ve (dr (va 2 [(21, aI m)] (ve (jd0 hw))))))
theorem plr53 (r : Bool) : plain (e53 r) = true := rfl
def r53_0 : LO := [o 2 (mb false)]
def r53_1 : LO := [o 3 (mv 0), o 4 (mv 0), o 5 (.bin .neq (T 3) (T 4)), o 2 (mv 5)]
def k53_1 : ACode := .seq (.region r53_1) .ret
def k53_2 : ACode := .seq (.region r53_0) k53_1
theorem fn53 : getFn Tryd.prog 53 = some (6, k53_2, [.tmp 2]) := by kernel_rfl
theorem cmp_isNaN_string_step (x : ByteArray) (r : Bool) (hw : r = (!(decide (x = x)))) : cmp_isNaN_string x r := by
 exact f_pureD fn53 nle rfl (ds (va 1 [] (ve (ds (va 2 [(4, aS x), (3, aS x)] (vo rfl (x_neS x x) rfl (va 1 [(2, aB (!(decide (x = x))))] (ve (d_ret (rx hw (plr53 _)))))))))))
theorem plr54 (r : Bool) : plain (e54 r) = true := rfl
def r54_0 : LO := [o 2 (mb false)]
def r54_1 : LO := [o 3 (mv 0), o 4 (mv 0), o 5 (.bin .neq (T 3) (T 4)), o 2 (mv 5)]
def k54_1 : ACode := .seq (.region r54_1) .ret
def k54_2 : ACode := .seq (.region r54_0) k54_1
theorem fn54 : getFn Tryd.prog 54 = some (6, k54_2, [.tmp 2]) := by kernel_rfl
theorem cmp_isNaN_uint64_step (x : Int) (r : Bool) (hw : r = (x != x)) : cmp_isNaN_uint64 x r := by
 exact f_pureD fn54 nle rfl (ds (va 1 [] (ve (ds (va 4 [(2, aB (x != x))] (ve (d_ret (rx hw (plr54 _)))))))))
theorem plr55 (r : Int) : plain (e55 r) = true := rfl
def r55_0 : LO := [o 2 (mi 0)]
def r55_1 : LO := [o 5 (mv 0), o 6 (.bin .and (T 5) (.c (aU 9218868437227405312))), o 7 (mv 0), o 8 (.bin .and (T 7) (.c (aU 4503599627370495))), o 3 (mv 6), o 4 (mv 8)]
def r55_2 : LO := [o 10 (mv 3), o 11 (.bin .eql (T 10) (.c (aU 9218868437227405312))), o 12 (mv 11), og 13 (mv 4) 12 true, og 14 (.bin .neq (T 13) (.c (aU 0))) 12 true, o 15 (.pick (T 12) (T 14) (cb false)), o 9 (mv 15)]
def r55_3 : LO := [o 2 (mi 0)]
def r55_6 : LO := [o 17 (mv 3), o 18 (.bin .eql (T 17) (.c (aU 9218868437227405312))), o 16 (mv 18)]
def r55_7 : LO := [o 2 (mi 1)]
def r55_10 : LO := [o 20 (mv 3), o 21 (.bin .eql (T 20) (.c (aU 0))), o 22 (mv 21), og 23 (mv 4) 22 true, og 24 (.bin .eql (T 23) (.c (aU 0))) 22 true, o 25 (.pick (T 22) (T 24) (cb false)), o 19 (mv 25)]
def r55_11 : LO := [o 2 (mi 2)]
def r55_14 : LO := [o 27 (mv 3), o 28 (.bin .eql (T 27) (.c (aU 0))), o 26 (mv 28)]
def r55_15 : LO := [o 2 (mi 3)]
def k55_1 : ACode := .cond (T 26) (.seq (.region r55_15) .ret) .skip
def k55_2 : ACode := .seq (.region r55_14) k55_1
def k55_3 : ACode := .cond (T 19) (.seq (.region r55_11) .ret) k55_2
def k55_4 : ACode := .seq (.region r55_10) k55_3
def k55_5 : ACode := .cond (T 16) (.seq (.region r55_7) .ret) k55_4
def k55_6 : ACode := .seq (.region r55_6) k55_5
def k55_7 : ACode := .cond (T 9) (.seq (.region r55_3) .ret) k55_6
def k55_8 : ACode := .seq (.region r55_2) k55_7
def k55_9 : ACode := .block 0 k55_8
def r55_29 : LO := [o 2 (mi 4)]
def k55_10 : ACode := .seq (.region r55_29) .ret
def k55_11 : ACode := .seq (.seq (.region r55_1) k55_9) k55_10
def k55_12 : ACode := .seq (.region r55_0) k55_11
theorem fn55 : getFn Tryd.prog 55 = some (29, k55_12, [.tmp 2]) := by kernel_rfl
theorem scalar_Class_step (bits : Int) (r : Int) (hw : ((((bitsOf .and .u64 bits 9218868437227405312) == 9218868437227405312) && ((bitsOf .and .u64 bits 4503599627370495) != 0)) = true -> r = 0) /\ ((((bitsOf .and .u64 bits 9218868437227405312) == 9218868437227405312) && ((bitsOf .and .u64 bits 4503599627370495) != 0)) = false -> (((bitsOf .and .u64 bits 9218868437227405312) == 9218868437227405312) = true -> r = 1) /\ (((bitsOf .and .u64 bits 9218868437227405312) == 9218868437227405312) = false -> ((((bitsOf .and .u64 bits 9218868437227405312) == 0) && ((bitsOf .and .u64 bits 4503599627370495) == 0)) = true -> r = 2) /\ ((((bitsOf .and .u64 bits 9218868437227405312) == 0) && ((bitsOf .and .u64 bits 4503599627370495) == 0)) = false -> (((bitsOf .and .u64 bits 9218868437227405312) == 0) = true -> r = 3) /\ (((bitsOf .and .u64 bits 9218868437227405312) == 0) = false -> r = 4))))) : scalar_Class bits r := by
 refine f_pureD fn55 nle rfl (ds (va 1 [] (ve (d_seqQ (ds (va 6 [(4, aU (bitsOf .and .u64 bits 4503599627370495)), (3, aU (bitsOf .and .u64 bits 9218868437227405312))] (ve (d_blockQ (ds (va 3 [(12, aB ((bitsOf .and .u64 bits 9218868437227405312) == 9218868437227405312))] (vj 12 15 6 ((bitsOf .and .u64 bits 9218868437227405312) == 9218868437227405312) (fun z => aB (z && ((bitsOf .and .u64 bits 4503599627370495) != 0))) km_d (fun _ key => ?_) (fun _ key => ?_) ?_)))))))))))
 ·exact va 2 [(14, aB ((bitsOf .and .u64 bits 4503599627370495) != 0))] (va 1 [(15, aB ((bitsOf .and .u64 bits 4503599627370495) != 0))] (vle km_d key))
 ·exact va 2 [(14, .tuple [])] (va 1 [(15, aB false)] (vle km_d key))
 refine va 1 [(9, aB (((bitsOf .and .u64 bits 9218868437227405312) == 9218868437227405312) && ((bitsOf .and .u64 bits 4503599627370495) != 0)))] (ve (dw hw (fun _ hw => ?_) (fun _ hw => ?_)))
 ·exact ds (va 1 [(2, aI 0)] (ve (d_ret (rx hw (plr55 _)))))
 refine ds (va 3 [(16, aB ((bitsOf .and .u64 bits 9218868437227405312) == 9218868437227405312))] (ve (dw hw (fun _ hw => ?_) (fun _ hw => ?_))))
 ·exact ds (va 1 [(2, aI 1)] (ve (d_ret (rx hw (plr55 _)))))
 refine ds (va 3 [(22, aB ((bitsOf .and .u64 bits 9218868437227405312) == 0))] (vj 22 25 6 ((bitsOf .and .u64 bits 9218868437227405312) == 0) (fun z => aB (z && ((bitsOf .and .u64 bits 4503599627370495) == 0))) km_d (fun _ key => ?_) (fun _ key => ?_) ?_))
 ·exact va 2 [(24, aB ((bitsOf .and .u64 bits 4503599627370495) == 0))] (va 1 [(25, aB ((bitsOf .and .u64 bits 4503599627370495) == 0))] (vle km_d key))
 ·exact va 2 [(24, .tuple [])] (va 1 [(25, aB false)] (vle km_d key))
 refine va 1 [(19, aB (((bitsOf .and .u64 bits 9218868437227405312) == 0) && ((bitsOf .and .u64 bits 4503599627370495) == 0)))] (ve (dw hw (fun _ hw => ?_) (fun _ hw => ?_)))
 ·exact ds (va 1 [(2, aI 2)] (ve (d_ret (rx hw (plr55 _)))))
 refine ds (va 3 [(26, aB ((bitsOf .and .u64 bits 9218868437227405312) == 0))] (ve (dw hw (fun _ hw => ?_) (fun _ hw => ?_))))
 ·exact ds (va 1 [(2, aI 3)] (ve (d_ret (rx hw (plr55 _)))))
 exact d_skip (ds (va 1 [(2, aI 4)] (ve (d_ret (rx hw (plr55 _))))))
theorem plr56 (r : Int) : plain (e56 r) = true := rfl
def r56_0 : LO := [o 2 (bx 0), o 3 (bx 1), o 4 (mi 0)]
def r56_1 : LO := [o 6 (fa 0 2), o 7 (ld 6), o 8 (fa 0 3), o 9 (ld 8), o 10 (.bin .neq (T 7) (T 9)), o 5 (mv 10)]
def r56_2 : LO := [o 11 (fa 0 2), o 12 (ld 11), o 13 (fa 0 3), o 14 (ld 13), o 15 (.call (cf 39) [(T 12), (T 14)]), o 4 (mv 15)]
def r56_5 : LO := [o 17 (fa 1 2), o 18 (ld 17), o 19 (fa 1 3), o 20 (ld 19), o 21 (.bin .neq (T 18) (T 20)), o 16 (mv 21)]
def r56_6 : LO := [o 22 (fa 1 2), o 23 (ld 22), o 24 (fa 1 3), o 25 (ld 24), o 26 (.call (cf 39) [(T 23), (T 25)]), o 4 (mv 26)]
def r56_9 : LO := [o 28 (fa 2 2), o 29 (ld 28), o 30 (fa 2 3), o 31 (ld 30), o 32 (.bin .lss (T 29) (T 31)), o 27 (mv 32)]
def r56_10 : LO := [o 4 (mi (-1))]
def r56_13 : LO := [o 34 (fa 2 2), o 35 (ld 34), o 36 (fa 2 3), o 37 (ld 36), o 38 (.bin .gtr (T 35) (T 37)), o 33 (mv 38)]
def r56_14 : LO := [o 4 (mi 1)]
def r56_17 : LO := [o 40 (fa 3 2), o 41 (ld 40), o 42 (fa 3 3), o 43 (ld 42), o 44 (.bin .lss (T 41) (T 43)), o 39 (mv 44)]
def r56_18 : LO := [o 4 (mi (-1))]
def r56_21 : LO := [o 46 (fa 3 2), o 47 (ld 46), o 48 (fa 3 3), o 49 (ld 48), o 50 (.bin .gtr (T 47) (T 49)), o 45 (mv 50)]
def r56_22 : LO := [o 4 (mi 1)]
def k56_1 : ACode := .cond (T 45) (.seq (.region r56_22) .ret) .skip
def k56_2 : ACode := .seq (.region r56_21) k56_1
def k56_3 : ACode := .cond (T 39) (.seq (.region r56_18) .ret) k56_2
def k56_4 : ACode := .seq (.region r56_17) k56_3
def k56_5 : ACode := .cond (T 33) (.seq (.region r56_14) .ret) k56_4
def k56_6 : ACode := .seq (.region r56_13) k56_5
def k56_7 : ACode := .cond (T 27) (.seq (.region r56_10) .ret) k56_6
def k56_8 : ACode := .seq (.region r56_9) k56_7
def k56_9 : ACode := .cond (T 16) (.seq (.region r56_6) .ret) k56_8
def k56_10 : ACode := .seq (.region r56_5) k56_9
def k56_11 : ACode := .cond (T 5) (.seq (.region r56_2) .ret) k56_10
def k56_12 : ACode := .seq (.region r56_1) k56_11
def r56_39 : LO := [o 4 (mi 0)]
def k56_13 : ACode := .seq (.region r56_39) .ret
def k56_14 : ACode := .seq (.block 0 k56_12) k56_13
def k56_15 : ACode := .seq (.region r56_0) k56_14
theorem fn56 : getFn Tryd.prog 56 = some (51, k56_15, [.tmp 4]) := by kernel_rfl
theorem ref16_raw_step (a : GRaw) (b : GRaw) (r : Int) (hw : ((a.Num != b.Num) = true -> ∃ y1, ref16_number a.Num b.Num y1 /\ (r = y1)) /\ ((a.Num != b.Num) = false -> ((a.Wire != b.Wire) = true -> ∃ y2, ref16_number a.Wire b.Wire y2 /\ (r = y2)) /\ ((a.Wire != b.Wire) = false -> ((decide (a.Bits < b.Bits)) = true -> r = (-1)) /\ ((decide (a.Bits < b.Bits)) = false -> ((decide (b.Bits < a.Bits)) = true -> r = 1) /\ ((decide (b.Bits < a.Bits)) = false -> ((Op.bytesLess a.Data.toList b.Data.toList) = true -> r = (-1)) /\ ((Op.bytesLess a.Data.toList b.Data.toList) = false -> ((!(Op.bytesLess a.Data.toList b.Data.toList || a.Data.toList == b.Data.toList)) = true -> r = 1) /\ ((!(Op.bytesLess a.Data.toList b.Data.toList || a.Data.toList == b.Data.toList)) = false -> r = 0))))))) : ref16_raw a b r := by
 refine f_pureD fn56 nle rfl (ds (vg 3 [(3, .ptr 1 0), (2, .ptr 0 0)] [(eGRaw a), (eGRaw b)] [] (ve (d_seqQ (d_blockQ (ds (va 6 [(5, aB (a.Num != b.Num))] (ve (dw hw (fun _ hw => ?_) (fun _ hw => ?_))))))))))
 ·refine ds (va 4 [(14, aI b.Num), (12, aI a.Num)] ?_)
  obtain ⟨y1, hy, hw⟩ := hw
  exact vo rfl (x_call hy pl39) rfl (va 1 [(4, aI y1)] (ve (d_ret (rx hw (plr56 _)))))
 refine ds (va 6 [(16, aB (a.Wire != b.Wire))] (ve (dw hw (fun _ hw => ?_) (fun _ hw => ?_))))
 ·refine ds (va 4 [(25, aI b.Wire), (23, aI a.Wire)] ?_)
  obtain ⟨y2, hy, hw⟩ := hw
  exact vo rfl (x_call hy pl39) rfl (va 1 [(4, aI y2)] (ve (d_ret (rx hw (plr56 _)))))
 refine ds (va 6 [(27, aB (decide (a.Bits < b.Bits)))] (ve (dw hw (fun _ hw => ?_) (fun _ hw => ?_))))
 ·exact ds (va 1 [(4, aI (-1))] (ve (d_ret (rx hw (plr56 _)))))
 refine ds (va 6 [(33, aB (decide (b.Bits < a.Bits)))] (ve (dw hw (fun _ hw => ?_) (fun _ hw => ?_))))
 ·exact ds (va 1 [(4, aI 1)] (ve (d_ret (rx hw (plr56 _)))))
 refine ds (va 4 [(43, aS b.Data), (41, aS a.Data)] (vo rfl (x_bin (c := True) (.bool (Op.bytesLess a.Data.toList b.Data.toList)) trivial) rfl (va 1 [(39, aB (Op.bytesLess a.Data.toList b.Data.toList))] (ve (dw hw (fun _ hw => ?_) (fun _ hw => ?_))))))
 ·exact ds (va 1 [(4, aI (-1))] (ve (d_ret (rx hw (plr56 _)))))
 refine ds (va 4 [(49, aS b.Data), (47, aS a.Data)] (vo rfl (x_bin (c := True) (.bool (!(Op.bytesLess a.Data.toList b.Data.toList || a.Data.toList == b.Data.toList))) trivial) rfl (va 1 [(45, aB (!(Op.bytesLess a.Data.toList b.Data.toList || a.Data.toList == b.Data.toList)))] (ve (dw hw (fun _ hw => ?_) (fun _ hw => ?_))))))
 ·exact ds (va 1 [(4, aI 1)] (ve (d_ret (rx hw (plr56 _)))))
 exact d_skip (ds (va 1 [(4, aI 0)] (ve (d_ret (rx hw (plr56 _))))))
theorem plr57 (r : Bool) : plain (e57 r) = true := rfl
def r57_0 : LO := [o 2 (mb false)]
def r57_1 : LO := [o 3 (mv 0), o 4 (.bin .geq (T 3) (ci 1)), o 5 (mv 4), og 6 (mv 0) 5 true, og 7 (.bin .leq (T 6) (ci 9)) 5 true, o 8 (.pick (T 5) (T 7) (cb false)), o 2 (mv 8)]
def k57_1 : ACode := .seq (.region r57_1) .ret
def k57_2 : ACode := .seq (.region r57_0) k57_1
theorem fn57 : getFn Tryd.prog 57 = some (9, k57_2, [.tmp 2]) := by kernel_rfl
theorem ref04_Is_step (kind : Int) (r : Bool) (hw : r = ((decide (1 <= kind)) && (decide (kind <= 9)))) : ref04_Is kind r := by
 refine f_pureD fn57 nle rfl (ds (va 1 [] (ve (ds (va 3 [(5, aB (decide (1 <= kind)))] (vj 5 8 6 (decide (1 <= kind)) (fun z => aB (z && (decide (kind <= 9)))) km_d (fun _ key => ?_) (fun _ key => ?_) ?_))))))
 ·exact va 2 [(7, aB (decide (kind <= 9)))] (va 1 [(8, aB (decide (kind <= 9)))] (vle km_d key))
 ·exact va 2 [(7, .tuple [])] (va 1 [(8, aB false)] (vle km_d key))
 exact va 1 [(2, aB ((decide (1 <= kind)) && (decide (kind <= 9))))] (ve (d_ret (rx hw (plr57 _))))
theorem plr58 (r : Bool) : plain (e58 r) = true := rfl
def r58_0 : LO := [o 2 (mb false)]
def r58_1 : LO := [o 3 (mv 0), o 4 (.bin .eql (T 3) (ci 7)), o 5 (mv 4), og 6 (mv 0) 5 false, og 7 (.bin .eql (T 6) (ci 8)) 5 false, o 8 (.pick (T 5) (cb true) (T 7)), o 2 (mv 8)]
def k58_1 : ACode := .seq (.region r58_1) .ret
def k58_2 : ACode := .seq (.region r58_0) k58_1
theorem fn58 : getFn Tryd.prog 58 = some (9, k58_2, [.tmp 2]) := by kernel_rfl
theorem ref04_texts_step (kind : Int) (r : Bool) (hw : r = ((kind == 7) || (kind == 8))) : ref04_texts kind r := by
 refine f_pureD fn58 nle rfl (ds (va 1 [] (ve (ds (va 3 [(5, aB (kind == 7))] (vj 5 8 6 (kind == 7) (fun z => aB (z || (kind == 8))) km_d (fun _ key => ?_) (fun _ key => ?_) ?_))))))
 ·exact va 2 [(7, .tuple [])] (va 1 [(8, aB true)] (vle km_d key))
 ·exact va 2 [(7, aB (kind == 8))] (va 1 [(8, aB (kind == 8))] (vle km_d key))
 exact va 1 [(2, aB ((kind == 7) || (kind == 8)))] (ve (d_ret (rx hw (plr58 _))))
theorem plr59 (r : Int) : plain (e59 r) = true := rfl
def r59_0 : LO := [o 1 (bx 0), o 2 (.mv (.c (aU 0)))]
def r59_1 : LO := [o 4 (fa 0 1), o 5 (ld 4), o 6 (.call (cf 68) [(T 5)]), o 3 (mv 6)]
def r59_2 : LO := [o 7 (fa 1 1), o 8 (ld 7), o 9 (.bin .add (T 8) (.c (aU 9223372036854775808))), o 2 (mv 9)]
def r59_5 : LO := [o 11 (fa 0 1), o 12 (ld 11), o 13 (.bin .neq (T 12) (ci 6)), o 10 (mv 13)]
def r59_6 : LO := [o 14 (fa 1 1), o 15 (ld 14), o 2 (mv 15)]
def r59_9 : LO := [o 17 (fa 1 1), o 18 (ld 17), o 19 (.call (cf 69) [(T 18)]), o 20 (.bin .eql (T 19) (ci 0)), o 16 (mv 20)]
def r59_10 : LO := [o 2 (.mv (.c (aU 18446744073709551615)))]
def r59_13 : LO := [o 22 (fa 1 1), o 23 (ld 22), o 24 (.bin .geq (T 23) (.c (aU 9223372036854775808))), o 21 (mv 24)]
def r59_14 : LO := [o 25 (fa 1 1), o 26 (ld 25), o 27 (.bin .sub (.c (aU 18446744073709551615)) (T 26)), o 2 (mv 27)]
def k59_1 : ACode := .cond (T 21) (.seq (.region r59_14) .ret) .skip
def k59_2 : ACode := .seq (.region r59_13) k59_1
def k59_3 : ACode := .cond (T 16) (.seq (.region r59_10) .ret) k59_2
def k59_4 : ACode := .seq (.region r59_9) k59_3
def k59_5 : ACode := .cond (T 10) (.seq (.region r59_6) .ret) k59_4
def k59_6 : ACode := .seq (.region r59_5) k59_5
def k59_7 : ACode := .cond (T 3) (.seq (.region r59_2) .ret) k59_6
def k59_8 : ACode := .seq (.region r59_1) k59_7
def r59_27 : LO := [o 28 (fa 1 1), o 29 (ld 28), o 30 (.bin .add (T 29) (.c (aU 9223372036854775808))), o 2 (mv 30)]
def k59_9 : ACode := .seq (.region r59_27) .ret
def k59_10 : ACode := .seq (.block 0 k59_8) k59_9
def k59_11 : ACode := .seq (.region r59_0) k59_10
theorem fn59 : getFn Tryd.prog 59 = some (31, k59_11, [.tmp 2]) := by kernel_rfl
theorem ref04_rank_step (v : GValue) (r : Int) (hw : ∃ y1, ref04_signed v.Kind y1 /\ ((y1 = true -> r = (wU (v.Bits + 9223372036854775808))) /\ (y1 = false -> ((v.Kind != 6) = true -> r = v.Bits) /\ ((v.Kind != 6) = false -> ∃ y2, ref04_Class v.Bits y2 /\ (((y2 == 0) = true -> r = 18446744073709551615) /\ ((y2 == 0) = false -> ((decide (9223372036854775808 <= v.Bits)) = true -> r = (wU (18446744073709551615 - v.Bits))) /\ ((decide (9223372036854775808 <= v.Bits)) = false -> r = (wU (v.Bits + 9223372036854775808))))))))) : ref04_rank v r := by
 refine f_pureD fn59 nle rfl (ds (vg 2 [(1, .ptr 0 0)] [(eGValue v)] [] (ve (d_seqQ (d_blockQ (ds (va 2 [(5, aI v.Kind)] ?_)))))))
 obtain ⟨y1, hy, hw⟩ := hw
 refine vo rfl (x_call hy pl68) rfl (va 1 [(3, aB y1)] (ve (dw hw (fun _ hw => ?_) (fun _ hw => ?_))))
 ·exact ds (va 4 [(2, aU (wU (v.Bits + 9223372036854775808)))] (ve (d_ret (rx hw (plr59 _)))))
 refine ds (va 4 [(10, aB (v.Kind != 6))] (ve (dw hw (fun _ hw => ?_) (fun _ hw => ?_))))
 ·exact ds (va 3 [(2, aU v.Bits)] (ve (d_ret (rx hw (plr59 _)))))
 refine ds (va 2 [(18, aU v.Bits)] ?_)
 obtain ⟨y2, hy, hw⟩ := hw
 refine vo rfl (x_call hy pl69) rfl (va 2 [(16, aB (y2 == 0))] (ve (dw hw (fun _ hw => ?_) (fun _ hw => ?_))))
 ·exact ds (va 1 [(2, aU 18446744073709551615)] (ve (d_ret (rx hw (plr59 _)))))
 refine ds (va 4 [(21, aB (decide (9223372036854775808 <= v.Bits)))] (ve (dw hw (fun _ hw => ?_) (fun _ hw => ?_))))
 ·exact ds (va 4 [(2, aU (wU (18446744073709551615 - v.Bits)))] (ve (d_ret (rx hw (plr59 _)))))
 exact d_skip (ds (va 4 [(2, aU (wU (v.Bits + 9223372036854775808)))] (ve (d_ret (rx hw (plr59 _))))))
def r60_0 : LO := [o 1 (bx 0), o 2 (mb false)]
def r60_1 : LO := [o 3 (fa 3 1), o 4 (ld 3), o 5 (.len false (T 4)), o 6 (fa 4 1), o 7 (ld 6), o 8 (.len false (T 7)), o 9 (.bin .add (T 5) (T 8)), o 10 (fa 5 1), o 11 (ld 10), o 12 (.len false (T 11)), o 13 (.bin .add (T 9) (T 12)), o 14 (fa 6 1), o 15 (ld 14), o 16 (.len false (T 15)), o 17 (.bin .add (T 13) (T 16)), o 18 (.bin .gtr (T 17) (ci 0))]
def r60_2 : LO := [o 2 (mb false)]
def k60_1 : ACode := .cond (T 18) (.seq (.region r60_2) .ret) .skip
def k60_2 : ACode := .seq (.region r60_1) k60_1
def r60_8 : LO := [o 19 (fa 0 1), o 20 (ld 19), o 21 (.call (cf 35) [(T 20)])]
def r60_9 : LO := [o 22 (fa 1 1), o 23 (ld 22), o 24 (.bin .eql (T 23) (.c (aU 0))), o 2 (mv 24)]
def k60_3 : ACode := .cond (T 21) (.seq (.region r60_9) .ret) .skip
def k60_4 : ACode := .seq (.region r60_8) k60_3
def r60_15 : LO := [o 25 (fa 2 1), o 26 (ld 25), o 27 (.bin .eql (T 26) (.c aE)), o 2 (mv 27)]
def k60_5 : ACode := .seq (.region r60_15) .ret
def k60_6 : ACode := .seq k60_4 k60_5
def k60_7 : ACode := .seq k60_2 k60_6
def k60_8 : ACode := .seq (.region r60_0) k60_7
theorem fn60 : getFn Tryd.prog 60 = some (28, k60_8, [.tmp 2]) := by kernel_rfl
def r61_0 : LO := [o 4 (mb false)]
def r61_1 : LO := [o 5 (.mv (.c (aU 4294967295)))]
def r61_2 : LO := [o 6 (mv 0)]
def r61_3 : LO := [o 8 (.bin .eql (T 6) (ci 1)), o 7 (mv 8)]
def k61_1 : ACode := .cond (T 7) (.exit 1) .skip
def r61_8 : LO := [o 10 (.bin .eql (T 6) (ci 2)), o 9 (mv 10)]
def k61_2 : ACode := .cond (T 9) (.exit 2) .skip
def r61_13 : LO := [o 12 (.bin .eql (T 6) (ci 9)), o 11 (mv 12)]
def k61_3 : ACode := .cond (T 11) (.exit 3) .skip
def r61_18 : LO := [o 14 (.bin .eql (T 6) (ci 4)), o 13 (mv 14)]
def k61_4 : ACode := .cond (T 13) (.exit 4) .skip
def k61_5 : ACode := .seq (.region r61_18) k61_4
def k61_6 : ACode := .seq (.seq (.region r61_13) k61_3) k61_5
def k61_7 : ACode := .seq (.seq (.region r61_8) k61_2) k61_6
def k61_8 : ACode := .seq (.seq (.region r61_3) k61_1) k61_7
def r61_29 : LO := [o 15 (mv 1), o 16 (.bin .leq (T 15) (.c (aU 1))), o 4 (mv 16)]
def k61_9 : ACode := .seq (.seq (.region r61_29) .ret) (.exit 0)
def k61_10 : ACode := .seq (.block 1 (.seq k61_8 (.exit 0))) k61_9
def r61_36 : LO := [o 17 (mv 1), o 18 (.conv (.num .i64) (T 17)), o 19 (.bin .geq (T 18) (ci (-2147483648))), o 20 (mv 19), og 21 (mv 1) 20 true, og 22 (.conv (.num .i64) (T 21)) 20 true, og 23 (.bin .leq (T 22) (ci 2147483647)) 20 true, o 24 (.pick (T 20) (T 23) (cb false)), o 4 (mv 24)]
def k61_11 : ACode := .seq (.seq (.region r61_36) .ret) (.exit 0)
def k61_12 : ACode := .seq (.block 2 k61_10) k61_11
def r61_43 : LO := [o 5 (.mv (.c (aU 2147483647)))]
def r61_46 : LO := [o 25 (mv 1), o 26 (mv 5), o 27 (.bin .leq (T 25) (T 26)), o 4 (mv 27)]
def k61_13 : ACode := .seq (.seq (.region r61_46) .ret) (.exit 0)
def k61_14 : ACode := .seq (.block 4 (.seq (.block 3 k61_12) (.region r61_43))) k61_13
def k61_15 : ACode := .block 0 k61_14
def r61_54 : LO := [o 4 (mb true)]
def k61_16 : ACode := .seq (.region r61_54) .ret
def k61_17 : ACode := .seq (.seq (.region r61_2) k61_15) k61_16
def k61_18 : ACode := .seq (.region r61_1) k61_17
def k61_19 : ACode := .seq (.region r61_0) k61_18
theorem fn61 : getFn Tryd.prog 61 = some (28, k61_19, [.tmp 4]) := by kernel_rfl
def r62_0 : LO := [o 2 (mb false)]
def r62_1 : LO := [o 3 (mv 0), o 4 (.call (cf 70) [(T 3)]), o 5 (.bin .lss (T 4) (ci 0)), o 2 (mv 5)]
def k62_1 : ACode := .seq (.region r62_1) .ret
def k62_2 : ACode := .seq (.region r62_0) k62_1
theorem fn62 : getFn Tryd.prog 62 = some (6, k62_2, [.tmp 2]) := by kernel_rfl
end
section
attribute [-simp] List.map_take List.map_drop List.map_append List.map_set List.map_replicate List.map_cons List.map_map
attribute [local simp] plain plainL lowE lowB keepB low lowL lowLL plm_I_i8 plm_I_i16 plm_I_i32 plm_I_i64 plm_I_u8 plm_I_u16 plm_I_u32 plm_I_u64 plm_Bool plm_Str gfn_fi gfn_cap plm_Fn pl_GRaw plm_GRaw pl_GValue plm_GValue pl_GPair plm_GPair pl_GSlot plm_GSlot pl_Gparts plm_Gparts pl_Any eI_i8 eI_i16 eI_i32 eI_i64 eI_u8 eI_u16 eI_u32 eI_u64 eBool eStr eFn gfn_lfi gfn_lcap lwm_GRaw lwm_GValue lwm_GPair lwm_GSlot
def r67_0 : LO := [o 12 (mv 2), o 13 (mv 1), o 14 (.bin .sub (T 12) (T 13)), o 10 (mv 14)]
def r67_1 : LO := [o 15 (mv 3), o 16 (mv 2), o 17 (.bin .sub (T 15) (T 16)), o 11 (mv 17)]
def r67_2 : LO := [o 18 (mv 10), o 19 (mv 11), o 20 (.bin .neq (T 18) (T 19))]
def k67_1 : ACode := .cond (T 20) .skip (.exit 0)
def r67_7 : LO := [o 21 (mv 10), o 22 (mv 11), o 23 (.bin .gtr (T 21) (T 22))]
def r67_8 : LO := [o 24 (mv 0), o 25 (mv 2), o 26 (mv 10), o 27 (.bin .sub (T 25) (T 26)), o 28 (mv 2), o 29 (mv 11), o 30 (mv 4), o 31 (.call (cf 78) [(T 24), (T 27), (T 28), (T 29), (T 30)])]
def r67_9 : LO := [o 32 (mv 10), o 33 (mv 11), o 34 (.bin .sub (T 32) (T 33)), o 10 (mv 34)]
def r67_11 : LO := [o 35 (mv 0), o 36 (mv 2), o 37 (mv 10), o 38 (.bin .sub (T 36) (T 37)), o 39 (mv 2), o 40 (mv 11), o 41 (.bin .add (T 39) (T 40)), o 42 (mv 10), o 43 (.bin .sub (T 41) (T 42)), o 44 (mv 10), o 45 (mv 4), o 46 (.call (cf 78) [(T 35), (T 38), (T 43), (T 44), (T 45)])]
def r67_12 : LO := [o 47 (mv 11), o 48 (mv 10), o 49 (.bin .sub (T 47) (T 48)), o 11 (mv 49)]
def k67_2 : ACode := .cond (T 23) (.seq (.region r67_8) (.region r67_9)) (.seq (.region r67_11) (.region r67_12))
def k67_3 : ACode := .block 1 (.seq (.region r67_7) k67_2)
def k67_4 : ACode := .seq (.seq (.region r67_2) k67_1) k67_3
def r67_20 : LO := [o 50 (mv 0), o 51 (mv 2), o 52 (mv 10), o 53 (.bin .sub (T 51) (T 52)), o 54 (mv 2), o 55 (mv 10), o 56 (mv 4), o 57 (.call (cf 78) [(T 50), (T 53), (T 54), (T 55), (T 56)])]
def k67_5 : ACode := .seq (.block 0 (.loop k67_4)) (.region r67_20)
def k67_6 : ACode := .seq (.region r67_1) k67_5
def k67_7 : ACode := .seq (.region r67_0) k67_6
theorem fn67 : getFn Tryd.prog 67 = some (58, k67_7, []) := by kernel_rfl
def q67_0 (r : (List (GValue × GValue))) : QP := qio 0 [] (.tuple []) (cellsOf eGPair' r) []
def q67_3 (r : (List (GValue × GValue))) : QP := tqi 0 Tryd.prog 58 (.region r67_20) (q67_0 r)
def q67_4 (r : (List (GValue × GValue))) : QP := inBlockA 0 (q67_3 r)
def slices_rotateCmpFunc_Pair_j2 (ij3 : Int) (ij1 : Int) (n0 : Nat) (m : Int) (cmp : GFn) (lj2 : (List (GValue × GValue))) (r : (List (GValue × GValue))) : Prop := DL Tryd.prog 58 1 0 k67_4 (q67_4 r) [(11, aI ij3), (10, aI ij1), (0, .row 0 0 14 n0 n0), (2, aI m), (4, .clo (.func cmp.fn) cmp.fi cmp.cap)] ⟨[some (cellsOf eGPair' lj2)], [], []⟩
theorem slices_rotateCmpFunc_Pair_j2_step (ij3 : Int) (ij1 : Int) (n0 : Nat) (m : Int) (cmp : GFn) (lj2 : (List (GValue × GValue))) (r : (List (GValue × GValue))) (hw : ((ij1 != ij3) = true -> ((decide (ij3 < ij1)) = true -> ∃ y5, slices_swapRangeCmpFunc_Pair n0 lj2 (wI (m - ij1)) m ij3 cmp y5 /\ (lj2 ≠ [] /\ y5 ≠ []) /\ (slices_rotateCmpFunc_Pair_j2 ij3 (wI (ij1 - ij3)) n0 m cmp y5 r)) /\ ((decide (ij3 < ij1)) = false -> ∃ y6, slices_swapRangeCmpFunc_Pair n0 lj2 (wI (m - ij1)) (wI ((wI (m + ij3)) - ij1)) ij1 cmp y6 /\ (lj2 ≠ [] /\ y6 ≠ []) /\ (slices_rotateCmpFunc_Pair_j2 (wI (ij3 - ij1)) ij1 n0 m cmp y6 r))) /\ ((ij1 != ij3) = false -> ∃ y4, slices_swapRangeCmpFunc_Pair n0 lj2 (wI (m - ij1)) m ij1 cmp y4 /\ (lj2 ≠ [] /\ y4 ≠ []) /\ (y4 ≠ [] /\ r = y4))) : slices_rotateCmpFunc_Pair_j2 ij3 ij1 n0 m cmp lj2 r := by
 refine dl_unroll (d_seqQ (ds (va 3 [(20, aB (ij1 != ij3))] (ve (dw hw (fun _ hw => ?_) (fun _ hw => ?_))))))
 ·refine d_skip (d_blockQ (ds (va 3 [(23, aB (decide (ij3 < ij1)))] (ve (dw hw (fun _ hw => ?_) (fun _ hw => ?_))))))
  ·refine ds (va 7 [(30, .clo (.func cmp.fn) cmp.fi cmp.cap), (29, aI ij3), (28, aI m), (27, aI (wI (m - ij1))), (24, .row 0 0 14 n0 n0)] ?_)
   obtain ⟨y5, hy, h0, hw⟩ := hw
   exact vo rfl (x_rio 0 [.row 0 0 14 n0 n0, aI (wI (m - ij1)), aI m, aI ij3, .clo (.func cmp.fn) cmp.fi cmp.cap] rowE_GPair hy h0 pio78) rfl (ve (dr (va 4 [(10, aI (wI (ij1 - ij3)))] (ve (jl0 hw)))))
  refine ds (va 11 [(45, .clo (.func cmp.fn) cmp.fi cmp.cap), (44, aI ij1), (43, aI (wI ((wI (m + ij3)) - ij1))), (38, aI (wI (m - ij1))), (35, .row 0 0 14 n0 n0)] ?_)
  obtain ⟨y6, hy, h0, hw⟩ := hw
  exact vo rfl (x_rio 0 [.row 0 0 14 n0 n0, aI (wI (m - ij1)), aI (wI ((wI (m + ij3)) - ij1)), aI ij1, .clo (.func cmp.fn) cmp.fi cmp.cap] rowE_GPair hy h0 pio78) rfl (ve (dr (va 4 [(11, aI (wI (ij3 - ij1)))] (ve (jl0 hw)))))
 refine d_exit (dr (va 7 [(56, .clo (.func cmp.fn) cmp.fi cmp.cap), (55, aI ij1), (54, aI m), (53, aI (wI (m - ij1))), (50, .row 0 0 14 n0 n0)] (hK := km_io) ?_))
 obtain ⟨y4, hy, h0, hw⟩ := hw
 exact vo rfl (x_rio 0 [.row 0 0 14 n0 n0, aI (wI (m - ij1)), aI m, aI ij1, .clo (.func cmp.fn) cmp.fi cmp.cap] rowE_GPair hy h0 pio78) rfl (ve (riorn rowE_GPair hw))
theorem slices_rotateCmpFunc_Pair_step (n0 : Nat) (data : (List (GValue × GValue))) (a : Int) (m : Int) (b : Int) (cmp : GFn) (r : (List (GValue × GValue))) (hw : slices_rotateCmpFunc_Pair_j2 (wI (b - m)) (wI (m - a)) n0 m cmp data r) : slices_rotateCmpFunc_Pair n0 data a m b cmp r := by
 exact f_rio fn67 nle rfl (ds (va 4 [(10, aI (wI (m - a)))] (ve (ds (va 4 [(11, aI (wI (b - m)))] (ve (d_seqQ (d_blockQ (d_loopQ (jl0 hw))))))))))
theorem plr68 (r : Bool) : plain (e68 r) = true := rfl
def r68_0 : LO := [o 2 (mb false)]
def r68_1 : LO := [o 3 (mv 0), o 4 (.bin .eql (T 3) (ci 2)), o 5 (mv 4), og 6 (mv 0) 5 false, og 7 (.bin .eql (T 6) (ci 3)) 5 false, o 8 (.pick (T 5) (cb true) (T 7)), o 2 (mv 8)]
def k68_1 : ACode := .seq (.region r68_1) .ret
def k68_2 : ACode := .seq (.region r68_0) k68_1
theorem fn68 : getFn Tryd.prog 68 = some (9, k68_2, [.tmp 2]) := by kernel_rfl
theorem ref04_signed_step (kind : Int) (r : Bool) (hw : r = ((kind == 2) || (kind == 3))) : ref04_signed kind r := by
 refine f_pureD fn68 nle rfl (ds (va 1 [] (ve (ds (va 3 [(5, aB (kind == 2))] (vj 5 8 6 (kind == 2) (fun z => aB (z || (kind == 3))) km_d (fun _ key => ?_) (fun _ key => ?_) ?_))))))
 ·exact va 2 [(7, .tuple [])] (va 1 [(8, aB true)] (vle km_d key))
 ·exact va 2 [(7, aB (kind == 3))] (va 1 [(8, aB (kind == 3))] (vle km_d key))
 exact va 1 [(2, aB ((kind == 2) || (kind == 3)))] (ve (d_ret (rx hw (plr68 _))))
theorem plr69 (r : Int) : plain (e69 r) = true := rfl
def r69_0 : LO := [o 2 (mi 0)]
def r69_1 : LO := [o 4 (mv 0), o 5 (.bin .rem (T 4) (.c (aU 9223372036854775808))), o 3 (mv 5)]
def r69_2 : LO := [o 7 (mv 3), o 8 (.bin .gtr (T 7) (.c (aU 9218868437227405312))), o 6 (mv 8)]
def r69_3 : LO := [o 2 (mi 0)]
def r69_6 : LO := [o 10 (mv 3), o 11 (.bin .eql (T 10) (.c (aU 9218868437227405312))), o 9 (mv 11)]
def r69_7 : LO := [o 2 (mi 1)]
def r69_10 : LO := [o 13 (mv 3), o 14 (.bin .eql (T 13) (.c (aU 0))), o 12 (mv 14)]
def r69_11 : LO := [o 2 (mi 2)]
def r69_14 : LO := [o 16 (mv 3), o 17 (.bin .lss (T 16) (.c (aU 4503599627370496))), o 15 (mv 17)]
def r69_15 : LO := [o 2 (mi 3)]
def k69_1 : ACode := .cond (T 15) (.seq (.region r69_15) .ret) .skip
def k69_2 : ACode := .seq (.region r69_14) k69_1
def k69_3 : ACode := .cond (T 12) (.seq (.region r69_11) .ret) k69_2
def k69_4 : ACode := .seq (.region r69_10) k69_3
def k69_5 : ACode := .cond (T 9) (.seq (.region r69_7) .ret) k69_4
def k69_6 : ACode := .seq (.region r69_6) k69_5
def k69_7 : ACode := .cond (T 6) (.seq (.region r69_3) .ret) k69_6
def k69_8 : ACode := .seq (.region r69_2) k69_7
def r69_28 : LO := [o 2 (mi 4)]
def k69_9 : ACode := .seq (.region r69_28) .ret
def k69_10 : ACode := .seq (.block 0 k69_8) k69_9
def k69_11 : ACode := .seq (.region r69_1) k69_10
def k69_12 : ACode := .seq (.region r69_0) k69_11
theorem fn69 : getFn Tryd.prog 69 = some (18, k69_12, [.tmp 2]) := by kernel_rfl
theorem ref04_Class_step (bits : Int) (r : Int) (hw : ((decide (9218868437227405312 < (bits.tmod 9223372036854775808))) = true -> r = 0) /\ ((decide (9218868437227405312 < (bits.tmod 9223372036854775808))) = false -> (((bits.tmod 9223372036854775808) == 9218868437227405312) = true -> r = 1) /\ (((bits.tmod 9223372036854775808) == 9218868437227405312) = false -> (((bits.tmod 9223372036854775808) == 0) = true -> r = 2) /\ (((bits.tmod 9223372036854775808) == 0) = false -> ((decide ((bits.tmod 9223372036854775808) < 4503599627370496)) = true -> r = 3) /\ ((decide ((bits.tmod 9223372036854775808) < 4503599627370496)) = false -> r = 4))))) : ref04_Class bits r := by
 refine f_pureD fn69 nle rfl (ds (va 1 [] (ve (ds (va 3 [(3, aU (bits.tmod 9223372036854775808))] (ve (d_seqQ (d_blockQ (ds (va 3 [(6, aB (decide (9218868437227405312 < (bits.tmod 9223372036854775808))))] (ve (dw hw (fun _ hw => ?_) (fun _ hw => ?_)))))))))))))
 ·exact ds (va 1 [(2, aI 0)] (ve (d_ret (rx hw (plr69 _)))))
 refine ds (va 3 [(9, aB ((bits.tmod 9223372036854775808) == 9218868437227405312))] (ve (dw hw (fun _ hw => ?_) (fun _ hw => ?_))))
 ·exact ds (va 1 [(2, aI 1)] (ve (d_ret (rx hw (plr69 _)))))
 refine ds (va 3 [(12, aB ((bits.tmod 9223372036854775808) == 0))] (ve (dw hw (fun _ hw => ?_) (fun _ hw => ?_))))
 ·exact ds (va 1 [(2, aI 2)] (ve (d_ret (rx hw (plr69 _)))))
 refine ds (va 3 [(15, aB (decide ((bits.tmod 9223372036854775808) < 4503599627370496)))] (ve (dw hw (fun _ hw => ?_) (fun _ hw => ?_))))
 ·exact ds (va 1 [(2, aI 3)] (ve (d_ret (rx hw (plr69 _)))))
 exact d_skip (ds (va 1 [(2, aI 4)] (ve (d_ret (rx hw (plr69 _))))))
def r70_0 : LO := [o 2 (mi 0)]
def r70_1 : LO := [o 5 (mv 0), o 6 (.range (T 5))]
def r70_2 : LO := [o 7 (.next (T 6)), o 8 (.extract 0 (T 7))]
def r70_6 : LO := [o 9 (.extract 1 (T 7)), o 10 (.extract 2 (T 7)), o 3 (mv 9), o 4 (mv 10)]
def r70_7 : LO := [o 11 (mv 0), o 12 (mv 3), o 13 (mv 4), o 14 (.call (cf 79) [(T 11), (T 12), (T 13)])]
def r70_8 : LO := [o 15 (mv 3), o 2 (mv 15)]
def k70_1 : ACode := .cond (T 14) (.seq (.region r70_8) .ret) .skip
def k70_2 : ACode := .seq (.region r70_7) k70_1
def k70_3 : ACode := .block 1 (.seq (.region r70_6) k70_2)
def k70_4 : ACode := .seq (.cond (T 8) .skip (.exit 0)) k70_3
def k70_5 : ACode := .seq (.region r70_2) k70_4
def k70_6 : ACode := .block 0 (.loop k70_5)
def r70_21 : LO := [o 2 (mi (-1))]
def k70_7 : ACode := .seq (.region r70_21) .ret
def k70_8 : ACode := .seq (.seq (.region r70_1) k70_6) k70_7
def k70_9 : ACode := .seq (.region r70_0) k70_8
theorem fn70 : getFn Tryd.prog 70 = some (16, k70_9, [.tmp 2]) := by kernel_rfl
def r78_0 : LO := [o 10 (mi 0)]
def r78_1 : LO := [o 11 (mv 10), o 12 (mv 3), o 13 (.bin .lss (T 11) (T 12))]
def k78_1 : ACode := .cond (T 13) .skip (.exit 0)
def r78_6 : LO := [o 16 (mv 0), o 17 (mv 1), o 18 (mv 10), o 19 (.bin .add (T 17) (T 18)), o 20 (mv 0), o 21 (mv 2), o 22 (mv 10), o 23 (.bin .add (T 21) (T 22)), o 24 (mv 0), o 25 (mv 2), o 26 (mv 10), o 27 (.bin .add (T 25) (T 26)), o 28 (.idxSl 14 (T 24) (T 27)), o 29 (ln 14 28), o 30 (mv 0), o 31 (mv 1), o 32 (mv 10), o 33 (.bin .add (T 31) (T 32)), o 34 (.idxSl 14 (T 30) (T 33)), o 35 (ln 14 34), o 36 (.idxSl 14 (T 16) (T 19)), on (st 14 36 29)]
def r78_6t : LO := [o 37 (.idxSl 14 (T 20) (T 23)), on (st 14 37 35)]
def r78_6o : LN := [[], [], [], [1, 2], [], [], [], [5, 6], [], [], [], [9, 10], [8, 11], [12], [], [], [], [15, 16], [14, 17], [18], [0, 1, 2, 3, 8, 9, 10, 11, 12, 13, 19], [0, 1, 2, 3, 8, 9, 10, 11, 12, 13, 19, 20]]
def r78_8 : LO := [o 14 (mv 10), o 15 (.bin .add (T 14) (ci 1)), o 10 (mv 15)]
def k78_2 : ACode := .seq (.block 1 (.drawn r78_6o r78_6 r78_6t)) (.region r78_8)
def k78_3 : ACode := .seq (.seq (.region r78_1) k78_1) k78_2
def k78_4 : ACode := .block 0 (.loop k78_3)
def k78_5 : ACode := .seq (.region r78_0) k78_4
theorem fn78 : getFn Tryd.prog 78 = some (38, k78_5, []) := by kernel_rfl
def q78_0 (r : (List (GValue × GValue))) : QP := qio 0 [] (.tuple []) (cellsOf eGPair' r) []
def q78_2 (r : (List (GValue × GValue))) : QP := inBlockA 0 (q78_0 r)
def slices_swapRangeCmpFunc_Pair_j2 (ij1 : Int) (n0 : Nat) (a : Int) (b : Int) (n : Int) (lj2 : (List (GValue × GValue))) (r : (List (GValue × GValue))) : Prop := DL Tryd.prog 38 1 0 k78_3 (q78_2 r) [(10, aI ij1), (0, .row 0 0 14 n0 n0), (1, aI a), (2, aI b), (3, aI n)] ⟨[some (cellsOf eGPair' lj2)], [], []⟩
theorem slices_swapRangeCmpFunc_Pair_j2_step (ij1 : Int) (n0 : Nat) (a : Int) (b : Int) (n : Int) (lj2 : (List (GValue × GValue))) (r : (List (GValue × GValue))) (hw : ((decide (ij1 < n)) = true -> (0 <= (wI (b + ij1)) /\ (wI (b + ij1)) < (n0 : Int)) /\ (∃ y3, lj2[(wI (b + ij1)).toNat]? = some y3 /\ ((0 <= (wI (a + ij1)) /\ (wI (a + ij1)) < (n0 : Int)) /\ (∃ y4, lj2[(wI (a + ij1)).toNat]? = some y4 /\ ((0 <= (wI (a + ij1)) /\ (wI (a + ij1)) < (n0 : Int)) /\ ((wI (a + ij1)).toNat < lj2.length /\ ((0 <= (wI (b + ij1)) /\ (wI (b + ij1)) < (n0 : Int)) /\ ((wI (b + ij1)).toNat < (lj2.set (wI (a + ij1)).toNat y3).length /\ (slices_swapRangeCmpFunc_Pair_j2 (wI (ij1 + 1)) n0 a b n ((lj2.set (wI (a + ij1)).toNat y3).set (wI (b + ij1)).toNat y4) r))))))))) /\ ((decide (ij1 < n)) = false -> lj2 ≠ [] /\ r = lj2)) : slices_swapRangeCmpFunc_Pair_j2 ij1 n0 a b n lj2 r := by
 refine dl_unroll (d_seqQ (ds (va 3 [(13, aB (decide (ij1 < n)))] (ve (dw hw (fun _ hw => ?_) (fun _ hw => ?_))))))
 ·refine d_skip (d_seqQ (d_blockQ (dL 21 [(0, (cellsOf eGPair' lj2))] rfl (sa 1 12 [(27, aI (wI (b + ij1))), (24, .row 0 0 14 n0 n0), (23, aI (wI (b + ij1))), (20, .row 0 0 14 n0 n0), (19, aI (wI (a + ij1))), (16, .row 0 0 14 n0 n0)] (hK := (km_L km_d)) ?_))))
  obtain ⟨h0, hw⟩ := hw
  refine sq rfl (fun _ _ => x_ridx 0 n0 n0 h0) rfl ?_
  obtain ⟨y3, hy, hw⟩ := hw
  refine sq rfl (y_rldn (sz := 14) (r := 0) (e := eGPair') (i := (wI (b + ij1)).toNat) (cs := (eGPair y3)) (off := (0 + (wI (b + ij1)).toNat * 14)) (fun _ => by rw [eGPair'_eq]; rfl) (fun _ => by rw [eGPair'_eq]; rfl) hy (eGPair'_eq _) (by omega) (List.mem_of_getElem? (i := 0) rfl)) rfl (sa 1 4 [(33, aI (wI (a + ij1))), (30, .row 0 0 14 n0 n0)] (hK := (km_L km_d)) ?_)
  obtain ⟨h0, hw⟩ := hw
  refine sq rfl (fun _ _ => x_ridx 0 n0 n0 h0) rfl ?_
  obtain ⟨y4, hy, hw⟩ := hw
  refine sq rfl (y_rldn (sz := 14) (r := 0) (e := eGPair') (i := (wI (a + ij1)).toNat) (cs := (eGPair y4)) (off := (0 + (wI (a + ij1)).toNat * 14)) (fun _ => by rw [eGPair'_eq]; rfl) (fun _ => by rw [eGPair'_eq]; rfl) hy (eGPair'_eq _) (by omega) (List.mem_of_getElem? (i := 0) rfl)) rfl ?_
  obtain ⟨h0, hw⟩ := hw
  refine sq rfl (fun _ _ => x_ridx 0 n0 n0 h0) rfl (send ?_)
  obtain ⟨h0, hw⟩ := hw
  refine ⟨_, _, (x_rst (sz := 14) (r := 0) (e := eGPair') (i := (wI (a + ij1)).toNat) (off := (0 + (wI (a + ij1)).toNat * 14)) (l := lj2) (av := .agg (eGPair y3)) y3 (fun _ => by rw [eGPair'_eq]; rfl) (fun _ => by rw [eGPair'_eq]; rfl) h0 (eGPair'_eq _) (by omega)), ?_⟩
  obtain ⟨h0, hw⟩ := hw
  refine vo rfl (x_ridx 0 n0 n0 h0) rfl ?_
  obtain ⟨h0, hw⟩ := hw
  exact vw rfl (x_rst (sz := 14) (r := 0) (e := eGPair') (i := (wI (b + ij1)).toNat) (off := (0 + (wI (b + ij1)).toNat * 14)) (l := (lj2.set (wI (a + ij1)).toNat y3)) (av := .agg (eGPair y4)) y4 (fun _ => by rw [eGPair'_eq]; rfl) (fun _ => by rw [eGPair'_eq]; rfl) h0 (eGPair'_eq _) (by omega)) (ve (dr (va 3 [(10, aI (wI (ij1 + 1)))] (ve (jl0 hw)))))
 exact d_exit (riorn rowE_GPair hw)
theorem slices_swapRangeCmpFunc_Pair_step (n0 : Nat) (data : (List (GValue × GValue))) (a : Int) (b : Int) (n : Int) (cmp : GFn) (r : (List (GValue × GValue))) (hw : slices_swapRangeCmpFunc_Pair_j2 0 n0 a b n data r) : slices_swapRangeCmpFunc_Pair n0 data a b n cmp r := by
 exact f_rio fn78 nle rfl (ds (va 1 [(10, aI 0)] (ve (d_blockQ (d_loopQ (jl0 hw))))))
def r79_0 : LO := [o 6 (mb false)]
def r79_1 : LO := [o 7 (mv 2), o 8 (.bin .eql (T 7) (.c (.v (.int .i32 65533)))), o 9 (mv 8), og 10 (mv 0) 9 true, og 11 (mv 1) 9 true, og 12 (.sliceS (T 10) (some (T 11)) none) 9 true, og 13 (.call (cf 87) [(T 12), (.c (aS ⟨#[239, 191, 189]⟩))]) 9 true, og 14 (.un .not (T 13)) 9 true, o 15 (.pick (T 9) (T 14) (cb false)), o 6 (mv 15)]
def k79_1 : ACode := .seq (.region r79_1) .ret
def k79_2 : ACode := .seq (.region r79_0) k79_1
theorem fn79 : getFn Tryd.prog 79 = some (16, k79_2, [.tmp 6]) := by kernel_rfl
end
theorem tok_nil {P : Program} : TblOK P [] := fun g x h => by cases h
theorem tok_cons {P : Program} {T : Tbl} {g : Nat} {x : Nat × ACode × List ARes} (h : getFn P g = some x) (ht : TblOK P T) : TblOK P ((g, x) :: T) := fun g2 x2 hm => by
 rcases List.mem_cons.1 hm with h2 | h2
 ·cases h2; exact h
 ·exact ht g2 x2 h2
theorem run_pureN {P : Program} {T : Tbl} {M : Nat -> Bool -> Bool} {md : Bool} (hT : TblOK P T) (n : Nat) {f : FuncId} {args : List AV} {gl : List (Nat × List AV)} {a : AV} (he : (fnAt T M md (evC T M n) f args ⟨[], [], gl⟩).map (fun r => outV r.2 r.1) = some a) (hp : plain a = true) : PureN P gl f args (nz a) := by
 have h := run_pure hT n he hp
 refine ⟨h.1, fun w outer cargs ho hg hr => (h.2 w outer cargs ho hg hr).mono fun e w1 hq => ?_⟩
 obtain ⟨b, x, q1, q2, q3, rfl⟩ := hq
 exact ⟨b, x, q1, q2, q3, rfl⟩
def CGPair (cmp : GFn) (x y : (GValue × GValue)) (z : Int) : Prop := FCall Tryd.prog [] (.clo (.func cmp.fn) cmp.fi cmp.cap) [.agg (eGPair x), .agg (eGPair y)] (.v (.int .i64 z))
def sortGPair (cmp : GFn) : SortP ((GValue × GValue)) (CGPair cmp) where
 swj := fun a0 a1 a2 a3 a4 a5 a6 => slices_swapRangeCmpFunc_Pair_j2 a0 a1 a2 a3 a4 a5 a6
 sw := fun a0 a1 a2 a3 a4 a6 => slices_swapRangeCmpFunc_Pair a0 a1 a2 a3 a4 cmp a6
 roj := fun a0 a1 a2 a3 a5 a6 => slices_rotateCmpFunc_Pair_j2 a0 a1 a2 a3 cmp a5 a6
 ro := fun a0 a1 a2 a3 a4 a6 => slices_rotateCmpFunc_Pair a0 a1 a2 a3 a4 cmp a6
 in6 := fun a0 a1 a2 a3 a4 a6 a7 => slices_insertionSortCmpFunc_Pair_j6 a0 a1 a2 a3 a4 cmp a6 a7
 in4 := fun a0 a1 a2 a3 a5 a6 => slices_insertionSortCmpFunc_Pair_j4 a0 a1 a2 a3 cmp a5 a6
 ins := fun a0 a1 a2 a3 a5 => slices_insertionSortCmpFunc_Pair a0 a1 a2 a3 cmp a5
 sy6 := fun a0 a1 a2 a3 a4 => slices_symMergeCmpFunc_Pair_j6 a0 a1 a2 a3 a4
 sy4 := fun a0 a1 a2 a3 a5 a6 => slices_symMergeCmpFunc_Pair_j4 a0 a1 a2 a3 cmp a5 a6
 sy12 := fun a0 a1 a2 a3 a4 => slices_symMergeCmpFunc_Pair_j12 a0 a1 a2 a3 a4
 sy10 := fun a0 a1 a2 a3 a5 a6 => slices_symMergeCmpFunc_Pair_j10 a0 a1 a2 a3 cmp a5 a6
 sy42 := fun a0 a1 a2 a3 a4 a6 a7 => slices_symMergeCmpFunc_Pair_j42 a0 a1 a2 a3 a4 cmp a6 a7
 sy40 := fun a0 a1 a2 a3 a4 a6 a7 => slices_symMergeCmpFunc_Pair_j40 a0 a1 a2 a3 a4 cmp a6 a7
 sy36 := fun a0 a1 a2 a3 a4 a5 a7 a8 => slices_symMergeCmpFunc_Pair_j36 a0 a1 a2 a3 a4 a5 cmp a7 a8
 sy28 := fun a0 a1 a2 a3 a4 a5 a7 a8 => slices_symMergeCmpFunc_Pair_j28 a0 a1 a2 a3 a4 a5 cmp a7 a8
 sy := fun a0 a1 a2 a3 a4 a6 => slices_symMergeCmpFunc_Pair a0 a1 a2 a3 a4 cmp a6
 st14 := fun a0 a1 a2 a3 a4 a6 a7 => slices_stableCmpFunc_Pair_j14 a0 a1 a2 a3 a4 cmp a6 a7
 st12 := fun a0 a1 a2 a4 a5 => slices_stableCmpFunc_Pair_j12 a0 a1 a2 cmp a4 a5
 st8 := fun a0 a1 a2 a3 a5 a6 => slices_stableCmpFunc_Pair_j8 a0 a1 a2 a3 cmp a5 a6
 st := fun a0 a1 a2 a4 => slices_stableCmpFunc_Pair a0 a1 a2 cmp a4
 so := fun a0 a1 a3 => slices_SortStableFunc_LPair_Pair a0 a1 cmp a3
 h_swj := fun a0 a1 a2 a3 a4 a5 a6 h => slices_swapRangeCmpFunc_Pair_j2_step a0 a1 a2 a3 a4 a5 a6 h
 h_sw := fun a0 a1 a2 a3 a4 a6 h => slices_swapRangeCmpFunc_Pair_step a0 a1 a2 a3 a4 cmp a6 h
 h_roj := fun a0 a1 a2 a3 a5 a6 h => slices_rotateCmpFunc_Pair_j2_step a0 a1 a2 a3 cmp a5 a6 h
 h_ro := fun a0 a1 a2 a3 a4 a6 h => slices_rotateCmpFunc_Pair_step a0 a1 a2 a3 a4 cmp a6 h
 h_in6 := fun a0 a1 a2 a3 a4 a6 a7 h => slices_insertionSortCmpFunc_Pair_j6_step a0 a1 a2 a3 a4 cmp a6 a7 h
 h_in4 := fun a0 a1 a2 a3 a5 a6 h => slices_insertionSortCmpFunc_Pair_j4_step a0 a1 a2 a3 cmp a5 a6 h
 h_ins := fun a0 a1 a2 a3 a5 h => slices_insertionSortCmpFunc_Pair_step a0 a1 a2 a3 cmp a5 h
 h_sy6 := fun a0 a1 a2 a3 a4 h => slices_symMergeCmpFunc_Pair_j6_step a0 a1 a2 a3 a4 h
 h_sy4 := fun a0 a1 a2 a3 a5 a6 h => slices_symMergeCmpFunc_Pair_j4_step a0 a1 a2 a3 cmp a5 a6 h
 h_sy12 := fun a0 a1 a2 a3 a4 h => slices_symMergeCmpFunc_Pair_j12_step a0 a1 a2 a3 a4 h
 h_sy10 := fun a0 a1 a2 a3 a5 a6 h => slices_symMergeCmpFunc_Pair_j10_step a0 a1 a2 a3 cmp a5 a6 h
 h_sy42 := fun a0 a1 a2 a3 a4 a6 a7 h => slices_symMergeCmpFunc_Pair_j42_step a0 a1 a2 a3 a4 cmp a6 a7 h
 h_sy40 := fun a0 a1 a2 a3 a4 a6 a7 h => slices_symMergeCmpFunc_Pair_j40_step a0 a1 a2 a3 a4 cmp a6 a7 h
 h_sy36 := fun a0 a1 a2 a3 a4 a5 a7 a8 h => slices_symMergeCmpFunc_Pair_j36_step a0 a1 a2 a3 a4 a5 cmp a7 a8 h
 h_sy28 := fun a0 a1 a2 a3 a4 a5 a7 a8 h => slices_symMergeCmpFunc_Pair_j28_step a0 a1 a2 a3 a4 a5 cmp a7 a8 h
 h_sy := fun a0 a1 a2 a3 a4 a6 h => slices_symMergeCmpFunc_Pair_step a0 a1 a2 a3 a4 cmp a6 h
 h_st14 := fun a0 a1 a2 a3 a4 a6 a7 h => slices_stableCmpFunc_Pair_j14_step a0 a1 a2 a3 a4 cmp a6 a7 h
 h_st12 := fun a0 a1 a2 a4 a5 h => slices_stableCmpFunc_Pair_j12_step a0 a1 a2 cmp a4 a5 h
 h_st8 := fun a0 a1 a2 a3 a5 a6 h => slices_stableCmpFunc_Pair_j8_step a0 a1 a2 a3 cmp a5 a6 h
 h_st := fun a0 a1 a2 a4 h => slices_stableCmpFunc_Pair_step a0 a1 a2 cmp a4 h
 h_so := fun a0 a1 a3 h => slices_SortStableFunc_LPair_Pair_step a0 a1 cmp a3 h
theorem slices_SortStableFunc_LPair_Pair_nil_is (f : Nat) : slices_SortStableFunc_LPair_Pair_nil (⟨f, [], [], rfl⟩ : GFn) := by
 refine run_pureN (a := .tuple []) (T := [(13, (9, .region r13_0, [])), (32, (63, k32_23, [])), (51, (53, k51_10, []))]) (M := fun _ _ => false) (md := false) (tok_cons fn13 (tok_cons fn32 (tok_cons fn51 tok_nil))) 1000 ?_ rfl
 kernel_rfl
def cmpI (x y : Int) : Int := if x < y then -1 else if y < x then 1 else 0
theorem cmpI_is (x y : Int) : cmp_Compare_int x y (cmpI x y) := by
 refine cmp_Compare_int_step _ _ _ ⟨false, cmp_isNaN_int_step _ _ (by simp), false, cmp_isNaN_int_step _ _ (by simp), fun h => by simp at h, fun _ => ⟨fun h => by simp at h, fun _ => ⟨fun h => ?_, fun h => ⟨fun h2 => ?_, fun h2 => ?_⟩⟩⟩⟩
 ·simp at h; simp [cmpI, h]
 ·simp at h h2; simp [cmpI, h2]; omega
 ·simp at h h2; simp only [cmpI]; rw [if_neg (by omega), if_neg (by omega)]
theorem cmpI_cases (x y : Int) : (x < y /\ cmpI x y = -1) ∨ (x = y /\ cmpI x y = 0) ∨ (y < x /\ cmpI x y = 1) := by
 unfold cmpI
 split
 ·exact .inl ⟨by assumption, rfl⟩
 ·split
  ·exact .inr (.inr ⟨by assumption, rfl⟩)
  ·exact .inr (.inl ⟨by omega, rfl⟩)
theorem pre_num {α : Type} (k : α -> Int) : Pre (fun x y => cmpI (k x) (k y)) (fun _ : α => True) := by
 refine ⟨fun x y _ _ => ?_, fun x y z _ _ _ h1 h2 => ?_⟩
 ·rcases cmpI_cases (k x) (k y) with h | h | h <;> rcases cmpI_cases (k y) (k x) with g | g | g <;> simp only [h.2, g.2] <;> omega
 ·rcases cmpI_cases (k x) (k y) with h | h | h <;> rcases cmpI_cases (k y) (k z) with g | g | g <;> rcases cmpI_cases (k x) (k z) with e | e | e <;> simp only [h.2, g.2, e.2] at * <;> omega
theorem and_mant (a : Nat) : a &&& 4503599627370495 = a % 4503599627370496 := Nat.and_two_pow_sub_one_eq_mod a 52
theorem class_is (z : Nat) (hz : z < 18446744073709551616) : scalar_Class z (clsS z) := by
 have e1 : bitsOf .and .u64 (z : Int) 9218868437227405312 = ((z % 9223372036854775808 / 4503599627370496 * 4503599627370496 : Nat) : Int) := by
  have := bits_and_u64 z 9218868437227405312 hz (by omega)
  rw [and_exp] at this
  exact this
 have e2 : bitsOf .and .u64 (z : Int) 4503599627370495 = ((z % 4503599627370496 : Nat) : Int) := by
  have := bits_and_u64 z 4503599627370495 hz (by omega)
  rw [and_mant] at this
  exact this
 refine scalar_Class_step _ _ ?_
 rw [e1, e2]
 simp only [Bool.and_eq_true, Bool.and_eq_false_iff, beq_iff_eq, beq_eq_false_iff_ne, bne_iff_ne, bne_eq_false_iff_eq]
 unfold clsS
 refine ⟨fun h => ?_, fun h => ⟨fun h2 => ?_, fun h2 => ⟨fun h3 => ?_, fun h3 => ⟨fun h4 => ?_, fun h4 => ?_⟩⟩⟩⟩
 all_goals (repeat' split) <;> first | rfl | (exfalso; omega)
theorem rclass_is (z : Nat) (hz : z < 18446744073709551616) : ref04_Class z (clsS z) := by
 have e : (z : Int).tmod 9223372036854775808 = ((z % 9223372036854775808 : Nat) : Int) := rfl
 refine ref04_Class_step _ _ ?_
 rw [e]
 simp only [decide_eq_true_eq, decide_eq_false_iff_not, beq_iff_eq, beq_eq_false_iff_ne]
 unfold clsS
 refine ⟨fun h => ?_, fun h => ⟨fun h2 => ?_, fun h2 => ⟨fun h3 => ?_, fun h3 => ⟨fun h4 => ?_, fun h4 => ?_⟩⟩⟩⟩
 all_goals (repeat' split) <;> first | rfl | (exfalso; omega)
section
open Go.RowKit Go.ChangeShapes Go.WideShapes Go.ChangeAt
def TyV (P : Program) (n : Nat) (t : TypeId) (av : AV) : Prop :=
 match P.underlying t with
 | some (.struct _) | some (.array _ _) => ∃ avs, av = .agg avs /\ Ty P n t avs
 | _ => Ty P n t [av]
theorem cells_agg {σ : Sg} {avs : List AV} {cs : Array Value} (h : Cells σ avs cs.toList) : Rel σ (.agg avs) (.agg cs) := by
 refine .agg avs cs (by simpa using h.1) (fun i av hi => (h.2 i av hi).1) (fun i => cs.toList[i]?.getD (.bool false)) (fun i av hi => ?_) (fun i av hi => ?_)
 ·obtain ⟨_, x, hx, _⟩ := h.2 i av hi
  rw [hx]; simpa using hx
 ·obtain ⟨_, x, hx, hr⟩ := h.2 i av hi
  rw [hx]; exact hr
theorem cells_one {σ : Sg} {av : AV} {v : Value} (h : Cells σ [av] v.cells.toList) (hv : ∀ cs, v ≠ .agg cs) : Rel σ av v := by
 obtain ⟨_, x, hx, hr⟩ := h.2 0 av rfl
 cases v with
 | agg cs => exact absurd rfl (hv cs)
 | _ => simp [Value.cells] at hx; subst hx; exact hr
section
variable {H : Type} {enc : TypeId × Value -> H} {P : Program} {W : World} {base b0 : Nat} {spare : Nat -> Bool} {held : Bool}
theorem open_argV {ts : List TypeId} (ok : okTypes P ts = true) {t : TypeId} (ht : t ∈ ts) {v : Value} {d : DataW H} {p : List MemPlace} (hval : Value.okWide P W .any b0 t v) (h : DataW.Trod enc P W base spare held t v d p) (hw : Lightly P t d) :
  ∃ n av, Rel (bare W nowhere) av v /\ TyV P n t av /\ plain av = true := by
 obtain ⟨m, hm⟩ := h
 obtain ⟨avs, hc, hty, hpl⟩ := open_cells ok m t _ _ ht hm hw
 cases m with
 | zero => simp [DataW.trod] at hm
 | succ m =>
  have hok := List.all_eq_true.1 ok t ht
  unfold okT at hok
  unfold TyV
  unfold Value.okWide at hval
  split at hok
  ·rename_i k hu
   rw [hu] at hval
   simp only [Cell.okWide, hu, Cell.ok] at hval
   have h2 := hty; unfold Ty at h2; rw [hu] at h2
   obtain ⟨x, rfl, _⟩ := h2
   refine ⟨m + 1, _, cells_one hc (fun cs he => by subst he; simp at hval), by rw [hu]; exact hty, rfl⟩
  ·rename_i hu
   rw [hu] at hval
   simp only [Cell.okWide, hu, Cell.ok] at hval
   have h2 := hty; unfold Ty at h2; rw [hu] at h2
   obtain ⟨x, rfl⟩ := h2
   refine ⟨m + 1, _, cells_one hc (fun cs he => by subst he; simp at hval), by rw [hu]; exact hty, rfl⟩
  ·rename_i hu
   rw [hu] at hval
   simp only [Cell.okWide, hu, Cell.ok] at hval
   have h2 := hty; unfold Ty at h2; rw [hu] at h2
   obtain ⟨x, rfl, _⟩ := h2
   refine ⟨m + 1, _, cells_one hc (fun cs he => by subst he; simp at hval), by rw [hu]; exact hty, rfl⟩
  ·rename_i e hu
   rw [hu] at hval
   simp only [Cell.okWide, hu, Cell.ok] at hval
   have h2 := hty; unfold Ty at h2; rw [hu] at h2
   obtain ⟨x, rfl, _⟩ := h2
   refine ⟨m + 1, _, cells_one hc (fun cs he => by subst he; simp at hval), by rw [hu]; exact hty, by simpa [plainL] using hpl⟩
  ·rename_i fs hu
   rw [hu] at hval
   obtain ⟨cs, rfl, _⟩ := hval
   exact ⟨m + 1, .agg avs, cells_agg hc, by rw [hu]; exact ⟨avs, rfl, hty⟩, hpl⟩
  ·rename_i k e hu
   rw [hu] at hval
   obtain ⟨cs, rfl, _⟩ := hval
   exact ⟨m + 1, .agg avs, cells_agg hc, by rw [hu]; exact ⟨avs, rfl, hty⟩, hpl⟩
  ·cases hok
end
def typesIn (P : Program) (t : TypeId) : List TypeId :=
 match P.underlying t with
 | some (.slice e) => [e]
 | some (.struct fs) => fs.toList.map (·.type)
 | some (.array _ e) => [e]
 | _ => []
def typesAdd : List TypeId -> List TypeId -> List TypeId
 | l, [] => l
 | l, t :: r => typesAdd (if l.contains t then l else l ++ [t]) r
def typesFrom (P : Program) : Nat -> List TypeId -> List TypeId
 | 0, l => l
 | n + 1, l => typesFrom P n (typesAdd l (l.flatMap (typesIn P)))
theorem rels_nil' (σ : Sg) : Rels σ [] [] := ⟨rfl, fun i av h => by simp at h⟩
theorem rels_cons' {σ : Sg} {a : AV} {v : Value} {l : List AV} {xs : List Value} (h : Rel σ a v) (hr : Rels σ l xs) : Rels σ (a :: l) (v :: xs) := by
 refine ⟨by simp [hr.1], fun i av hi => ?_⟩
 cases i with
 | zero => simp at hi; subst hi; exact ⟨v, rfl, h⟩
 | succ i => obtain ⟨x, h1, h2⟩ := hr.2 i av (by simpa using hi); exact ⟨x, by simpa using h1, h2⟩
theorem nz_true {av : AV} (h : nz av = .v (.bool true)) : av = .v (.bool true) := by
 cases av with
 | v x => simpa [nz, nzA, nz1] using h
 | _ => simp [nz, nzA, nz1] at h
end
def I64 (n : Int) : Prop := -9223372036854775808 <= n /\ n <= 9223372036854775807
def U64 (n : Int) : Prop := 0 <= n /\ n < 18446744073709551616
def Sz (n : Nat) : Prop := n <= 140737488351232
structure OkRaw (x : GRaw) : Prop where
 num : I64 x.Num
 wire : I64 x.Wire
 bits : U64 x.Bits
 data : Sz x.Data.size
inductive OkD : GValue -> Prop
 | mk (v : GValue) (k : I64 v.Kind) (b : U64 v.Bits) (t : Sz v.Text.size) (l : Sz v.List_.length) (p : Sz v.Pairs.length) (s : Sz v.Slots.length) (r : Sz v.Raws.length)
   (hl : ∀ x ∈ v.List_, OkD x) (hk : ∀ x ∈ v.Pairs, OkD x.1) (hv : ∀ x ∈ v.Pairs, OkD x.2) (hn : ∀ x ∈ v.Slots, I64 x.1) (hs : ∀ x ∈ v.Slots, OkD x.2) (hr : ∀ x ∈ v.Raws, OkRaw x) (w : Sz (v.List_.length * 128) /\ Sz (v.Pairs.length * 256) /\ Sz (v.Slots.length * 136) /\ Sz (v.Raws.length * 40)) : OkD v
section
variable {P : Program} {n : Nat} {t : TypeId} {avs : List AV}
def TyL (P : Program) (m : Nat) : List TypeId -> List AV -> Prop
 | [], avs => avs = []
 | t :: ts, avs => ∃ a b, avs = a ++ b /\ Ty P m t a /\ TyL P m ts b
theorem tyL_of {m : Nat} : ∀ (fs : List Field) (parts : List (List AV)), parts.length = fs.length -> (∀ (i : Nat) (f : Field), fs[i]? = some f -> ∃ p, parts[i]? = some p /\ Ty P m f.type p) -> TyL P m (fs.map (·.type)) parts.flatten
 | [], [], _, _ => rfl
 | [], _ :: _, h, _ => by cases h
 | _ :: _, [], h, _ => by cases h
 | f :: fs, p :: parts, hl, h => by
  obtain ⟨q, hq, hty⟩ := h 0 f rfl
  cases hq
  exact ⟨p, parts.flatten, by simp, hty, tyL_of fs parts (by simpa using hl) fun i g hg => h (i + 1) g (by simpa using hg)⟩
def fieldTypes (P : Program) (t : TypeId) : Option (List TypeId) := match P.underlying t with | some (.struct fs) => some (fs.toList.map (·.type)) | _ => none
theorem ty_st {ts : List TypeId} (hu : fieldTypes P t = some ts) (h : Ty P n t avs) : ∃ m, n = m + 1 /\ TyL P m ts avs := by
 cases n with
 | zero => exact absurd h (by unfold Ty; exact id)
 | succ m =>
  unfold fieldTypes at hu
  unfold Ty at h
  split at hu
  ·rename_i fs hfs
   rw [hfs] at h
   obtain ⟨parts, rfl, hl, hp⟩ := h
   cases hu
   exact ⟨m, rfl, tyL_of fs.toList parts (by simpa using hl) (fun i f hf => hp i f (by simpa using hf))⟩
  ·cases hu
theorem ty_int {k : IntKind} (hu : P.underlying t = some (.int k)) (h : Ty P n t avs) : ∃ m, avs = [.v (.int k m)] /\ (Lit.int k m).wf = true := by
 cases n with
 | zero => exact absurd h (by unfold Ty; exact id)
 | succ m => unfold Ty at h; rw [hu] at h; exact h
theorem ty_i64 (hu : P.underlying t = some (.int .i64)) (h : Ty P n t avs) : ∃ m, avs = [.v (.int .i64 m)] /\ I64 m := by
 obtain ⟨m, h1, h2⟩ := ty_int hu h
 refine ⟨m, h1, ?_⟩
 simp only [Lit.wf, Bool.and_eq_true, decide_eq_true_eq] at h2
 exact h2
theorem ty_u64 (hu : P.underlying t = some (.int .u64)) (h : Ty P n t avs) : ∃ m, avs = [.v (.int .u64 m)] /\ U64 m := by
 obtain ⟨m, h1, h2⟩ := ty_int hu h
 refine ⟨m, h1, ?_⟩
 simp only [Lit.wf, Bool.and_eq_true, decide_eq_true_eq] at h2
 have e1 : IntKind.u64.min = 0 := by decide
 have e2 : IntKind.u64.max = 18446744073709551615 := by decide
 unfold U64
 omega
theorem ty_str (hu : P.underlying t = some .string) (h : Ty P n t avs) : ∃ s : ByteArray, avs = [.v (.string s)] /\ Sz s.size := by
 cases n with
 | zero => exact absurd h (by unfold Ty; exact id)
 | succ m => unfold Ty at h; rw [hu] at h; exact h
theorem ty_slw {e : TypeId} {G : Type} {enc : G -> List AV} {Ok : G -> Prop} (hu : P.underlying t = some (.slice e)) {w : Nat} (hw : P.bytesOf e = w) (hb : 1 <= P.bytesOf e) (hel : ∀ m avs, m < n -> Ty P m e avs -> ∃ x, avs = enc x /\ Ok x) (h : Ty P n t avs) : ∃ l : List G, avs = [.sl (l.map enc) .no] /\ (Sz l.length /\ Sz (l.length * w)) /\ ∀ x ∈ l, Ok x := by
 cases n with
 | zero => exact absurd h (by unfold Ty; exact id)
 | succ m =>
  unfold Ty at h; rw [hu] at h
  obtain ⟨els, rfl, hl, hty⟩ := h
  have hn : els.length <= 140737488351232 := Nat.le_trans (Nat.le_mul_of_pos_right _ hb) hl
  have : ∀ els : List (List AV), (∀ el ∈ els, Ty P m e el) -> ∃ l : List G, els = l.map enc /\ ∀ x ∈ l, Ok x := by
   intro els
   induction els with
   | nil => exact fun _ => ⟨[], rfl, fun x h => by cases h⟩
   | cons a els ih =>
    intro h
    obtain ⟨l, rfl, hl⟩ := ih fun el hel => h el (List.mem_cons_of_mem _ hel)
    obtain ⟨x, rfl, hx⟩ := hel m a (Nat.lt_succ_self m) (h a List.mem_cons_self)
    exact ⟨x :: l, rfl, fun y hy => (List.mem_cons.1 hy).elim (fun e => e ▸ hx) (hl y)⟩
  obtain ⟨l, rfl, hok⟩ := this els hty
  exact ⟨l, rfl, ⟨by simpa [Sz] using hn, by subst hw; simpa [Sz] using hl⟩, hok⟩
end
section
variable {n : Nat} {avs : List AV} {av : AV}
theorem op_raw (h : Ty Tryd.prog n 56 avs) : ∃ x, avs = eGRaw x /\ OkRaw x := by
 obtain ⟨m, rfl, a1, b1, rfl, h1, a2, b2, rfl, h2, a3, b3, rfl, h3, a4, b4, rfl, h4, rfl⟩ := ty_st (ts := [3, 3, 25, 9]) (by kernel_rfl) h
 obtain ⟨x1, rfl, k1⟩ := ty_i64 (by kernel_rfl) h1
 obtain ⟨x2, rfl, k2⟩ := ty_i64 (by kernel_rfl) h2
 obtain ⟨x3, rfl, k3⟩ := ty_u64 (by kernel_rfl) h3
 obtain ⟨x4, rfl, k4⟩ := ty_str (by kernel_rfl) h4
 exact ⟨⟨x1, x2, x3, x4⟩, rfl, ⟨k1, k2, k3, k4⟩⟩
theorem op_value : ∀ (n : Nat) (avs : List AV), Ty Tryd.prog n 30 avs -> ∃ x, avs = eGValue' x /\ OkD x := by
 intro n
 induction n using Nat.strongRecOn with
 | _ n ih =>
  intro avs h
  obtain ⟨m, rfl, a1, b1, rfl, h1, a2, b2, rfl, h2, a3, b3, rfl, h3, a4, b4, rfl, h4, a5, b5, rfl, h5, a6, b6, rfl, h6, a7, b7, rfl, h7, rfl⟩ := ty_st (ts := [3, 25, 9, 26, 22, 27, 28]) (by kernel_rfl) h
  obtain ⟨x1, rfl, k1⟩ := ty_i64 (by kernel_rfl) h1
  obtain ⟨x2, rfl, k2⟩ := ty_u64 (by kernel_rfl) h2
  obtain ⟨x3, rfl, k3⟩ := ty_str (by kernel_rfl) h3
  obtain ⟨x4, rfl, ⟨n4, w4⟩, k4⟩ := ty_slw (w := 128) (e := 30) (enc := eGValue') (Ok := OkD) (by kernel_rfl) (by kernel_rfl) (of_decide_eq_true (by kernel_rfl)) (fun k a hk ha => ih k (by omega) a ha) h4
  obtain ⟨x5, rfl, ⟨n5, w5⟩, k5⟩ := ty_slw (w := 256) (e := 32) (enc := eGPair') (Ok := fun x => OkD x.1 /\ OkD x.2) (by kernel_rfl) (by kernel_rfl) (of_decide_eq_true (by kernel_rfl)) (fun k a hk ha => by
   obtain ⟨q, rfl, a1, b1, rfl, h1, a2, b2, rfl, h2, rfl⟩ := ty_st (ts := [30, 30]) (by kernel_rfl) ha
   obtain ⟨y1, rfl, z1⟩ := ih q (by omega) _ h1
   obtain ⟨y2, rfl, z2⟩ := ih q (by omega) _ h2
   exact ⟨(y1, y2), by simp [eGPair'], z1, z2⟩) h5
  obtain ⟨x6, rfl, ⟨n6, w6⟩, k6⟩ := ty_slw (w := 136) (e := 38) (enc := eGSlot') (Ok := fun x => I64 x.1 /\ OkD x.2) (by kernel_rfl) (by kernel_rfl) (of_decide_eq_true (by kernel_rfl)) (fun k a hk ha => by
   obtain ⟨q, rfl, a1, b1, rfl, h1, a2, b2, rfl, h2, rfl⟩ := ty_st (ts := [3, 30]) (by kernel_rfl) ha
   obtain ⟨y1, rfl, z1⟩ := ty_i64 (by kernel_rfl) h1
   obtain ⟨y2, rfl, z2⟩ := ih q (by omega) _ h2
   exact ⟨(y1, y2), by simp [eGSlot'], z1, z2⟩) h6
  obtain ⟨x7, rfl, ⟨n7, w7⟩, k7⟩ := ty_slw (w := 40) (e := 56) (enc := eGRaw) (Ok := OkRaw) (by kernel_rfl) (by kernel_rfl) (of_decide_eq_true (by kernel_rfl)) (fun k a hk ha => op_raw ha) h7
  refine ⟨⟨x1, x2, x3, x4, x5, x6, x7⟩, ?_, .mk _ k1 k2 k3 n4 n5 n6 n7 k4 (fun x hx => (k5 x hx).1) (fun x hx => (k5 x hx).2) (fun x hx => (k6 x hx).1) (fun x hx => (k6 x hx).2) k7 ⟨w4, w5, w6, w7⟩⟩
  rw [eGValue'_eq]; rfl
theorem op_pair (h : Ty Tryd.prog n 32 avs) : ∃ x, avs = eGPair' x /\ OkD x.1 /\ OkD x.2 := by
 obtain ⟨q, rfl, a1, b1, rfl, h1, a2, b2, rfl, h2, rfl⟩ := ty_st (ts := [30, 30]) (by kernel_rfl) h
 obtain ⟨y1, rfl, z1⟩ := op_value _ _ h1
 obtain ⟨y2, rfl, z2⟩ := op_value _ _ h2
 exact ⟨(y1, y2), by simp [eGPair'], z1, z2⟩
end
def lexi {α : Type} (c : α -> α -> Int) : List α -> List α -> Int
 | [], [] => 0
 | [], _ :: _ => -1
 | _ :: _, [] => 1
 | x :: l, y :: m => if c x y ≠ 0 then c x y else lexi c l m
theorem comp_law {α : Type} {J : Int -> List α -> List α -> Int -> Prop} {C : α -> α -> Int -> Prop} (c : α -> α -> Int)
  (step : ∀ i s t r, ((decide (i < (s.length : Int))) = true -> ∃ y4, s[i.toNat]? = some y4 /\ 0 <= i /\ (((decide ((t.length : Int) <= i)) = true -> r = 1) /\ ((decide ((t.length : Int) <= i)) = false -> ∃ y5, t[i.toNat]? = some y5 /\ 0 <= i /\ (∃ y6, C y4 y5 y6 /\ (((y6 != 0) = true -> r = y6) /\ ((y6 != 0) = false -> J (wI (i + 1)) s t r)))))) /\ ((decide (i < (s.length : Int))) = false -> ((decide ((s.length : Int) < (t.length : Int))) = true -> r = (-1)) /\ ((decide ((s.length : Int) < (t.length : Int))) = false -> r = 0)) -> J i s t r)
  (s t : List α) (hs : s.length <= 140737488351232) (hC : ∀ x ∈ s, ∀ y ∈ t, C x y (c x y)) : J 0 s t (lexi c s t) := by
 have key : ∀ (d i : Nat), s.length - i <= d -> i <= s.length -> i <= t.length -> J i s t (lexi c (s.drop i) (t.drop i)) := by
  intro d
  induction d with
  | zero =>
   intro i hd hi hj
   have e : i = s.length := by omega
   subst e
   refine step _ _ _ _ ⟨fun h => by simp at h, fun _ => ⟨fun h => ?_, fun h => ?_⟩⟩
   ·simp at h
    rw [List.drop_length, List.drop_eq_getElem_cons h]
    rfl
   ·simp at h
    rw [List.drop_length, List.drop_eq_nil_of_le h]
    rfl
  | succ d ih =>
   intro i hd hi hj
   rcases Nat.lt_or_ge i s.length with hlt | hge
   ·have e1 : wI ((i : Int) + 1) = ((i + 1 : Nat) : Int) := by rw [wI, wrapI (by omega)]; omega
    have ds : s.drop i = s[i] :: s.drop (i + 1) := List.drop_eq_getElem_cons hlt
    refine step _ _ _ _ ⟨fun _ => ⟨s[i], by simp, by omega, fun h => ?_, fun h => ?_⟩, fun h => by simp at h; omega⟩
    ·simp at h
     rw [ds, List.drop_eq_nil_of_le h]
     rfl
    ·simp at h
     have dt : t.drop i = t[i] :: t.drop (i + 1) := List.drop_eq_getElem_cons h
     refine ⟨t[i], by simp, by omega, c s[i] t[i], hC _ (List.getElem_mem _) _ (List.getElem_mem _), fun h2 => ?_, fun h2 => ?_⟩
     ·simp at h2
      rw [ds, dt]
      simp [lexi, h2]
     ·simp at h2
      rw [ds, dt, e1]
      have := ih (i + 1) (by omega) (by omega) (by omega)
      simpa [lexi, h2] using this
   ·have e : i = s.length := by omega
    subst e
    refine step _ _ _ _ ⟨fun h => by simp at h, fun _ => ⟨fun h => ?_, fun h => ?_⟩⟩
    ·simp at h
     rw [List.drop_length, List.drop_eq_getElem_cons h]
     rfl
    ·simp at h
     rw [List.drop_length, List.drop_eq_nil_of_le h]
     rfl
 simpa using key s.length 0 (by omega) (by omega) (by omega)
def orL : List Int -> Int
 | [] => 0
 | x :: l => if x ≠ 0 then x else orL l
theorem or_is (l : List Int) (hl : l.length <= 1000) : cmp_Or_int l (orL l) := by
 refine cmp_Or_int_step _ _ ?_
 have key : ∀ (d i : Nat), l.length - i <= d -> i <= l.length -> cmp_Or_int_j2 i l (orL (l.drop i)) := by
  intro d
  induction d with
  | zero =>
   intro i hd hi
   exact cmp_Or_int_j2_step _ _ _ ⟨fun h => by simp at h; omega, fun _ => by rw [List.drop_eq_nil_of_le (by omega)]; rfl⟩
  | succ d ih =>
   intro i hd hi
   rcases Nat.lt_or_ge i l.length with hlt | hge
   ·have e1 : wI ((i : Int) + 1) = ((i + 1 : Nat) : Int) := by rw [wI, wrapI (by omega)]; omega
    have ds : l.drop i = l[i] :: l.drop (i + 1) := List.drop_eq_getElem_cons hlt
    refine cmp_Or_int_j2_step _ _ _ ⟨fun _ => ⟨l[i], by simp, by omega, fun h => ?_, fun h => ?_⟩, fun h => by simp at h; omega⟩
    ·simp at h
     rw [ds]; simp [orL, h]
    ·simp at h
     rw [ds, e1]
     have := ih (i + 1) (by omega) (by omega)
     simpa [orL, h] using this
   ·exact cmp_Or_int_j2_step _ _ _ ⟨fun h => by simp at h; omega, fun _ => by rw [List.drop_eq_nil_of_le hge]; rfl⟩
 simpa using key l.length 0 (by omega) (by omega)
def cmpB (x y : ByteArray) : Int := if Op.bytesLess x.toList y.toList = true then -1 else if (!(Op.bytesLess x.toList y.toList || x.toList == y.toList)) = true then 1 else 0
theorem cmpB_is (x y : ByteArray) : cmp_Compare_string x y (cmpB x y) := by
 refine cmp_Compare_string_step _ _ _ ⟨false, cmp_isNaN_string_step _ _ (by simp), false, cmp_isNaN_string_step _ _ (by simp), fun h => by simp at h, fun _ => ⟨fun h => by simp at h, fun _ => ⟨fun h => ?_, fun h => ⟨fun h2 => ?_, fun h2 => ?_⟩⟩⟩⟩
 ·simp [cmpB, h]
 ·unfold cmpB; rw [if_neg (by rw [h]; simp), if_pos h2]
 ·unfold cmpB; rw [if_neg (by rw [h]; simp), if_neg (by rw [h2]; simp)]
theorem cmpU_is (x y : Int) : cmp_Compare_uint64 x y (cmpI x y) := by
 refine cmp_Compare_uint64_step _ _ _ ⟨false, cmp_isNaN_uint64_step _ _ (by simp), false, cmp_isNaN_uint64_step _ _ (by simp), fun h => by simp at h, fun _ => ⟨fun h => by simp at h, fun _ => ⟨fun h => ?_, fun h => ⟨fun h2 => ?_, fun h2 => ?_⟩⟩⟩⟩
 ·simp at h; simp [cmpI, h]
 ·simp at h h2; simp [cmpI, h2]; omega
 ·simp at h h2; simp only [cmpI]; rw [if_neg (by omega), if_neg (by omega)]
def placeI (x : Int) : Int := if ((clsS x.toNat : Int) == 0) = true then 18446744073709551615 else if ((bitsOf .and .u64 x 9223372036854775808) != 0) = true then bitsOf .xor .u64 (IntKind.u64.max) x else bitsOf .or .u64 x 9223372036854775808
theorem place_is (x : Int) (hx : U64 x) : scalar_place x (placeI x) := by
 have hc := class_is x.toNat (by have := hx.2; omega)
 rw [show ((x.toNat : Nat) : Int) = x from Int.toNat_of_nonneg hx.1] at hc
 refine scalar_place_step _ _ ⟨_, hc, fun h => ?_, fun h => ⟨fun h2 => ?_, fun h2 => ?_⟩⟩
 ·unfold placeI; rw [if_pos h]
 ·unfold placeI; rw [if_neg (by rw [h]; simp), if_pos h2]
 ·unfold placeI; rw [if_neg (by rw [h]; simp), if_neg (by rw [h2]; simp)]
def isS (k : Int) : Bool := (decide (1 <= k)) && (decide (k <= 9))
def cmpS (a b : GValue) : Int :=
 if ((a.Kind == 7) || (a.Kind == 8)) = true then cmpB a.Text b.Text
 else if ((a.Kind == 2) || (a.Kind == 3)) = true then cmpI (wI a.Bits) (wI b.Bits)
 else if (a.Kind == 6) = true then cmpI (placeI a.Bits) (placeI b.Bits)
 else cmpI a.Bits b.Bits
theorem nt {b : Bool} (h : b = false) : ¬ b = true := by rw [h]; simp
theorem cmpS_is (a b : GValue) (hk : a.Kind = b.Kind) (hs : isS a.Kind = true) (ha : U64 a.Bits) (hb : U64 b.Bits) : scalar_Cmp a b (cmpS a b) := by
 refine scalar_Cmp_step _ _ _ ⟨fun h => by simp [hk] at h, fun _ => ⟨true, scalar_Is_step _ _ hs.symm, fun h => by simp at h, fun _ => ⟨_, scalar_texty_step _ _ rfl, fun h => ⟨_, cmpB_is _ _, ?_⟩, fun h => ⟨fun h2 => ⟨_, cmpI_is _ _, ?_⟩, fun h2 => ⟨fun h3 => ⟨_, place_is _ ha, _, place_is _ hb, _, cmpU_is _ _, ?_⟩, fun h3 => ⟨_, cmpU_is _ _, ?_⟩⟩⟩⟩⟩⟩
 ·unfold cmpS; rw [if_pos h]
 ·unfold cmpS; rw [if_neg (nt h), if_pos h2]
 ·unfold cmpS; rw [if_neg (nt h), if_neg (nt h2), if_pos h3]
 ·unfold cmpS; rw [if_neg (nt h), if_neg (nt h2), if_neg (nt h3)]
def cmpR (x y : GRaw) : Int := orL [cmpI x.Num y.Num, cmpI x.Wire y.Wire, cmpI x.Bits y.Bits, cmpB x.Data y.Data]
def cmpVn : Nat -> GValue -> GValue -> Int
 | 0, _, _ => 0
 | n + 1, a, b =>
  if a.Kind ≠ b.Kind then cmpI a.Kind b.Kind
  else if isS a.Kind = true then cmpS a b
  else if a.Kind = 11 then lexi (cmpVn n) a.List_ b.List_
  else if a.Kind = 12 then lexi (fun x y => orL [cmpVn n x.1 y.1, cmpVn n x.2 y.2]) a.Pairs b.Pairs
  else if a.Kind = 10 then orL [lexi (fun x y => orL [cmpI x.1 y.1, cmpVn n x.2 y.2]) a.Slots b.Slots, lexi cmpR a.Raws b.Raws]
  else 0
def contV (v : GValue) : GAny :=
 if isS v.Kind = true then .a_order_one v else if (v.Kind == 11) = true then .a_order_list v.List_ else if (v.Kind == 12) = true then .a_order_pairs v.Pairs else if (v.Kind == 10) = true then .a_order_parts ⟨v.Slots, v.Raws⟩ else .nil
theorem cont_is (v : GValue) : order_contents v (contV v) := by
 refine order_contents_step _ _ ⟨_, scalar_Is_step _ _ rfl, fun h => ?_, fun h => ⟨fun h1 => ?_, fun h1 => ⟨fun h2 => ?_, fun h2 => ⟨fun h3 => ?_, fun h3 => ?_⟩⟩⟩⟩
 ·unfold contV isS; rw [if_pos h]
 ·unfold contV isS; rw [if_neg (nt h), if_pos h1]
 ·unfold contV isS; rw [if_neg (nt h), if_neg (nt h1), if_pos h2]
 ·unfold contV isS; rw [if_neg (nt h), if_neg (nt h1), if_neg (nt h2), if_pos h3]
 ·unfold contV isS; rw [if_neg (nt h), if_neg (nt h1), if_neg (nt h2), if_neg (nt h3)]
theorem OkD.inv {v : GValue} (h : OkD v) : I64 v.Kind /\ U64 v.Bits /\ (Sz v.List_.length /\ Sz v.Pairs.length /\ Sz v.Slots.length /\ Sz v.Raws.length) /\ (∀ x ∈ v.List_, OkD x) /\ (∀ x ∈ v.Pairs, OkD x.1 /\ OkD x.2) /\ (∀ x ∈ v.Slots, OkD x.2) := by
 cases h with
 | mk _ k b t l p s r hl hk hv hn hs hr w => exact ⟨k, b, ⟨l, p, s, r⟩, hl, fun x hx => ⟨hk x hx, hv x hx⟩, hs⟩
theorem OkD.w {v : GValue} (h : OkD v) : Sz (v.List_.length * 128) /\ Sz (v.Pairs.length * 256) /\ Sz (v.Slots.length * 136) /\ Sz (v.Raws.length * 40) := by
 cases h with
 | mk _ _ _ _ _ _ _ _ _ _ _ _ _ _ w => exact w
theorem raw_is (x y : GRaw) : order_cmpRaw x y (cmpR x y) := order_cmpRaw_step _ _ _ ⟨_, cmpI_is _ _, _, cmpI_is _ _, _, cmpU_is _ _, _, cmpB_is _ _, _, or_is _ (by simp), rfl⟩
theorem szL {a x : GValue} (h : x ∈ a.List_) : SizeOf.sizeOf x < SizeOf.sizeOf a := by
 have := List.sizeOf_lt_of_mem h
 cases a; simp at this ⊢; omega
theorem szP {a : GValue} {x : GValue × GValue} (h : x ∈ a.Pairs) : SizeOf.sizeOf x.1 < SizeOf.sizeOf a /\ SizeOf.sizeOf x.2 < SizeOf.sizeOf a := by
 have := List.sizeOf_lt_of_mem h
 cases a; cases x; simp at this ⊢; omega
theorem szS {a : GValue} {x : Int × GValue} (h : x ∈ a.Slots) : SizeOf.sizeOf x.2 < SizeOf.sizeOf a := by
 have := List.sizeOf_lt_of_mem h
 cases a; cases x; simp at this ⊢; omega
theorem szV (a : GValue) : 0 < SizeOf.sizeOf a := by cases a; simp; omega
theorem cmp_is : ∀ (n : Nat) (a b : GValue), OkD a -> OkD b -> SizeOf.sizeOf a <= n -> order_Cmp a b (cmpVn n a b)
 | 0, a, b, _, _, h => by have := szV a; omega
 | n + 1, a, b, ha, hb, hn => by
  obtain ⟨_, hab, ⟨la, pa, sa, ra⟩, hla, hpa, hsa⟩ := ha.inv
  obtain ⟨_, hbb, _, hlb, hpb, hsb⟩ := hb.inv
  refine order_Cmp_step _ _ _ ⟨fun h => ⟨_, cmpI_is _ _, ?_⟩, fun h => ⟨_, cont_is b, _, cont_is a, ?_⟩⟩
  ·simp at h
   rw [cmpVn, if_pos h]
  have hk : a.Kind = b.Kind := by simpa using h
  rw [cmpVn, if_neg (by simp [hk])]
  by_cases h1 : isS a.Kind = true
  ·have ea : contV a = .a_order_one a := by unfold contV; rw [if_pos h1]
   rw [if_pos h1, ea]
   refine ⟨fun y hy => ?_, fun hn => (hn a rfl).elim⟩
   cases hy
   exact ⟨_, cmpS_is a b hk h1 hab hbb, rfl⟩
  ·rw [if_neg h1]
   by_cases h2 : a.Kind = 11
   ·have ea : contV a = .a_order_list a.List_ := by unfold contV; rw [if_neg h1, if_pos (by simp [h2])]
    have eb : contV b = .a_order_list b.List_ := by unfold contV; rw [if_neg (by rw [← hk]; exact h1), if_pos (by simp [← hk, h2])]
    rw [if_pos h2, ea, eb]
    refine ⟨fun y hy => (by cases hy), fun _ => ⟨fun y hy => ?_, fun hn => (hn _ rfl).elim⟩⟩
    cases hy
    refine ⟨_, rfl, _, slices_CompareFunc_order_list_order_list_Value_Value_step _ _ _ _ (comp_law (J := fun i s t r => slices_CompareFunc_order_list_order_list_Value_Value_j2 i s t (⟨6, [], [], rfl⟩ : GFn) r) (cmpVn n) (fun i s t r hw => slices_CompareFunc_order_list_order_list_Value_Value_j2_step _ _ _ _ _ hw) _ _ la fun x hx y hy => ?_), rfl⟩
    exact ⟨6, [], [], rfl, (show plainL [AV.agg (eGValue x), AV.agg (eGValue y)] = true by simp [plainL, plain, pl_GValue]), cmp_is n x y (hla x hx) (hlb y hy) (by have := szL hx; omega)⟩
   ·rw [if_neg h2]
    by_cases h3 : a.Kind = 12
    ·have ea : contV a = .a_order_pairs a.Pairs := by unfold contV; rw [if_neg h1, if_neg (by simp [h2]), if_pos (by simp [h3])]
     have eb : contV b = .a_order_pairs b.Pairs := by unfold contV; rw [if_neg (by rw [← hk]; exact h1), if_neg (by simp [← hk, h2]), if_pos (by simp [← hk, h3])]
     rw [if_pos h3, ea, eb]
     refine ⟨fun y hy => (by cases hy), fun _ => ⟨fun y hy => (by cases hy), fun _ => ⟨fun y hy => ?_, fun hn => (hn _ rfl).elim⟩⟩⟩
     cases hy
     refine ⟨_, rfl, _, slices_CompareFunc_order_pairs_order_pairs_Pair_Pair_step _ _ _ _ (comp_law (J := fun i s t r => slices_CompareFunc_order_pairs_order_pairs_Pair_Pair_j2 i s t (⟨21, [], [], rfl⟩ : GFn) r) (fun x y => orL [cmpVn n x.1 y.1, cmpVn n x.2 y.2]) (fun i s t r hw => slices_CompareFunc_order_pairs_order_pairs_Pair_Pair_j2_step _ _ _ _ _ hw) _ _ pa fun x hx y hy => ?_), rfl⟩
     have hz := szP hx
     exact ⟨21, [], [], rfl, (show plainL [AV.agg (eGPair x), AV.agg (eGPair y)] = true by simp [plainL, plain, pl_GPair]), order_cmpPair_step _ _ _ ⟨_, cmp_is n _ _ (hpa x hx).1 (hpb y hy).1 (by omega), _, cmp_is n _ _ (hpa x hx).2 (hpb y hy).2 (by omega), _, or_is _ (by simp), rfl⟩⟩
    ·rw [if_neg h3]
     by_cases h4 : a.Kind = 10
     ·have ea : contV a = .a_order_parts ⟨a.Slots, a.Raws⟩ := by unfold contV; rw [if_neg h1, if_neg (by simp [h2]), if_neg (by simp [h3]), if_pos (by simp [h4])]
      have eb : contV b = .a_order_parts ⟨b.Slots, b.Raws⟩ := by unfold contV; rw [if_neg (by rw [← hk]; exact h1), if_neg (by simp [← hk, h2]), if_neg (by simp [← hk, h3]), if_pos (by simp [← hk, h4])]
      rw [if_pos h4, ea, eb]
      refine ⟨fun y hy => (by cases hy), fun _ => ⟨fun y hy => (by cases hy), fun _ => ⟨fun y hy => (by cases hy), fun _ => ⟨fun y hy => ?_, fun hn => (hn _ rfl).elim⟩⟩⟩⟩
      cases hy
      refine ⟨_, rfl, _, slices_CompareFunc_LSlot_LSlot_Slot_Slot_step _ _ _ _ (comp_law (J := fun i s t r => slices_CompareFunc_LSlot_LSlot_Slot_Slot_j2 i s t (⟨24, [], [], rfl⟩ : GFn) r) (fun x y => orL [cmpI x.1 y.1, cmpVn n x.2 y.2]) (fun i s t r hw => slices_CompareFunc_LSlot_LSlot_Slot_Slot_j2_step _ _ _ _ _ hw) _ _ sa fun x hx y hy => ?_), _, slices_CompareFunc_LRaw_LRaw_Raw_Raw_step _ _ _ _ (comp_law (J := fun i s t r => slices_CompareFunc_LRaw_LRaw_Raw_Raw_j2 i s t (⟨26, [], [], rfl⟩ : GFn) r) cmpR (fun i s t r hw => slices_CompareFunc_LRaw_LRaw_Raw_Raw_j2_step _ _ _ _ _ hw) _ _ ra fun x hx y hy => ?_), _, or_is _ (by simp), rfl⟩
      ·have hz := szS hx
       exact ⟨24, [], [], rfl, (show plainL [AV.agg (eGSlot x), AV.agg (eGSlot y)] = true by simp [plainL, plain, pl_GSlot]), order_cmpSlot_step _ _ _ ⟨_, cmpI_is _ _, _, cmp_is n _ _ (hsa x hx) (hsb y hy) (by omega), _, or_is _ (by simp), rfl⟩⟩
      ·exact ⟨26, [], [], rfl, (show plainL [AV.agg (eGRaw x), AV.agg (eGRaw y)] = true by simp [plainL, plain, pl_GRaw]), raw_is x y⟩
     ·have ea : contV a = .nil := by unfold contV; rw [if_neg h1, if_neg (by simp [h2]), if_neg (by simp [h3]), if_neg (by simp [h4])]
      rw [if_neg h4, ea]
      exact ⟨fun y hy => (by cases hy), fun _ => ⟨fun y hy => (by cases hy), fun _ => ⟨fun y hy => (by cases hy), fun _ => ⟨fun y hy => (by cases hy), fun _ => rfl⟩⟩⟩⟩
theorem xor_max (a : Nat) (h : a < 18446744073709551616) : bitsOf .xor .u64 (IntKind.u64.max) (a : Int) = ((18446744073709551615 - a : Nat) : Int) := by
 have e3 : bitsOf .xor .u64 (IntKind.u64.max) (a : Int) = IntKind.u64.wrap (((BitVec.allOnes 64 ^^^ BitVec.ofInt 64 (a : Int)).toNat : Nat) : Int) := rfl
 rw [e3, BitVec.xor_comm]
 exact xor_u64_ones a h
theorem and_sign (a : Nat) (h : a < 18446744073709551616) : (bitsOf .and .u64 (a : Int) 9223372036854775808 != 0) = decide (9223372036854775808 <= a) := by
 have e := bits_and_u64 a 9223372036854775808 h (by omega)
 rw [show ((9223372036854775808 : Nat) : Int) = 9223372036854775808 from rfl] at e
 rw [e]
 by_cases h1 : 9223372036854775808 <= a
 ·have ea : a = (a - 9223372036854775808) ||| 9223372036854775808 := by
   have e2 := or_add (a - 9223372036854775808) 1 63 (by rw [show (2 : Nat) ^ 63 = 9223372036854775808 by decide]; omega)
   rw [Nat.one_mul, show (2 : Nat) ^ 63 = 9223372036854775808 by decide] at e2
   rw [e2]; omega
  have e3 : a &&& 9223372036854775808 = 9223372036854775808 := by
   rw [ea]
   apply Nat.eq_of_testBit_eq
   intro i
   rw [Nat.testBit_and, Nat.testBit_or]
   generalize Nat.testBit (a - 9223372036854775808) i = t
   generalize Nat.testBit 9223372036854775808 i = u
   cases t <;> cases u <;> rfl
  rw [e3]; simp [h1]
 ·have e3 : a &&& 9223372036854775808 = 0 := by
   apply Nat.eq_of_testBit_eq
   intro i
   rw [Nat.testBit_and, show (9223372036854775808 : Nat) = 2 ^ 63 by decide, Nat.testBit_two_pow]
   by_cases hi : 63 = i
   ·subst hi
    rw [Nat.testBit_lt_two_pow (by rw [show (2 : Nat) ^ 63 = 9223372036854775808 by decide]; omega)]
    simp
   ·simp [hi]
  rw [e3]; simp [h1]
theorem or_sign (a : Nat) (h : a < 9223372036854775808) : bitsOf .or .u64 (a : Int) 9223372036854775808 = ((a + 9223372036854775808 : Nat) : Int) := by
 have e := bits_or_u64 a 9223372036854775808 (by omega) (by omega)
 rw [show ((9223372036854775808 : Nat) : Int) = 9223372036854775808 from rfl] at e
 rw [e]
 have e2 := or_add a 1 63 (by rw [show (2 : Nat) ^ 63 = 9223372036854775808 by decide]; exact h)
 rw [Nat.one_mul, show (2 : Nat) ^ 63 = 9223372036854775808 by decide] at e2
 rw [e2]
theorem placeI_eq (x : Int) (hx : U64 x) : placeI x = if clsS x.toNat = 0 then 18446744073709551615 else if 9223372036854775808 <= x then wU (18446744073709551615 - x) else wU (x + 9223372036854775808) := by
 obtain ⟨h1, h2⟩ := hx
 have hz : x = (x.toNat : Int) := by omega
 generalize x.toNat = z at hz
 subst hz
 unfold placeI
 rw [and_sign z (by omega), xor_max z (by omega)]
 have e0 : (Int.toNat (z : Int)) = z := by omega
 rw [e0]
 by_cases h3 : clsS z = 0
 ·rw [if_pos h3, if_pos (by simp [h3])]
 ·rw [if_neg h3, if_neg (by simp; omega)]
  by_cases h4 : 9223372036854775808 <= z
  ·rw [if_pos (by simpa using h4), if_pos (by omega), wU, wrapU (by omega)]; omega
  ·rw [if_neg (by simpa using h4), if_neg (by omega), or_sign z (by omega), wU, wrapU (by omega)]; omega
def rankW (v : GValue) : Int := if v.Kind = 2 ∨ v.Kind = 3 then wU (v.Bits + 9223372036854775808) else if v.Kind ≠ 6 then v.Bits else placeI v.Bits
theorem rankW_is (v : GValue) (hb : U64 v.Bits) : ref04_rank v (rankW v) := by
 have hz : v.Bits = (v.Bits.toNat : Int) := by have := hb.1; omega
 have hc := rclass_is v.Bits.toNat (by have := hb.2; omega)
 rw [← hz] at hc
 unfold rankW
 rw [placeI_eq _ hb]
 refine ref04_rank_step _ _ ⟨_, ref04_signed_step _ _ rfl, fun h => ?_, fun h => ⟨fun h2 => ?_, fun h2 => ⟨_, hc, fun h3 => ?_, fun h3 => ⟨fun h4 => ?_, fun h4 => ?_⟩⟩⟩⟩
 all_goals simp only [Bool.or_eq_true, Bool.or_eq_false_iff, beq_iff_eq, beq_eq_false_iff_ne, bne_iff_ne, bne_eq_false_iff_eq, decide_eq_true_eq, decide_eq_false_iff_not, ne_eq] at *
 ·rw [if_pos h]
 ·rw [if_neg (by omega), if_pos h2]
 ·rw [if_neg (by omega), if_neg (by omega), if_pos (by omega)]
 ·rw [if_neg (by omega), if_neg (by omega), if_neg (by omega), if_pos h4]
 ·rw [if_neg (by omega), if_neg (by omega), if_neg (by omega), if_neg h4]
theorem cmpI_shift {x y x' y' : Int} (h1 : x < y ↔ x' < y') (h2 : y < x ↔ y' < x') : cmpI x y = cmpI x' y' := by
 unfold cmpI
 simp only [h1, h2]
theorem cmpS_rank (a b : GValue) (hk : a.Kind = b.Kind) (ht : ((a.Kind == 7) || (a.Kind == 8)) = false) (ha : U64 a.Bits) (hb : U64 b.Bits) : cmpS a b = cmpI (rankW a) (rankW b) := by
 unfold cmpS rankW
 rw [if_neg (nt ht), ← hk]
 by_cases h1 : a.Kind = 2 ∨ a.Kind = 3
 ·rw [if_pos (by simpa using h1), if_pos h1, if_pos h1]
  obtain ⟨a1, a2⟩ := ha
  obtain ⟨b1, b2⟩ := hb
  have key : ∀ z : Int, 0 <= z -> z < 18446744073709551616 -> (z < 9223372036854775808 /\ wI z = z /\ wU (z + 9223372036854775808) = z + 9223372036854775808) ∨ (9223372036854775808 <= z /\ wI z = z - 18446744073709551616 /\ wU (z + 9223372036854775808) = z - 9223372036854775808) := by
   intro z z1 z2
   rcases Int.lt_or_le z 9223372036854775808 with h | h
   ·exact .inl ⟨h, by rw [wI, wrapI (by omega)], by rw [wU, wrapU (by omega)]⟩
   ·refine .inr ⟨h, ?_, ?_⟩
    ·simp only [wI, IntKind.wrap, IntKind.bits, IntKind.signed, Bool.true_and, decide_eq_true_eq]; split <;> rename_i hq <;> first | omega | (simp at hq; omega)
    ·simp only [wU, IntKind.wrap, IntKind.bits, IntKind.signed, Bool.false_and, Bool.false_eq_true, if_false]; omega
  rcases key a.Bits a1 a2 with ⟨p1, p2, p3⟩ | ⟨p1, p2, p3⟩ <;> rcases key b.Bits b1 b2 with ⟨q1, q2, q3⟩ | ⟨q1, q2, q3⟩ <;> rw [p2, p3, q2, q3] <;> exact cmpI_shift (by omega) (by omega)
 ·rw [if_neg (by simpa using h1), if_neg h1, if_neg h1]
  by_cases h2 : a.Kind = 6
  ·rw [if_pos (by simp [h2]), if_neg (by simp [h2]), if_neg (by simp [h2])]
  ·rw [if_neg (by simp [h2]), if_pos h2, if_pos h2]
theorem rnum_is (x y : Int) : ref16_number x y (cmpI x y) := by
 refine ref16_number_step _ _ _ ⟨fun h => ?_, fun h => ⟨fun h2 => ?_, fun h2 => ?_⟩⟩
 ·simp at h; simp [cmpI, h]
 ·simp at h h2; simp [cmpI, h2]; omega
 ·simp at h h2; simp only [cmpI]; rw [if_neg (by omega), if_neg (by omega)]
theorem rcmpS_is (a b : GValue) (hk : a.Kind = b.Kind) (ha : U64 a.Bits) (hb : U64 b.Bits) : ref04_Cmp a b (if isS a.Kind = true then cmpS a b else 0) := by
 have tx : ref04_texts a.Kind ((a.Kind == 7) || (a.Kind == 8)) := ref04_texts_step _ _ rfl
 refine ref04_Cmp_step _ _ _ ⟨fun h => by simp [hk] at h, fun _ => ⟨fun h => by simp [hk] at h, fun _ => ⟨isS a.Kind, ref04_Is_step _ _ rfl, fun h => ?_, fun h => ?_⟩⟩⟩
 ·rw [if_neg (by simpa using h)]
 have hs : isS a.Kind = true := by simpa using h
 rw [if_pos hs]
 refine ⟨_, tx, fun h1 => ?_, fun h1 => ⟨_, tx, fun h2 => ?_, fun h2 => ⟨_, tx, fun h3 => ?_, fun h3 => ⟨_, rankW_is a ha, _, rankW_is b hb, fun h4 => ?_, fun h4 => ⟨_, rankW_is a ha, _, rankW_is b hb, fun h5 => ?_, fun h5 => ?_⟩⟩⟩⟩⟩
 ·rw [Bool.and_eq_true] at h1
  unfold cmpS cmpB
  rw [if_pos h1.1, if_pos h1.2]
 ·rw [Bool.and_eq_true] at h2
  rw [h2.1, Bool.true_and] at h1
  unfold cmpS cmpB
  rw [if_pos h2.1, if_neg (nt h1), if_pos h2.2]
 ·rw [h3, Bool.true_and] at h1 h2
  unfold cmpS cmpB
  rw [if_pos h3, if_neg (nt h1), if_neg (nt h2)]
 ·rw [cmpS_rank a b hk h3 ha hb]
  simp at h4
  simp [cmpI, h4]
 ·rw [cmpS_rank a b hk h3 ha hb]
  simp at h4 h5
  simp [cmpI, h5]; omega
 ·rw [cmpS_rank a b hk h3 ha hb]
  simp at h4 h5
  simp only [cmpI]; rw [if_neg (by omega), if_neg (by omega)]
theorem comp2_law {α : Type} {J : Int -> List α -> List α -> Int -> Prop} {C : α -> α -> Int -> Prop} (c : α -> α -> Int)
  (step : ∀ i s t r, (((decide (i < (s.length : Int))) && (decide (i < (t.length : Int)))) = true -> ∃ y6, s[i.toNat]? = some y6 /\ 0 <= i /\ (∃ y7, t[i.toNat]? = some y7 /\ 0 <= i /\ (∃ y8, C y6 y7 y8 /\ (((y8 != 0) = true -> r = y8) /\ ((y8 != 0) = false -> J (wI (i + 1)) s t r))))) /\ (((decide (i < (s.length : Int))) && (decide (i < (t.length : Int)))) = false -> ∃ y5, ref16_number (s.length : Int) (t.length : Int) y5 /\ (r = y5)) -> J i s t r)
  (s t : List α) (hs : s.length <= 140737488351232) (hC : ∀ x ∈ s, ∀ y ∈ t, C x y (c x y)) : J 0 s t (lexi c s t) := by
 have key : ∀ (d i : Nat), s.length - i <= d -> i <= s.length -> i <= t.length -> J i s t (lexi c (s.drop i) (t.drop i)) := by
  intro d
  induction d with
  | zero =>
   intro i hd hi hj
   refine step _ _ _ _ ⟨fun h => by simp at h; omega, fun _ => ⟨_, rnum_is _ _, ?_⟩⟩
   rw [List.drop_eq_nil_of_le (show s.length <= i by omega)]
   rcases Nat.lt_or_ge i t.length with h | h
   ·rw [List.drop_eq_getElem_cons h]
    simp only [lexi, cmpI]; rw [if_pos (by omega)]
   ·rw [List.drop_eq_nil_of_le h]
    simp only [lexi, cmpI]; rw [if_neg (by omega), if_neg (by omega)]
  | succ d ih =>
   intro i hd hi hj
   rcases Nat.lt_or_ge i s.length with hlt | hge
   ·have ds : s.drop i = s[i] :: s.drop (i + 1) := List.drop_eq_getElem_cons hlt
    rcases Nat.lt_or_ge i t.length with h | h
    ·have e1 : wI ((i : Int) + 1) = ((i + 1 : Nat) : Int) := by rw [wI, wrapI (by omega)]; omega
     have dt : t.drop i = t[i] :: t.drop (i + 1) := List.drop_eq_getElem_cons h
     refine step _ _ _ _ ⟨fun _ => ⟨s[i], by simp, by omega, t[i], by simp, by omega, c s[i] t[i], hC _ (List.getElem_mem _) _ (List.getElem_mem _), fun h2 => ?_, fun h2 => ?_⟩, fun h2 => by simp at h2; omega⟩
     ·simp at h2
      rw [ds, dt]
      simp [lexi, h2]
     ·simp at h2
      rw [ds, dt, e1]
      have := ih (i + 1) (by omega) (by omega) (by omega)
      simpa [lexi, h2] using this
    ·refine step _ _ _ _ ⟨fun h => by simp at h; omega, fun _ => ⟨_, rnum_is _ _, ?_⟩⟩
     rw [ds, List.drop_eq_nil_of_le h]
     simp only [lexi, cmpI]; rw [if_neg (by omega), if_pos (by omega)]
   ·refine step _ _ _ _ ⟨fun h => by simp at h; omega, fun _ => ⟨_, rnum_is _ _, ?_⟩⟩
    rw [List.drop_eq_nil_of_le hge]
    rcases Nat.lt_or_ge i t.length with h | h
    ·rw [List.drop_eq_getElem_cons h]
     simp only [lexi, cmpI]; rw [if_pos (by omega)]
    ·rw [List.drop_eq_nil_of_le h]
     simp only [lexi, cmpI]; rw [if_neg (by omega), if_neg (by omega)]
 simpa using key s.length 0 (by omega) (by omega) (by omega)
theorem cmpI_ne {x y : Int} : cmpI x y ≠ 0 ↔ x ≠ y := by
 rcases cmpI_cases x y with h | h | h <;> rw [h.2] <;> omega
theorem rraw_is (x y : GRaw) : ref16_raw x y (cmpR x y) := by
 unfold cmpR
 refine ref16_raw_step _ _ _ ⟨fun h => ⟨_, rnum_is _ _, ?_⟩, fun h => ⟨fun h2 => ⟨_, rnum_is _ _, ?_⟩, fun h2 => ⟨fun h3 => ?_, fun h3 => ⟨fun h4 => ?_, fun h4 => ⟨fun h5 => ?_, fun h5 => ⟨fun h6 => ?_, fun h6 => ?_⟩⟩⟩⟩⟩⟩
 ·simp at h
  simp only [orL]; rw [if_pos (cmpI_ne.2 h)]
 all_goals simp only [bne_eq_false_iff_eq] at h
 all_goals have e1 : cmpI x.Num y.Num = 0 := by rcases cmpI_cases x.Num y.Num with g | g | g <;> omega
 ·simp at h2
  simp only [orL, e1]; rw [if_neg (by simp), if_pos (cmpI_ne.2 h2)]
 all_goals simp only [bne_eq_false_iff_eq] at h2
 all_goals have e2 : cmpI x.Wire y.Wire = 0 := by rcases cmpI_cases x.Wire y.Wire with g | g | g <;> omega
 ·simp at h3
  have e3 : cmpI x.Bits y.Bits = -1 := by simp [cmpI, h3]
  simp [orL, e1, e2, e3]
 ·simp at h3 h4
  have e3 : cmpI x.Bits y.Bits = 1 := by simp [cmpI, h4]; omega
  simp [orL, e1, e2, e3]
 all_goals simp only [decide_eq_false_iff_not] at h3 h4
 all_goals have e3 : cmpI x.Bits y.Bits = 0 := by rcases cmpI_cases x.Bits y.Bits with g | g | g <;> omega
 ·simp [orL, e1, e2, e3, cmpB, h5]
 ·have e4 : cmpB x.Data y.Data = 1 := by unfold cmpB; rw [if_neg (nt h5), if_pos h6]
  simp [orL, e1, e2, e3, e4]
 ·have e4 : cmpB x.Data y.Data = 0 := by unfold cmpB; rw [if_neg (nt h5), if_neg (nt h6)]
  simp [orL, e1, e2, e3, e4]
theorem or2 (u v : Int) : orL [u, v] = if u ≠ 0 then u else v := by
 simp only [orL]
 by_cases hu : u = 0
 ·subst hu; by_cases hv : v = 0 <;> simp [hv]
 ·simp [hu]
theorem rcmp_is : ∀ (n : Nat) (a b : GValue), OkD a -> OkD b -> SizeOf.sizeOf a <= n -> ref16_Cmp a b (cmpVn n a b)
 | 0, a, b, _, _, h => by have := szV a; omega
 | n + 1, a, b, ha, hb, hn => by
  obtain ⟨_, hab, ⟨la, pa, sa, ra⟩, hla, hpa, hsa⟩ := ha.inv
  obtain ⟨_, hbb, _, hlb, hpb, hsb⟩ := hb.inv
  have sc : ∀ k : Int, k = 10 ∨ k = 11 ∨ k = 12 -> ¬ isS k = true := by
   intro k hk h
   unfold isS at h
   rw [Bool.and_eq_true, decide_eq_true_eq, decide_eq_true_eq] at h
   omega
  refine ref16_Cmp_step _ _ _ ⟨fun h => ⟨_, rnum_is _ _, ?_⟩, fun h => ?_⟩
  ·simp at h
   rw [cmpVn, if_pos h]
  have hk : a.Kind = b.Kind := by simpa using h
  rw [cmpVn, if_neg (by simp [hk])]
  refine ⟨fun h1 => ?_, fun h1 => ⟨fun h2 => ?_, fun h2 => ⟨fun h3 => ?_, fun h3 => ?_⟩⟩⟩
  all_goals simp only [beq_iff_eq, beq_eq_false_iff_ne] at *
  ·rw [if_neg (sc _ (by omega)), if_pos h1]
   exact ⟨_, ref16_lists_step _ _ _ (comp2_law (cmpVn n) (fun i s t r hw => ref16_lists_j2_step _ _ _ _ hw) _ _ la fun x hx y hy => rcmp_is n x y (hla x hx) (hlb y hy) (by have := szL hx; omega)), rfl⟩
  ·rw [if_neg (sc _ (by omega)), if_neg h1, if_pos h2]
   refine ⟨_, ref16_pairs_step _ _ _ (comp2_law (C := fun x y z => ∃ u v, ref16_Cmp x.1 y.1 u /\ ref16_Cmp x.2 y.2 v /\ z = orL [u, v]) (fun x y => orL [cmpVn n x.1 y.1, cmpVn n x.2 y.2]) (fun i s t r hw => ref16_pairs_j2_step _ _ _ _ ⟨fun h => ?_, hw.2⟩) _ _ pa fun x hx y hy => ?_), rfl⟩
   ·obtain ⟨y6, p1, p2, y7, q1, q2, z, ⟨u, v, c1, c2, rfl⟩, r1, r2⟩ := hw.1 h
    rw [or2] at r1 r2
    refine ⟨y6, p1, p2, y7, q1, q2, u, c1, fun hu => ?_, fun hu => ⟨y6, p1, p2, y7, q1, q2, v, c2, fun hv => ?_, fun hv => ?_⟩⟩
    ·have : u ≠ 0 := by simpa using hu
     rw [if_pos this] at r1
     exact r1 (by simpa using this)
    ·have : u = 0 := by simpa using hu
     rw [if_neg (by simp [this])] at r1
     exact r1 hv
    ·have : u = 0 := by simpa using hu
     rw [if_neg (by simp [this])] at r2
     exact r2 hv
   ·have hz := szP hx
    exact ⟨_, _, rcmp_is n _ _ (hpa x hx).1 (hpb y hy).1 (by omega), rcmp_is n _ _ (hpa x hx).2 (hpb y hy).2 (by omega), rfl⟩
  ·rw [if_neg (sc _ (by omega)), if_neg h1, if_neg h2, if_pos h3, or2]
   refine ⟨_, ref16_slots_step _ _ _ (comp2_law (C := fun x y z => ∃ u v, ref16_number x.1 y.1 u /\ ref16_Cmp x.2 y.2 v /\ z = orL [u, v]) (fun x y => orL [cmpI x.1 y.1, cmpVn n x.2 y.2]) (fun i s t r hw => ref16_slots_j2_step _ _ _ _ ⟨fun h => ?_, hw.2⟩) _ _ sa fun x hx y hy => ?_), fun h4 => ?_, fun h4 => ⟨_, ref16_raws_step _ _ _ (comp2_law cmpR (fun i s t r hw => ref16_raws_j2_step _ _ _ _ hw) _ _ ra fun x hx y hy => rraw_is x y), ?_⟩⟩
   ·obtain ⟨y6, p1, p2, y7, q1, q2, z, ⟨u, v, c1, c2, rfl⟩, r1, r2⟩ := hw.1 h
    rw [or2] at r1 r2
    refine ⟨y6, p1, p2, y7, q1, q2, u, c1, fun hu => ?_, fun hu => ⟨y6, p1, p2, y7, q1, q2, v, c2, fun hv => ?_, fun hv => ?_⟩⟩
    ·have : u ≠ 0 := by simpa using hu
     rw [if_pos this] at r1
     exact r1 (by simpa using this)
    ·have : u = 0 := by simpa using hu
     rw [if_neg (by simp [this])] at r1
     exact r1 hv
    ·have : u = 0 := by simpa using hu
     rw [if_neg (by simp [this])] at r2
     exact r2 hv
   ·have hz := szS hx
    exact ⟨_, _, rnum_is _ _, rcmp_is n _ _ (hsa x hx) (hsb y hy) (by omega), rfl⟩
   ·rw [if_pos (by simpa using h4)]
   ·rw [if_neg (by simpa using h4)]
  ·refine ⟨_, rcmpS_is a b hk hab hbb, ?_⟩
   by_cases hs : isS a.Kind = true
   ·rw [if_pos hs, if_pos hs]
   ·rw [if_neg hs, if_neg hs, if_neg h1, if_neg h2, if_neg h3]
end Go.Proofs.YtkcbmobdpenngaaDoor.Lift
