/- Part 5 of the texts that prove RowScalarsEnd. -/
import Derived.Test.YtidmmngcijapcaaGreatRowScalarsEndP2
namespace Go.Proofs.YtidmmngcijapcaaGreat.Lift
open Go.RowKit
set_option linter.unusedVariables false
set_option linter.unusedSimpArgs false
set_option linter.unnecessarySimpa false
set_option linter.unusedSectionVars false
set_option maxRecDepth 100000
section
attribute [-simp] List.map_take List.map_drop List.map_append List.map_set List.map_replicate List.map_cons List.map_map
attribute [local simp] plain plainL lowE lowB keepB low lowL lowLL plm_I_i8 plm_I_i16 plm_I_i32 plm_I_i64 plm_I_u8 plm_I_u16 plm_I_u32 plm_I_u64 plm_Bool plm_Str gfn_fi gfn_cap plm_Fn pl_GOp plm_GOp pl_GProg plm_GProg pl_GRaw plm_GRaw pl_GValue plm_GValue pl_GPair plm_GPair pl_GSlot plm_GSlot pl_GNote plm_GNote pl_GItem plm_GItem pl_GSpan plm_GSpan pl_GEnum plm_GEnum pl_GPlan plm_GPlan pl_GS26 plm_GS26 pl_GCursor plm_GCursor pl_GLimits eI_i8 eI_i16 eI_i32 eI_i64 eI_u8 eI_u16 eI_u32 eI_u64 eBool eStr eFn lwr_Bool lwm_I_u8 lwm_GEnum lwc_GValue lwc_GEnum lwc_GPlan lwc_GCursor
theorem plr80 (r : (Int × GCursor × Int)) : plain (e80 r) = true := (ptup (pcons rfl (pcons (pl_GCursor r.2.1) (pcons rfl rfl))))
def r80_0 : LO := [o 1 (bx 0), o 2 (.mv (.c (aU 0))), o 3 (.alloc [aE, (aI 0), (aI 0), (aI 0), (aI 0), (aI 0)]), o 4 (mi 0)]
def r80_1 : LO := [o 9 (ln 6 1), o 10 (.call (cf 137) [(T 9), (ci 10)]), o 11 (.call (cf 140) [(T 10)]), o 8 (mv 11), o 12 (.extract 0 (T 8)), o 13 (.extract 1 (T 8)), o 14 (.extract 2 (T 8)), o 5 (mv 12), o 6 (mv 13), o 7 (mv 14)]
def r80_2 : LO := [o 15 (mv 7), o 16 (.bin .neq (T 15) (ci 0))]
def r80_3 : LO := [o 17 (ln 6 1), o 18 (mv 7), o 2 (.mv (.c (aU 0))), on (st 6 3 17)]
def r80_3t : LO := [o 4 (mv 18)]
def r80_3o : LN := [[], [], [], [0, 2]]
def k80_1 : ACode := .cond (T 16) (.seq (.drawn r80_3o r80_3 r80_3t) .ret) .skip
def k80_2 : ACode := .seq (.region r80_2) k80_1
def r80_9 : LO := [o 19 (mv 5), o 20 (ln 6 1), o 21 (mv 6), o 22 (.call (cf 76) [(T 20), (T 21)]), o 2 (mv 19), on (st 6 3 22), o 4 (mi 0)]
def k80_3 : ACode := .seq (.region r80_9) .ret
def k80_4 : ACode := .seq k80_2 k80_3
def k80_5 : ACode := .seq (.region r80_1) k80_4
def k80_6 : ACode := .seq (.region r80_0) k80_5
theorem fn80 : getFn Tryz.prog 80 = some (23, k80_6, [.tmp 2, .cell 3 (some 6), .tmp 4]) := by kernel_rfl
theorem cursor_Varint_step (c : GCursor) (r : (Int × GCursor × Int)) (hw : ∃ y1, cursor_head c 10 y1 /\ (∃ y2, varint_Take y1 y2 /\ (((y2.2.2 != 0) = true -> r = (0, c, y2.2.2)) /\ ((y2.2.2 != 0) = false -> ∃ y3, cursor_ahead c y2.2.1 y3 /\ (r = (y2.1, y3, 0)))))) : cursor_Varint c r := by
 refine f_pureD fn80 nle rfl (ds (vg 4 [(3, .ptr 1 0), (1, .ptr 0 0)] [(eGCursor c), [aE, aI 0, aI 0, aI 0, aI 0, aI 0]] [] (ve (ds (va 1 [(9, .agg (eGCursor c))] ?_)))))
 obtain ⟨y1, hy, hw⟩ := hw
 refine vo rfl (x_call hy pl137) rfl ?_
 obtain ⟨y2, hy, hw⟩ := hw
 refine vo rfl (x_call hy pl140) rfl (va 7 [(7, aI y2.2.2), (6, aI y2.2.1), (5, aU y2.1)] (ve (d_seqQ (ds (va 2 [(16, aB (y2.2.2 != 0))] (ve (dw hw (fun _ hw => ?_) (fun _ hw => ?_))))))))
 ·exact d_seqQ (dS [(0, (eGCursor c))] (sa 1 3 [(2, aU 0), (18, aI y2.2.2), (17, .agg (eGCursor c))] (sw [] rfl (x_U (.tuple []) [] [(1, (eGCursor c))]) (send (vp_start' (va 1 [(4, aI y2.2.2)] (ve (d_ret (rx hw (plr80 _))))))))))
 refine d_skip (ds (va 3 [(21, aI y2.2.1), (20, .agg (eGCursor c)), (19, aU y2.1)] ?_))
 obtain ⟨y3, hy, hw⟩ := hw
 exact vo rfl (x_call hy pl76) rfl (vg 3 [(4, aI 0), (2, aU y2.1)] [] [(1, (eGCursor y3))] (ve (d_ret (rx hw (plr80 _)))))
theorem plr81 (r : Int) : plain (e81 r) = true := rfl
def r81_0 : LO := [o 2 (mi 0)]
def r81_1 : LO := [o 3 (mi 1)]
def r81_2 : LO := [o 4 (mv 0), o 5 (.bin .geq (T 4) (.c (aU 128)))]
def k81_1 : ACode := .cond (T 5) .skip (.exit 0)
def r81_7 : LO := [o 6 (mv 0), o 7 (.bin .shr (T 6) (.c (aU 7))), o 0 (mv 7)]
def r81_8 : LO := [o 8 (mv 3), o 9 (.bin .add (T 8) (ci 1)), o 3 (mv 9)]
def k81_2 : ACode := .block 1 (.seq (.region r81_7) (.region r81_8))
def k81_3 : ACode := .seq (.seq (.region r81_2) k81_1) k81_2
def r81_14 : LO := [o 10 (mv 3), o 2 (mv 10)]
def k81_4 : ACode := .seq (.region r81_14) .ret
def k81_5 : ACode := .seq (.block 0 (.loop k81_3)) k81_4
def k81_6 : ACode := .seq (.region r81_1) k81_5
def k81_7 : ACode := .seq (.region r81_0) k81_6
theorem fn81 : getFn Tryz.prog 81 = some (11, k81_7, [.tmp 2]) := by kernel_rfl
def q81_0 (r : Int) : QP := qret [.tmp 2] (e81 r)
def q81_3 (r : Int) : QP := tq Tryz.prog 11 k81_4 (q81_0 r)
def q81_4 (r : Int) : QP := inBlockA 0 (q81_3 r)
def varint_Len_j2 (ij1 : Int) (ij2 : Int) (r : Int) : Prop := DL Tryz.prog 11 0 0 k81_3 (q81_4 r) [(3, aI ij1), (0, aU ij2)] ⟨[], [], []⟩
theorem varint_Len_j2_step (ij1 : Int) (ij2 : Int) (r : Int) (hw : ((decide (128 <= ij2)) = true -> varint_Len_j2 (wI (ij1 + 1)) (ij2.fdiv (2 ^ min (7 : Int).toNat IntKind.u64.bits)) r) /\ ((decide (128 <= ij2)) = false -> r = ij1)) : varint_Len_j2 ij1 ij2 r := by
 refine dl_unroll (d_seqQ (ds (va 2 [(5, aB (decide (128 <= ij2)))] (ve (dw hw (fun _ hw => ?_) (fun _ hw => ?_))))))
 ·exact d_skip (d_blockQ (ds (va 3 [(0, aU (ij2.fdiv (2 ^ min (7 : Int).toNat IntKind.u64.bits)))] (ve (dr (va 3 [(3, aI (wI (ij1 + 1)))] (ve (jl0 hw))))))))
 exact d_exit (ds (va 2 [(2, aI ij1)] (ve (d_ret (rx hw (plr81 _))))))
theorem varint_Len_step (u : Int) (r : Int) (hw : varint_Len_j2 1 u r) : varint_Len u r := by
 exact f_pureD fn81 nle rfl (ds (va 1 [] (ve (ds (va 1 [(3, aI 1)] (ve (d_seqQ (d_blockQ (d_loopQ (jl0 hw))))))))))
theorem plr82 (r : Bool) : plain (e82 r) = true := rfl
def r82_0 : LO := [o 2 (mb false)]
def r82_1 : LO := [o 3 (mv 0), o 4 (.bin .geq (T 3) (ci 1)), o 5 (mv 4), og 6 (mv 0) 5 true, og 7 (.bin .leq (T 6) (ci 9)) 5 true, o 8 (.pick (T 5) (T 7) (cb false)), o 2 (mv 8)]
def k82_1 : ACode := .seq (.region r82_1) .ret
def k82_2 : ACode := .seq (.region r82_0) k82_1
theorem fn82 : getFn Tryz.prog 82 = some (9, k82_2, [.tmp 2]) := by kernel_rfl
theorem scalar_Is_step (kind : Int) (r : Bool) (hw : r = ((decide (1 <= kind)) && (decide (kind <= 9)))) : scalar_Is kind r := by
 refine f_pureD fn82 nle rfl (ds (va 1 [] (ve (ds (va 3 [(5, aB (decide (1 <= kind)))] (vj 5 8 6 (decide (1 <= kind)) (fun z => aB (z && (decide (kind <= 9)))) km_d (fun _ key => ?_) (fun _ key => ?_) ?_))))))
 ·exact va 2 [(7, aB (decide (kind <= 9)))] (va 1 [(8, aB (decide (kind <= 9)))] (vle km_d key))
 ·exact va 2 [(7, .tuple [])] (va 1 [(8, aB false)] (vle km_d key))
 exact va 1 [(2, aB ((decide (1 <= kind)) && (decide (kind <= 9))))] (ve (d_ret (rx hw (plr82 _))))
theorem plr83 (r : Bool) : plain (e83 r) = true := rfl
def r83_0 : LO := [o 1 (bx 0), o 2 (mb false)]
def r83_1 : LO := [o 3 (fa 3 1), o 4 (ld 3), o 5 (.len false (T 4)), o 6 (fa 4 1), o 7 (ld 6), o 8 (.len false (T 7)), o 9 (.bin .add (T 5) (T 8)), o 10 (fa 5 1), o 11 (ld 10), o 12 (.len false (T 11)), o 13 (.bin .add (T 9) (T 12)), o 14 (fa 6 1), o 15 (ld 14), o 16 (.len false (T 15)), o 17 (.bin .add (T 13) (T 16)), o 18 (.bin .gtr (T 17) (ci 0))]
def r83_2 : LO := [o 2 (mb false)]
def k83_1 : ACode := .cond (T 18) (.seq (.region r83_2) .ret) .skip
def k83_2 : ACode := .seq (.region r83_1) k83_1
def r83_8 : LO := [o 19 (fa 0 1), o 20 (ld 19), o 21 (.call (cf 141) [(T 20)])]
def r83_9 : LO := [o 22 (fa 1 1), o 23 (ld 22), o 24 (.bin .eql (T 23) (.c (aU 0))), o 2 (mv 24)]
def k83_3 : ACode := .cond (T 21) (.seq (.region r83_9) .ret) .skip
def k83_4 : ACode := .seq (.region r83_8) k83_3
def r83_15 : LO := [o 25 (fa 2 1), o 26 (ld 25), o 27 (.bin .eql (T 26) (.c aE)), o 2 (mv 27)]
def k83_5 : ACode := .seq (.region r83_15) .ret
def k83_6 : ACode := .seq k83_4 k83_5
def k83_7 : ACode := .seq k83_2 k83_6
def k83_8 : ACode := .seq (.region r83_0) k83_7
theorem fn83 : getFn Tryz.prog 83 = some (28, k83_8, [.tmp 2]) := by kernel_rfl
theorem scalar_lean_step (v : GValue) (r : Bool) (hw : ((decide (0 < (wI ((wI ((wI ((v.List_.length : Int) + (v.Pairs.length : Int))) + (v.Slots.length : Int))) + (v.Raws.length : Int))))) = true -> r = false) /\ ((decide (0 < (wI ((wI ((wI ((v.List_.length : Int) + (v.Pairs.length : Int))) + (v.Slots.length : Int))) + (v.Raws.length : Int))))) = false -> ∃ y1, scalar_texty v.Kind y1 /\ ((y1 = true -> r = (v.Bits == 0)) /\ (y1 = false -> r = (decide (v.Text = (⟨#[]⟩ : ByteArray))))))) : scalar_lean v r := by
 refine f_pureD fn83 nle rfl (ds (vg 2 [(1, .ptr 0 0)] [(eGValue v)] [] (ve (d_seqQ (ds (va 2 [(4, .sl (List.map eGValue' v.List_) .no)] (vo rfl (x_len v.List_ eGValue') rfl (va 2 [(7, .sl (List.map eGPair' v.Pairs) .no)] (vo rfl (x_len v.Pairs eGPair') rfl (va 3 [(11, .sl (List.map eGSlot' v.Slots) .no), (9, aI (wI ((v.List_.length : Int) + (v.Pairs.length : Int))))] (vo rfl (x_len v.Slots eGSlot') rfl (va 3 [(15, .sl (List.map eGRaw v.Raws) .no), (13, aI (wI ((wI ((v.List_.length : Int) + (v.Pairs.length : Int))) + (v.Slots.length : Int))))] (vo rfl (x_len v.Raws eGRaw) rfl (va 2 [(18, aB (decide (0 < (wI ((wI ((wI ((v.List_.length : Int) + (v.Pairs.length : Int))) + (v.Slots.length : Int))) + (v.Raws.length : Int))))))] (ve (dw hw (fun _ hw => ?_) (fun _ hw => ?_)))))))))))))))))
 ·exact ds (va 1 [(2, aB false)] (ve (d_ret (rx hw (plr83 _)))))
 refine d_skip (d_seqQ (ds (va 2 [(20, aI v.Kind)] ?_)))
 obtain ⟨y1, hy, hw⟩ := hw
 refine vo rfl (x_call hy pl141) rfl (ve (dw hw (fun _ hw => ?_) (fun _ hw => ?_)))
 ·exact ds (va 4 [(2, aB (v.Bits == 0))] (ve (d_ret (rx hw (plr83 _)))))
 exact d_skip (ds (va 2 [(26, aS v.Text)] (vo rfl (x_eqS v.Text (⟨#[]⟩ : ByteArray)) rfl (va 1 [(2, aB (decide (v.Text = (⟨#[]⟩ : ByteArray))))] (ve (d_ret (rx hw (plr83 _))))))))
theorem plr84 (r : Bool) : plain (e84 r) = true := rfl
def r84_0 : LO := [o 4 (mb false)]
def r84_1 : LO := [o 5 (.mv (.c (aU 4294967295)))]
def r84_2 : LO := [o 6 (mv 0)]
def r84_3 : LO := [o 8 (.bin .eql (T 6) (ci 1)), o 7 (mv 8)]
def k84_1 : ACode := .cond (T 7) (.exit 1) .skip
def r84_8 : LO := [o 10 (.bin .eql (T 6) (ci 2)), o 9 (mv 10)]
def k84_2 : ACode := .cond (T 9) (.exit 2) .skip
def r84_13 : LO := [o 12 (.bin .eql (T 6) (ci 9)), o 11 (mv 12)]
def k84_3 : ACode := .cond (T 11) (.exit 3) .skip
def r84_18 : LO := [o 14 (.bin .eql (T 6) (ci 4)), o 13 (mv 14)]
def k84_4 : ACode := .cond (T 13) (.exit 4) .skip
def k84_5 : ACode := .seq (.region r84_18) k84_4
def k84_6 : ACode := .seq (.seq (.region r84_13) k84_3) k84_5
def k84_7 : ACode := .seq (.seq (.region r84_8) k84_2) k84_6
def k84_8 : ACode := .seq (.seq (.region r84_3) k84_1) k84_7
def r84_29 : LO := [o 15 (mv 1), o 16 (.bin .leq (T 15) (.c (aU 1))), o 4 (mv 16)]
def k84_9 : ACode := .seq (.seq (.region r84_29) .ret) (.exit 0)
def k84_10 : ACode := .seq (.block 1 (.seq k84_8 (.exit 0))) k84_9
def r84_36 : LO := [o 17 (mv 1), o 18 (.conv (.num .i64) (T 17)), o 19 (.bin .geq (T 18) (ci (-2147483648))), o 20 (mv 19), og 21 (mv 1) 20 true, og 22 (.conv (.num .i64) (T 21)) 20 true, og 23 (.bin .leq (T 22) (ci 2147483647)) 20 true, o 24 (.pick (T 20) (T 23) (cb false)), o 4 (mv 24)]
def k84_11 : ACode := .seq (.seq (.region r84_36) .ret) (.exit 0)
def k84_12 : ACode := .seq (.block 2 k84_10) k84_11
def r84_43 : LO := [o 5 (.mv (.c (aU 2147483647)))]
def r84_46 : LO := [o 25 (mv 1), o 26 (mv 5), o 27 (.bin .leq (T 25) (T 26)), o 4 (mv 27)]
def k84_13 : ACode := .seq (.seq (.region r84_46) .ret) (.exit 0)
def k84_14 : ACode := .seq (.block 4 (.seq (.block 3 k84_12) (.region r84_43))) k84_13
def k84_15 : ACode := .block 0 k84_14
def r84_54 : LO := [o 4 (mb true)]
def k84_16 : ACode := .seq (.region r84_54) .ret
def k84_17 : ACode := .seq (.seq (.region r84_2) k84_15) k84_16
def k84_18 : ACode := .seq (.region r84_1) k84_17
def k84_19 : ACode := .seq (.region r84_0) k84_18
theorem fn84 : getFn Tryz.prog 84 = some (28, k84_19, [.tmp 4]) := by kernel_rfl
theorem scalar_within_step (kind : Int) (bits : Int) (r : Bool) (hw : ((kind == 1) = true -> r = (decide (bits <= 1))) /\ ((kind == 1) = false -> ((kind == 2) = true -> r = ((decide ((-2147483648) <= (wI bits))) && (decide ((wI bits) <= 2147483647)))) /\ ((kind == 2) = false -> ((kind == 9) = true -> r = (decide (bits <= 2147483647))) /\ ((kind == 9) = false -> ((kind == 4) = true -> r = (decide (bits <= 4294967295))) /\ ((kind == 4) = false -> r = true))))) : scalar_within kind bits r := by
 refine f_pureD fn84 nle rfl (ds (va 1 [] (ve (ds (va 1 [(5, aU 4294967295)] (ve (d_seqQ (ds (va 1 [(6, aI kind)] (ve (d_blockQ (d_seqQ (d_blockQ (d_seqQ (d_blockQ (d_seqQ (d_blockQ (d_seqQ (d_blockQ (d_seqQ (d_seqQ (ds (va 2 [(7, aB (kind == 1))] (ve (dw hw (fun _ hw => ?_) (fun _ hw => ?_))))))))))))))))))))))))))
 ·exact d_exit (d_seqQ (ds (va 3 [(4, aB (decide (bits <= 1)))] (ve (d_ret (rx hw (plr84 _)))))))
 refine d_skip (d_seqQ (ds (va 2 [(9, aB (kind == 2))] (ve (dw hw (fun _ hw => ?_) (fun _ hw => ?_))))))
 ·refine d_exit (d_seqQ (ds (va 4 [(20, aB (decide ((-2147483648) <= (wI bits))))] (vj 20 24 8 (decide ((-2147483648) <= (wI bits))) (fun z => aB (z && (decide ((wI bits) <= 2147483647)))) km_d (fun _ key => ?_) (fun _ key => ?_) ?_))))
  ·exact va 3 [(23, aB (decide ((wI bits) <= 2147483647)))] (va 1 [(24, aB (decide ((wI bits) <= 2147483647)))] (vle km_d key))
  ·exact va 3 [(23, .tuple [])] (va 1 [(24, aB false)] (vle km_d key))
  exact va 1 [(4, aB ((decide ((-2147483648) <= (wI bits))) && (decide ((wI bits) <= 2147483647))))] (ve (d_ret (rx hw (plr84 _))))
 refine d_skip (d_seqQ (ds (va 2 [(11, aB (kind == 9))] (ve (dw hw (fun _ hw => ?_) (fun _ hw => ?_))))))
 ·exact d_exit (dr (va 1 [(5, aU 2147483647)] (ve (d_seqQ (ds (va 4 [(4, aB (decide (bits <= 2147483647)))] (ve (d_ret (rx hw (plr84 _))))))))))
 refine d_skip (ds (va 2 [(13, aB (kind == 4))] (ve (dw hw (fun _ hw => ?_) (fun _ hw => ?_)))))
 ·exact d_exit (d_seqQ (ds (va 4 [(4, aB (decide (bits <= 4294967295)))] (ve (d_ret (rx hw (plr84 _)))))))
 exact d_skip (d_exit (ds (va 1 [(4, aB true)] (ve (d_ret (rx hw (plr84 _)))))))
theorem plr85 (r : Bool) : plain (e85 r) = true := rfl
def r85_0 : LO := [o 4 (mb false)]
def r85_1 : LO := [o 5 (mv 0), o 6 (mv 1), o 7 (.call (cf 142) [(T 5), (T 6)]), o 8 (.bin .geq (T 7) (ci 0)), o 4 (mv 8)]
def k85_1 : ACode := .seq (.region r85_1) .ret
def k85_2 : ACode := .seq (.region r85_0) k85_1
theorem fn85 : getFn Tryz.prog 85 = some (9, k85_2, [.tmp 4]) := by kernel_rfl
theorem slices_ContainsFunc_g85_step (s : (List GItem)) (f : GFn) (r : Bool) (hw : ∃ y1, slices_IndexFunc_g142 s f y1 /\ (r = (decide (0 <= y1)))) : slices_ContainsFunc_g85 s f r := by
 refine f_pureD fn85 nle rfl (ds (va 1 [] (ve (ds (va 2 [(6, .clo (.func f.fn) f.fi f.cap), (5, .sl (List.map eGItem s) .no)] ?_)))))
 obtain ⟨y1, hy, hw⟩ := hw
 exact vo rfl (x_call hy pl142) rfl (va 2 [(4, aB (decide (0 <= y1)))] (ve (d_ret (rx hw (plr85 _)))))
theorem plr87 (r : Int) : plain (e87 r) = true := rfl
def r87_0 : LO := [o 1 (bx 0), o 2 (mi 0)]
def r87_1 : LO := [o 3 (ln 6 1), o 4 (.call (cf 90) [(T 3)]), o 5 (.len true (T 4)), o 2 (mv 5)]
def k87_1 : ACode := .seq (.region r87_1) .ret
def k87_2 : ACode := .seq (.region r87_0) k87_1
theorem fn87 : getFn Tryz.prog 87 = some (6, k87_2, [.tmp 2]) := by kernel_rfl
theorem ref02_Left_step (c : GCursor) (r : Int) (hw : ∃ y1, ref02_rest c y1 /\ (r = (y1.size : Int))) : ref02_Left c r := by
 refine f_pureD fn87 nle rfl (ds (vg 2 [(1, .ptr 0 0)] [(eGCursor c)] [] (ve (ds (va 1 [(3, .agg (eGCursor c))] ?_)))))
 obtain ⟨y1, hy, hw⟩ := hw
 exact vo rfl (x_call hy pl90) rfl (vo rfl (x_lenS y1) rfl (va 1 [(2, aI (y1.size : Int))] (ve (d_ret (rx hw (plr87 _))))))
theorem plr88 (r : (ByteArray × GCursor × Int)) : plain (e88 r) = true := (ptup (pcons rfl (pcons (pl_GCursor r.2.1) (pcons rfl rfl))))
def r88_0 : LO := [o 2 (bx 0), o 4 (.mv (.c aE)), o 5 (.alloc [aE, (aI 0), (aI 0), (aI 0), (aI 0), (aI 0)]), o 6 (mi 0)]
def r88_1 : LO := [o 8 (ln 6 2), o 9 (.call (cf 90) [(T 8)]), o 7 (mv 9)]
def r88_2 : LO := [o 10 (mv 1), o 11 (.bin .lss (T 10) (ci 0))]
def r88_3 : LO := [o 12 (ln 6 2), o 4 (.mv (.c aE))]
def r88_3t : LO := [on (st 6 5 12), o 6 (mi 1)]
def r88_3o : LN := [[], []]
def k88_1 : ACode := .cond (T 11) (.seq (.drawn r88_3o r88_3 r88_3t) .ret) .skip
def k88_2 : ACode := .seq (.region r88_2) k88_1
def r88_9 : LO := [o 13 (mv 1), o 14 (mv 7), o 15 (.len true (T 14)), o 16 (.bin .gtr (T 13) (T 15))]
def r88_10 : LO := [o 17 (ln 6 2), o 4 (.mv (.c aE))]
def r88_10t : LO := [on (st 6 5 17), o 6 (mi 4)]
def r88_10o : LN := [[], []]
def k88_3 : ACode := .cond (T 16) (.seq (.drawn r88_10o r88_10 r88_10t) .ret) .skip
def r88_16 : LO := [o 18 (mv 1), o 19 (fa 5 2), o 20 (ld 19), o 21 (.bin .gtr (T 18) (T 20))]
def r88_17 : LO := [o 22 (ln 6 2), o 4 (.mv (.c aE))]
def r88_17t : LO := [on (st 6 5 22), o 6 (mi 3)]
def r88_17o : LN := [[], []]
def k88_4 : ACode := .cond (T 21) (.seq (.drawn r88_17o r88_17 r88_17t) .ret) .skip
def r88_23 : LO := [o 23 (mv 7), o 24 (mv 1), o 25 (.sliceS (T 23) none (some (T 24))), o 26 (ln 6 2), o 27 (mv 1), o 28 (.call (cf 91) [(T 26), (T 27)]), o 4 (mv 25)]
def r88_23t : LO := [on (st 6 5 28), o 6 (mi 0)]
def r88_23o : LN := [[], [], [0, 1], [], [], [3, 4], [0, 1, 2, 5]]
def k88_5 : ACode := .seq (.drawn r88_23o r88_23 r88_23t) .ret
def k88_6 : ACode := .seq (.seq (.region r88_16) k88_4) k88_5
def k88_7 : ACode := .seq (.seq (.region r88_9) k88_3) k88_6
def k88_8 : ACode := .seq k88_2 k88_7
def k88_9 : ACode := .seq (.region r88_1) k88_8
def k88_10 : ACode := .seq (.region r88_0) k88_9
theorem fn88 : getFn Tryz.prog 88 = some (29, k88_10, [.tmp 4, .cell 5 (some 6), .tmp 6]) := by kernel_rfl
theorem ref02_Text_step (c : GCursor) (n : Int) (r : (ByteArray × GCursor × Int)) (hw : ∃ y1, ref02_rest c y1 /\ (((decide (n < 0)) = true -> r = ((⟨#[]⟩ : ByteArray), c, 1)) /\ ((decide (n < 0)) = false -> ((decide ((y1.size : Int) < n)) = true -> r = ((⟨#[]⟩ : ByteArray), c, 4)) /\ ((decide ((y1.size : Int) < n)) = false -> ((decide (c.Text < n)) = true -> r = ((⟨#[]⟩ : ByteArray), c, 3)) /\ ((decide (c.Text < n)) = false -> (0 <= (0 : Int) /\ (0 : Int) <= n /\ n <= (y1.size : Int)) /\ (∃ y2, ref02_behind c n y2 /\ (r = ((y1.extract (0 : Int).toNat n.toNat), y2, 0)))))))) : ref02_Text c n r := by
 refine f_pureD fn88 nle rfl (ds (vg 4 [(5, .ptr 1 0), (2, .ptr 0 0)] [(eGCursor c), [aE, aI 0, aI 0, aI 0, aI 0, aI 0]] [] (ve (ds (va 1 [(8, .agg (eGCursor c))] ?_)))))
 obtain ⟨y1, hy, hw⟩ := hw
 refine vo rfl (x_call hy pl90) rfl (va 1 [(7, aS y1)] (ve (d_seqQ (ds (va 2 [(11, aB (decide (n < 0)))] (ve (dw hw (fun _ hw => ?_) (fun _ hw => ?_))))))))
 ·exact d_seqQ (dS [(0, (eGCursor c))] (sa 1 2 [(4, aE), (12, .agg (eGCursor c))] (send (vp_start' (vg 2 [(6, aI 1)] [] [(1, (eGCursor c))] (ve (d_ret (rx hw (plr88 _)))))))))
 refine d_skip (d_seqQ (ds (va 2 [(14, aS y1), (13, aI n)] (vo rfl (x_lenS y1) rfl (va 1 [(16, aB (decide ((y1.size : Int) < n)))] (ve (dw hw (fun _ hw => ?_) (fun _ hw => ?_))))))))
 ·exact d_seqQ (dS [(0, (eGCursor c))] (sa 1 2 [(4, aE), (17, .agg (eGCursor c))] (send (vp_start' (vg 2 [(6, aI 4)] [] [(1, (eGCursor c))] (ve (d_ret (rx hw (plr88 _)))))))))
 refine d_skip (d_seqQ (ds (va 4 [(21, aB (decide (c.Text < n)))] (ve (dw hw (fun _ hw => ?_) (fun _ hw => ?_))))))
 ·exact d_seqQ (dS [(0, (eGCursor c))] (sa 1 2 [(4, aE), (22, .agg (eGCursor c))] (send (vp_start' (vg 2 [(6, aI 3)] [] [(1, (eGCursor c))] (ve (d_ret (rx hw (plr88 _)))))))))
 refine d_skip (d_seqQ (dS [(0, (eGCursor c))] (sa 1 2 [(24, aI n), (23, aS y1)] ?_)))
 obtain ⟨h0, hw⟩ := hw
 refine sq rfl (fun _ _ => x_sliceS h0) rfl (sa 1 2 [(27, aI n), (26, .agg (eGCursor c))] ?_)
 obtain ⟨y2, hy, hw⟩ := hw
 exact sq rfl (y_call hy pl91) rfl (sa 1 1 [(4, aS (y1.extract (0 : Int).toNat n.toNat))] (send (vp_start' (vg 2 [(6, aI 0)] [] [(1, (eGCursor y2))] (ve (d_ret (rx hw (plr88 _))))))))
theorem plr89 (r : Bool) : plain (e89 r) = true := rfl
def r89_0 : LO := [o 2 (mb false)]
def r89_1 : LO := [o 3 (mv 0), o 4 (.call (cf 143) [(T 3)]), o 5 (.bin .lss (T 4) (ci 0)), o 2 (mv 5)]
def k89_1 : ACode := .seq (.region r89_1) .ret
def k89_2 : ACode := .seq (.region r89_0) k89_1
theorem fn89 : getFn Tryz.prog 89 = some (6, k89_2, [.tmp 2]) := by kernel_rfl
theorem ref03_Valid_step (s : ByteArray) (r : Bool) (hw : ∃ y1, ref03_Bad s y1 /\ (r = (decide (y1 < 0)))) : ref03_Valid s r := by
 refine f_pureD fn89 nle rfl (ds (va 1 [] (ve (ds (va 1 [(3, aS s)] ?_)))))
 obtain ⟨y1, hy, hw⟩ := hw
 exact vo rfl (x_call hy pl143) rfl (va 2 [(2, aB (decide (y1 < 0)))] (ve (d_ret (rx hw (plr89 _)))))
theorem plr90 (r : ByteArray) : plain (e90 r) = true := rfl
def r90_0 : LO := [o 1 (bx 0), o 2 (.mv (.c aE))]
def r90_1 : LO := [o 3 (ln 6 1), o 4 (.call (cf 144) [(T 3)]), o 5 (.un .not (T 4))]
def r90_2 : LO := [o 2 (.mv (.c aE))]
def k90_1 : ACode := .cond (T 5) (.seq (.region r90_2) .ret) .skip
def k90_2 : ACode := .seq (.region r90_1) k90_1
def r90_8 : LO := [o 6 (fa 0 1), o 7 (ld 6), o 8 (fa 1 1), o 9 (ld 8), o 10 (fa 2 1), o 11 (ld 10), o 12 (.sliceS (T 7) (some (T 9)) (some (T 11))), o 2 (mv 12)]
def k90_3 : ACode := .seq (.region r90_8) .ret
def k90_4 : ACode := .seq k90_2 k90_3
def k90_5 : ACode := .seq (.region r90_0) k90_4
theorem fn90 : getFn Tryz.prog 90 = some (13, k90_5, [.tmp 2]) := by kernel_rfl
theorem ref02_rest_step (c : GCursor) (r : ByteArray) (hw : ∃ y1, ref02_Sound c y1 /\ (((!y1) = true -> r = (⟨#[]⟩ : ByteArray)) /\ ((!y1) = false -> (0 <= c.At /\ c.At <= c.End /\ c.End <= (c.Data.size : Int)) /\ (r = (c.Data.extract c.At.toNat c.End.toNat))))) : ref02_rest c r := by
 refine f_pureD fn90 nle rfl (ds (vg 2 [(1, .ptr 0 0)] [(eGCursor c)] [] (ve (d_seqQ (ds (va 1 [(3, .agg (eGCursor c))] ?_))))))
 obtain ⟨y1, hy, hw⟩ := hw
 refine vo rfl (x_call hy pl144) rfl (va 1 [(5, aB (!y1))] (ve (dw hw (fun _ hw => ?_) (fun _ hw => ?_))))
 ·exact ds (va 1 [(2, aE)] (ve (d_ret (rx hw (plr90 _)))))
 refine d_skip (ds (va 6 [(11, aI c.End), (9, aI c.At), (7, aS c.Data)] ?_))
 obtain ⟨h0, hw⟩ := hw
 exact vo rfl (x_sliceS h0) rfl (va 1 [(2, aS (c.Data.extract c.At.toNat c.End.toNat))] (ve (d_ret (rx hw (plr90 _)))))
theorem plr91 (r : GCursor) : plain (e91 r) = true := (pl_GCursor r)
def r91_0 : LO := [o 2 (bx 0), o 4 (.alloc [aE, (aI 0), (aI 0), (aI 0), (aI 0), (aI 0)])]
def r91_1 : LO := [o 5 (fa 1 2), o 6 (ld 5), o 7 (mv 1), o 8 (.bin .add (T 6) (T 7)), o 9 (fa 1 2), on (st 1 9 8)]
def r91_2 : LO := [o 10 (ln 6 2), on (st 6 4 10)]
def k91_1 : ACode := .seq (.region r91_2) .ret
def k91_2 : ACode := .seq (.region r91_1) k91_1
def k91_3 : ACode := .seq (.region r91_0) k91_2
theorem fn91 : getFn Tryz.prog 91 = some (11, k91_3, [.cell 4 (some 6)]) := by kernel_rfl
theorem ref02_behind_step (c : GCursor) (n : Int) (r : GCursor) (hw : r = (⟨c.Data, (wI (c.At + n)), c.End, c.Depth, c.Nodes, c.Text⟩ : GCursor)) : ref02_behind c n r := by
 exact f_pureD fn91 nle rfl (ds (vg 2 [(4, .ptr 1 0), (2, .ptr 0 0)] [(eGCursor c), [aE, aI 0, aI 0, aI 0, aI 0, aI 0]] [] (ve (ds (vg 6 [] [] [(0, [aS c.Data, aI (wI (c.At + n)), aI c.End, aI c.Depth, aI c.Nodes, aI c.Text])] (ve (ds (vg 2 [] [] [(1, [aS c.Data, aI (wI (c.At + n)), aI c.End, aI c.Depth, aI c.Nodes, aI c.Text])] (ve (d_ret (rx hw (plr91 _))))))))))))
theorem plr92 (r : Int) : plain (e92 r) = true := rfl
def r92_0 : LO := [o 2 (mi 0)]
def r92_1 : LO := [o 4 (mv 0), o 5 (.bin .rem (T 4) (.c (aU 9223372036854775808))), o 3 (mv 5)]
def r92_2 : LO := [o 7 (mv 3), o 8 (.bin .gtr (T 7) (.c (aU 9218868437227405312))), o 6 (mv 8)]
def r92_3 : LO := [o 2 (mi 0)]
def r92_6 : LO := [o 10 (mv 3), o 11 (.bin .eql (T 10) (.c (aU 9218868437227405312))), o 9 (mv 11)]
def r92_7 : LO := [o 2 (mi 1)]
def r92_10 : LO := [o 13 (mv 3), o 14 (.bin .eql (T 13) (.c (aU 0))), o 12 (mv 14)]
def r92_11 : LO := [o 2 (mi 2)]
def r92_14 : LO := [o 16 (mv 3), o 17 (.bin .lss (T 16) (.c (aU 4503599627370496))), o 15 (mv 17)]
def r92_15 : LO := [o 2 (mi 3)]
def k92_1 : ACode := .cond (T 15) (.seq (.region r92_15) .ret) .skip
def k92_2 : ACode := .seq (.region r92_14) k92_1
def k92_3 : ACode := .cond (T 12) (.seq (.region r92_11) .ret) k92_2
def k92_4 : ACode := .seq (.region r92_10) k92_3
def k92_5 : ACode := .cond (T 9) (.seq (.region r92_7) .ret) k92_4
def k92_6 : ACode := .seq (.region r92_6) k92_5
def k92_7 : ACode := .cond (T 6) (.seq (.region r92_3) .ret) k92_6
def k92_8 : ACode := .seq (.region r92_2) k92_7
def r92_28 : LO := [o 2 (mi 4)]
def k92_9 : ACode := .seq (.region r92_28) .ret
def k92_10 : ACode := .seq (.block 0 k92_8) k92_9
def k92_11 : ACode := .seq (.region r92_1) k92_10
def k92_12 : ACode := .seq (.region r92_0) k92_11
theorem fn92 : getFn Tryz.prog 92 = some (18, k92_12, [.tmp 2]) := by kernel_rfl
theorem ref04_Class_step (bits : Int) (r : Int) (hw : ((decide (9218868437227405312 < (bits.tmod 9223372036854775808))) = true -> r = 0) /\ ((decide (9218868437227405312 < (bits.tmod 9223372036854775808))) = false -> (((bits.tmod 9223372036854775808) == 9218868437227405312) = true -> r = 1) /\ (((bits.tmod 9223372036854775808) == 9218868437227405312) = false -> (((bits.tmod 9223372036854775808) == 0) = true -> r = 2) /\ (((bits.tmod 9223372036854775808) == 0) = false -> ((decide ((bits.tmod 9223372036854775808) < 4503599627370496)) = true -> r = 3) /\ ((decide ((bits.tmod 9223372036854775808) < 4503599627370496)) = false -> r = 4))))) : ref04_Class bits r := by
 refine f_pureD fn92 nle rfl (ds (va 1 [] (ve (ds (va 3 [(3, aU (bits.tmod 9223372036854775808))] (ve (d_seqQ (d_blockQ (ds (va 3 [(6, aB (decide (9218868437227405312 < (bits.tmod 9223372036854775808))))] (ve (dw hw (fun _ hw => ?_) (fun _ hw => ?_)))))))))))))
 ·exact ds (va 1 [(2, aI 0)] (ve (d_ret (rx hw (plr92 _)))))
 refine ds (va 3 [(9, aB ((bits.tmod 9223372036854775808) == 9218868437227405312))] (ve (dw hw (fun _ hw => ?_) (fun _ hw => ?_))))
 ·exact ds (va 1 [(2, aI 1)] (ve (d_ret (rx hw (plr92 _)))))
 refine ds (va 3 [(12, aB ((bits.tmod 9223372036854775808) == 0))] (ve (dw hw (fun _ hw => ?_) (fun _ hw => ?_))))
 ·exact ds (va 1 [(2, aI 2)] (ve (d_ret (rx hw (plr92 _)))))
 refine ds (va 3 [(15, aB (decide ((bits.tmod 9223372036854775808) < 4503599627370496)))] (ve (dw hw (fun _ hw => ?_) (fun _ hw => ?_))))
 ·exact ds (va 1 [(2, aI 3)] (ve (d_ret (rx hw (plr92 _)))))
 exact d_skip (ds (va 1 [(2, aI 4)] (ve (d_ret (rx hw (plr92 _))))))
theorem plr93 (r : (Int × GCursor × Int)) : plain (e93 r) = true := (ptup (pcons rfl (pcons (pl_GCursor r.2.1) (pcons rfl rfl))))
def r93_0 : LO := [o 1 (bx 0), o 2 (.mv (.c (aU 0))), o 3 (.alloc [aE, (aI 0), (aI 0), (aI 0), (aI 0), (aI 0)]), o 4 (mi 0)]
def r93_1 : LO := [o 9 (ln 6 1), o 10 (.call (cf 90) [(T 9)]), o 11 (.call (cf 145) [(T 10)]), o 8 (mv 11), o 12 (.extract 0 (T 8)), o 13 (.extract 1 (T 8)), o 14 (.extract 2 (T 8)), o 5 (mv 12), o 6 (mv 13), o 7 (mv 14)]
def r93_2 : LO := [o 15 (mv 7), o 16 (.bin .neq (T 15) (ci 0))]
def r93_3 : LO := [o 17 (ln 6 1), o 18 (mv 7), o 2 (.mv (.c (aU 0))), on (st 6 3 17)]
def r93_3t : LO := [o 4 (mv 18)]
def r93_3o : LN := [[], [], [], [0, 2]]
def k93_1 : ACode := .cond (T 16) (.seq (.drawn r93_3o r93_3 r93_3t) .ret) .skip
def k93_2 : ACode := .seq (.region r93_2) k93_1
def r93_9 : LO := [o 19 (mv 5), o 20 (ln 6 1), o 21 (mv 6), o 22 (.call (cf 91) [(T 20), (T 21)]), o 2 (mv 19), on (st 6 3 22), o 4 (mi 0)]
def k93_3 : ACode := .seq (.region r93_9) .ret
def k93_4 : ACode := .seq k93_2 k93_3
def k93_5 : ACode := .seq (.region r93_1) k93_4
def k93_6 : ACode := .seq (.region r93_0) k93_5
theorem fn93 : getFn Tryz.prog 93 = some (23, k93_6, [.tmp 2, .cell 3 (some 6), .tmp 4]) := by kernel_rfl
theorem ref02_Varint_step (c : GCursor) (r : (Int × GCursor × Int)) (hw : ∃ y1, ref02_rest c y1 /\ (∃ y2, ref01_Take y1 y2 /\ (((y2.2.2 != 0) = true -> r = (0, c, y2.2.2)) /\ ((y2.2.2 != 0) = false -> ∃ y3, ref02_behind c y2.2.1 y3 /\ (r = (y2.1, y3, 0)))))) : ref02_Varint c r := by
 refine f_pureD fn93 nle rfl (ds (vg 4 [(3, .ptr 1 0), (1, .ptr 0 0)] [(eGCursor c), [aE, aI 0, aI 0, aI 0, aI 0, aI 0]] [] (ve (ds (va 1 [(9, .agg (eGCursor c))] ?_)))))
 obtain ⟨y1, hy, hw⟩ := hw
 refine vo rfl (x_call hy pl90) rfl ?_
 obtain ⟨y2, hy, hw⟩ := hw
 refine vo rfl (x_call hy pl145) rfl (va 7 [(7, aI y2.2.2), (6, aI y2.2.1), (5, aU y2.1)] (ve (d_seqQ (ds (va 2 [(16, aB (y2.2.2 != 0))] (ve (dw hw (fun _ hw => ?_) (fun _ hw => ?_))))))))
 ·exact d_seqQ (dS [(0, (eGCursor c))] (sa 1 3 [(2, aU 0), (18, aI y2.2.2), (17, .agg (eGCursor c))] (sw [] rfl (x_U (.tuple []) [] [(1, (eGCursor c))]) (send (vp_start' (va 1 [(4, aI y2.2.2)] (ve (d_ret (rx hw (plr93 _))))))))))
 refine d_skip (ds (va 3 [(21, aI y2.2.1), (20, .agg (eGCursor c)), (19, aU y2.1)] ?_))
 obtain ⟨y3, hy, hw⟩ := hw
 exact vo rfl (x_call hy pl91) rfl (vg 3 [(4, aI 0), (2, aU y2.1)] [] [(1, (eGCursor y3))] (ve (d_ret (rx hw (plr93 _)))))
theorem plr94 (r : Int) : plain (e94 r) = true := rfl
def r94_0 : LO := [o 2 (mi 0)]
def r94_1 : LO := [o 3 (mv 0), o 4 (.call (cf 52) [(T 3)]), o 5 (.len true (T 4)), o 2 (mv 5)]
def k94_1 : ACode := .seq (.region r94_1) .ret
def k94_2 : ACode := .seq (.region r94_0) k94_1
theorem fn94 : getFn Tryz.prog 94 = some (6, k94_2, [.tmp 2]) := by kernel_rfl
theorem ref01_Len_step (u : Int) (r : Int) (hw : ∃ y1, ref01_Put u y1 /\ (r = (y1.size : Int))) : ref01_Len u r := by
 refine f_pureD fn94 nle rfl (ds (va 1 [] (ve (ds (va 1 [(3, aU u)] ?_)))))
 obtain ⟨y1, hy, hw⟩ := hw
 exact vo rfl (x_call hy pl52) rfl (vo rfl (x_lenS y1) rfl (va 1 [(2, aI (y1.size : Int))] (ve (d_ret (rx hw (plr94 _))))))
theorem plr95 (r : Bool) : plain (e95 r) = true := rfl
def r95_0 : LO := [o 1 (bx 0), o 2 (mb false)]
def r95_1 : LO := [o 3 (fa 3 1), o 4 (ld 3), o 5 (.len false (T 4)), o 6 (.bin .eql (T 5) (ci 0)), o 7 (mv 6), og 8 (fa 4 1) 7 true, og 9 (ld 8) 7 true, og 10 (.len false (T 9)) 7 true, og 11 (.bin .eql (T 10) (ci 0)) 7 true, o 12 (.pick (T 7) (T 11) (cb false)), o 13 (mv 12), og 14 (fa 5 1) 13 true, og 15 (ld 14) 13 true, og 16 (.len false (T 15)) 13 true, og 17 (.bin .eql (T 16) (ci 0)) 13 true, o 18 (.pick (T 13) (T 17) (cb false)), o 19 (mv 18), og 20 (fa 6 1) 19 true, og 21 (ld 20) 19 true, og 22 (.len false (T 21)) 19 true, og 23 (.bin .eql (T 22) (ci 0)) 19 true, o 24 (.pick (T 19) (T 23) (cb false)), o 2 (mv 24)]
def k95_1 : ACode := .seq (.region r95_1) .ret
def k95_2 : ACode := .seq (.region r95_0) k95_1
theorem fn95 : getFn Tryz.prog 95 = some (25, k95_2, [.tmp 2]) := by kernel_rfl
theorem ref04_lone_step (v : GValue) (r : Bool) (hw : r = (((((v.List_.length : Int) == 0) && ((v.Pairs.length : Int) == 0)) && ((v.Slots.length : Int) == 0)) && ((v.Raws.length : Int) == 0))) : ref04_lone v r := by
 refine f_pureD fn95 nle rfl (ds (vg 2 [(1, .ptr 0 0)] [(eGValue v)] [] (ve (ds (va 2 [(4, .sl (List.map eGValue' v.List_) .no)] (vo rfl (x_len v.List_ eGValue') rfl (va 2 [(7, aB ((v.List_.length : Int) == 0))] (vj 7 12 10 ((v.List_.length : Int) == 0) (fun z => aB (z && ((v.Pairs.length : Int) == 0))) km_d (fun _ key => ?_) (fun _ key => ?_) ?_))))))))
 ·exact va 2 [(9, .sl (List.map eGPair' v.Pairs) .no)] (vo rfl (x_len v.Pairs eGPair') rfl (va 1 [(11, aB ((v.Pairs.length : Int) == 0))] (va 1 [(12, aB ((v.Pairs.length : Int) == 0))] (vle km_d key))))
 ·exact va 4 [(11, .tuple [])] (va 1 [(12, aB false)] (vle km_d key))
 refine va 1 [(13, aB (((v.List_.length : Int) == 0) && ((v.Pairs.length : Int) == 0)))] (vj 13 18 16 (((v.List_.length : Int) == 0) && ((v.Pairs.length : Int) == 0)) (fun z => aB (z && ((v.Slots.length : Int) == 0))) km_d (fun _ key => ?_) (fun _ key => ?_) ?_)
 ·exact va 2 [(15, .sl (List.map eGSlot' v.Slots) .no)] (vo rfl (x_len v.Slots eGSlot') rfl (va 1 [(17, aB ((v.Slots.length : Int) == 0))] (va 1 [(18, aB ((v.Slots.length : Int) == 0))] (vle km_d key))))
 ·exact va 4 [(17, .tuple [])] (va 1 [(18, aB false)] (vle km_d key))
 refine va 1 [(19, aB ((((v.List_.length : Int) == 0) && ((v.Pairs.length : Int) == 0)) && ((v.Slots.length : Int) == 0)))] (vj 19 24 22 ((((v.List_.length : Int) == 0) && ((v.Pairs.length : Int) == 0)) && ((v.Slots.length : Int) == 0)) (fun z => aB (z && ((v.Raws.length : Int) == 0))) km_d (fun _ key => ?_) (fun _ key => ?_) ?_)
 ·exact va 2 [(21, .sl (List.map eGRaw v.Raws) .no)] (vo rfl (x_len v.Raws eGRaw) rfl (va 1 [(23, aB ((v.Raws.length : Int) == 0))] (va 1 [(24, aB ((v.Raws.length : Int) == 0))] (vle km_d key))))
 ·exact va 4 [(23, .tuple [])] (va 1 [(24, aB false)] (vle km_d key))
 exact va 1 [(2, aB (((((v.List_.length : Int) == 0) && ((v.Pairs.length : Int) == 0)) && ((v.Slots.length : Int) == 0)) && ((v.Raws.length : Int) == 0)))] (ve (d_ret (rx hw (plr95 _))))
theorem plr96 (r : Bool) : plain (e96 r) = true := rfl
def r96_0 : LO := [o 2 (mb false)]
def r96_1 : LO := [o 3 (mv 0), o 4 (.bin .eql (T 3) (ci 7)), o 5 (mv 4), og 6 (mv 0) 5 false, og 7 (.bin .eql (T 6) (ci 8)) 5 false, o 8 (.pick (T 5) (cb true) (T 7)), o 2 (mv 8)]
def k96_1 : ACode := .seq (.region r96_1) .ret
def k96_2 : ACode := .seq (.region r96_0) k96_1
theorem fn96 : getFn Tryz.prog 96 = some (9, k96_2, [.tmp 2]) := by kernel_rfl
theorem ref04_texts_step (kind : Int) (r : Bool) (hw : r = ((kind == 7) || (kind == 8))) : ref04_texts kind r := by
 refine f_pureD fn96 nle rfl (ds (va 1 [] (ve (ds (va 3 [(5, aB (kind == 7))] (vj 5 8 6 (kind == 7) (fun z => aB (z || (kind == 8))) km_d (fun _ key => ?_) (fun _ key => ?_) ?_))))))
 ·exact va 2 [(7, .tuple [])] (va 1 [(8, aB true)] (vle km_d key))
 ·exact va 2 [(7, aB (kind == 8))] (va 1 [(8, aB (kind == 8))] (vle km_d key))
 exact va 1 [(2, aB ((kind == 7) || (kind == 8)))] (ve (d_ret (rx hw (plr96 _))))
theorem plr97 (r : Int) : plain (e97 r) = true := rfl
def r97_0 : LO := [o 2 (mi 0)]
def r97_1 : LO := [o 5 (mv 0), o 6 (.bin .and (T 5) (.c (aU 9218868437227405312))), o 7 (mv 0), o 8 (.bin .and (T 7) (.c (aU 4503599627370495))), o 3 (mv 6), o 4 (mv 8)]
def r97_2 : LO := [o 10 (mv 3), o 11 (.bin .eql (T 10) (.c (aU 9218868437227405312))), o 12 (mv 11), og 13 (mv 4) 12 true, og 14 (.bin .neq (T 13) (.c (aU 0))) 12 true, o 15 (.pick (T 12) (T 14) (cb false)), o 9 (mv 15)]
def r97_3 : LO := [o 2 (mi 0)]
def r97_6 : LO := [o 17 (mv 3), o 18 (.bin .eql (T 17) (.c (aU 9218868437227405312))), o 16 (mv 18)]
def r97_7 : LO := [o 2 (mi 1)]
def r97_10 : LO := [o 20 (mv 3), o 21 (.bin .eql (T 20) (.c (aU 0))), o 22 (mv 21), og 23 (mv 4) 22 true, og 24 (.bin .eql (T 23) (.c (aU 0))) 22 true, o 25 (.pick (T 22) (T 24) (cb false)), o 19 (mv 25)]
def r97_11 : LO := [o 2 (mi 2)]
def r97_14 : LO := [o 27 (mv 3), o 28 (.bin .eql (T 27) (.c (aU 0))), o 26 (mv 28)]
def r97_15 : LO := [o 2 (mi 3)]
def k97_1 : ACode := .cond (T 26) (.seq (.region r97_15) .ret) .skip
def k97_2 : ACode := .seq (.region r97_14) k97_1
def k97_3 : ACode := .cond (T 19) (.seq (.region r97_11) .ret) k97_2
def k97_4 : ACode := .seq (.region r97_10) k97_3
def k97_5 : ACode := .cond (T 16) (.seq (.region r97_7) .ret) k97_4
def k97_6 : ACode := .seq (.region r97_6) k97_5
def k97_7 : ACode := .cond (T 9) (.seq (.region r97_3) .ret) k97_6
def k97_8 : ACode := .seq (.region r97_2) k97_7
def k97_9 : ACode := .block 0 k97_8
def r97_29 : LO := [o 2 (mi 4)]
def k97_10 : ACode := .seq (.region r97_29) .ret
def k97_11 : ACode := .seq (.seq (.region r97_1) k97_9) k97_10
def k97_12 : ACode := .seq (.region r97_0) k97_11
theorem fn97 : getFn Tryz.prog 97 = some (29, k97_12, [.tmp 2]) := by kernel_rfl
theorem scalar_Class_step (bits : Int) (r : Int) (hw : ((((bitsOf .and .u64 bits 9218868437227405312) == 9218868437227405312) && ((bitsOf .and .u64 bits 4503599627370495) != 0)) = true -> r = 0) /\ ((((bitsOf .and .u64 bits 9218868437227405312) == 9218868437227405312) && ((bitsOf .and .u64 bits 4503599627370495) != 0)) = false -> (((bitsOf .and .u64 bits 9218868437227405312) == 9218868437227405312) = true -> r = 1) /\ (((bitsOf .and .u64 bits 9218868437227405312) == 9218868437227405312) = false -> ((((bitsOf .and .u64 bits 9218868437227405312) == 0) && ((bitsOf .and .u64 bits 4503599627370495) == 0)) = true -> r = 2) /\ ((((bitsOf .and .u64 bits 9218868437227405312) == 0) && ((bitsOf .and .u64 bits 4503599627370495) == 0)) = false -> (((bitsOf .and .u64 bits 9218868437227405312) == 0) = true -> r = 3) /\ (((bitsOf .and .u64 bits 9218868437227405312) == 0) = false -> r = 4))))) : scalar_Class bits r := by
 refine f_pureD fn97 nle rfl (ds (va 1 [] (ve (d_seqQ (ds (va 6 [(4, aU (bitsOf .and .u64 bits 4503599627370495)), (3, aU (bitsOf .and .u64 bits 9218868437227405312))] (ve (d_blockQ (ds (va 3 [(12, aB ((bitsOf .and .u64 bits 9218868437227405312) == 9218868437227405312))] (vj 12 15 6 ((bitsOf .and .u64 bits 9218868437227405312) == 9218868437227405312) (fun z => aB (z && ((bitsOf .and .u64 bits 4503599627370495) != 0))) km_d (fun _ key => ?_) (fun _ key => ?_) ?_)))))))))))
 ·exact va 2 [(14, aB ((bitsOf .and .u64 bits 4503599627370495) != 0))] (va 1 [(15, aB ((bitsOf .and .u64 bits 4503599627370495) != 0))] (vle km_d key))
 ·exact va 2 [(14, .tuple [])] (va 1 [(15, aB false)] (vle km_d key))
 refine va 1 [(9, aB (((bitsOf .and .u64 bits 9218868437227405312) == 9218868437227405312) && ((bitsOf .and .u64 bits 4503599627370495) != 0)))] (ve (dw hw (fun _ hw => ?_) (fun _ hw => ?_)))
 ·exact ds (va 1 [(2, aI 0)] (ve (d_ret (rx hw (plr97 _)))))
 refine ds (va 3 [(16, aB ((bitsOf .and .u64 bits 9218868437227405312) == 9218868437227405312))] (ve (dw hw (fun _ hw => ?_) (fun _ hw => ?_))))
 ·exact ds (va 1 [(2, aI 1)] (ve (d_ret (rx hw (plr97 _)))))
 refine ds (va 3 [(22, aB ((bitsOf .and .u64 bits 9218868437227405312) == 0))] (vj 22 25 6 ((bitsOf .and .u64 bits 9218868437227405312) == 0) (fun z => aB (z && ((bitsOf .and .u64 bits 4503599627370495) == 0))) km_d (fun _ key => ?_) (fun _ key => ?_) ?_))
 ·exact va 2 [(24, aB ((bitsOf .and .u64 bits 4503599627370495) == 0))] (va 1 [(25, aB ((bitsOf .and .u64 bits 4503599627370495) == 0))] (vle km_d key))
 ·exact va 2 [(24, .tuple [])] (va 1 [(25, aB false)] (vle km_d key))
 refine va 1 [(19, aB (((bitsOf .and .u64 bits 9218868437227405312) == 0) && ((bitsOf .and .u64 bits 4503599627370495) == 0)))] (ve (dw hw (fun _ hw => ?_) (fun _ hw => ?_)))
 ·exact ds (va 1 [(2, aI 2)] (ve (d_ret (rx hw (plr97 _)))))
 refine ds (va 3 [(26, aB ((bitsOf .and .u64 bits 9218868437227405312) == 0))] (ve (dw hw (fun _ hw => ?_) (fun _ hw => ?_))))
 ·exact ds (va 1 [(2, aI 3)] (ve (d_ret (rx hw (plr97 _)))))
 exact d_skip (ds (va 1 [(2, aI 4)] (ve (d_ret (rx hw (plr97 _))))))
theorem plr98 (r : Int) : plain (e98 r) = true := rfl
def r98_0 : LO := [o 2 (bx 0), o 3 (bx 1), o 4 (mi 0)]
def r98_1 : LO := [o 6 (fa 0 2), o 7 (ld 6), o 8 (fa 0 3), o 9 (ld 8), o 10 (.bin .neq (T 7) (T 9))]
def r98_2 : LO := [o 11 (fa 0 2), o 12 (ld 11), o 13 (fa 0 3), o 14 (ld 13), o 15 (.call (cf 146) [(T 12), (T 14)]), o 4 (mv 15)]
def k98_1 : ACode := .cond (T 10) (.seq (.region r98_2) .ret) .skip
def k98_2 : ACode := .seq (.region r98_1) k98_1
def r98_8 : LO := [o 16 (fa 0 2), o 17 (ld 16)]
def r98_9 : LO := [o 19 (.bin .eql (T 17) (ci 11)), o 18 (mv 19)]
def r98_10 : LO := [o 20 (fa 3 2), o 21 (ld 20), o 22 (fa 3 3), o 23 (ld 22), o 24 (.call (cf 147) [(T 21), (T 23)]), o 4 (mv 24)]
def r98_13 : LO := [o 26 (.bin .eql (T 17) (ci 12)), o 25 (mv 26)]
def r98_14 : LO := [o 27 (fa 4 2), o 28 (ld 27), o 29 (fa 4 3), o 30 (ld 29), o 31 (.call (cf 148) [(T 28), (T 30)]), o 4 (mv 31)]
def r98_17 : LO := [o 33 (.bin .eql (T 17) (ci 10)), o 32 (mv 33)]
def r98_18 : LO := [o 34 (fa 5 2), o 35 (ld 34), o 36 (fa 5 3), o 37 (ld 36), o 38 (.call (cf 149) [(T 35), (T 37)]), o 5 (mv 38)]
def r98_19 : LO := [o 39 (mv 5), o 40 (.bin .neq (T 39) (ci 0))]
def r98_20 : LO := [o 41 (mv 5), o 4 (mv 41)]
def k98_3 : ACode := .cond (T 40) (.seq (.region r98_20) .ret) .skip
def k98_4 : ACode := .seq (.region r98_19) k98_3
def r98_27 : LO := [o 42 (fa 6 2), o 43 (ld 42), o 44 (fa 6 3), o 45 (ld 44), o 46 (.call (cf 150) [(T 43), (T 45)]), o 4 (mv 46)]
def k98_5 : ACode := .seq (.region r98_27) .ret
def k98_6 : ACode := .seq (.seq (.region r98_18) k98_4) k98_5
def k98_7 : ACode := .cond (T 32) k98_6 .skip
def k98_8 : ACode := .cond (T 25) (.seq (.region r98_14) .ret) (.seq (.region r98_17) k98_7)
def k98_9 : ACode := .cond (T 18) (.seq (.region r98_10) .ret) (.seq (.region r98_13) k98_8)
def k98_10 : ACode := .block 0 (.seq (.region r98_9) k98_9)
def r98_40 : LO := [o 47 (ln 7 2), o 48 (ln 7 3), o 49 (.call (cf 151) [(T 47), (T 48)]), o 4 (mv 49)]
def k98_11 : ACode := .seq (.region r98_40) .ret
def k98_12 : ACode := .seq (.seq (.region r98_8) k98_10) k98_11
def k98_13 : ACode := .seq k98_2 k98_12
def k98_14 : ACode := .seq (.region r98_0) k98_13
theorem fn98 : getFn Tryz.prog 98 = some (50, k98_14, [.tmp 4]) := by kernel_rfl
theorem ref16_Cmp_step (a : GValue) (b : GValue) (r : Int) (hw : ((a.Kind != b.Kind) = true -> ∃ y1, ref16_number a.Kind b.Kind y1 /\ (r = y1)) /\ ((a.Kind != b.Kind) = false -> ((a.Kind == 11) = true -> ∃ y2, ref16_lists a.List_ b.List_ y2 /\ (r = y2)) /\ ((a.Kind == 11) = false -> ((a.Kind == 12) = true -> ∃ y3, ref16_pairs a.Pairs b.Pairs y3 /\ (r = y3)) /\ ((a.Kind == 12) = false -> ((a.Kind == 10) = true -> ∃ y4, ref16_slots a.Slots b.Slots y4 /\ (((y4 != 0) = true -> r = y4) /\ ((y4 != 0) = false -> ∃ y5, ref16_raws a.Raws b.Raws y5 /\ (r = y5)))) /\ ((a.Kind == 10) = false -> ∃ y6, ref04_Cmp a b y6 /\ (r = y6)))))) : ref16_Cmp a b r := by
 refine f_pureD fn98 nle rfl (ds (vg 3 [(3, .ptr 1 0), (2, .ptr 0 0)] [(eGValue a), (eGValue b)] [] (ve (d_seqQ (ds (va 5 [(10, aB (a.Kind != b.Kind))] (ve (dw hw (fun _ hw => ?_) (fun _ hw => ?_)))))))))
 ·refine ds (va 4 [(14, aI b.Kind), (12, aI a.Kind)] ?_)
  obtain ⟨y1, hy, hw⟩ := hw
  exact vo rfl (x_call hy pl146) rfl (va 1 [(4, aI y1)] (ve (d_ret (rx hw (plr98 _)))))
 refine d_skip (d_seqQ (ds (va 2 [(17, aI a.Kind)] (ve (d_blockQ (ds (va 2 [(18, aB (a.Kind == 11))] (ve (dw hw (fun _ hw => ?_) (fun _ hw => ?_))))))))))
 ·refine ds (va 4 [(23, .sl (List.map eGValue' b.List_) .no), (21, .sl (List.map eGValue' a.List_) .no)] ?_)
  obtain ⟨y2, hy, hw⟩ := hw
  exact vo rfl (x_call hy pl147) rfl (va 1 [(4, aI y2)] (ve (d_ret (rx hw (plr98 _)))))
 refine ds (va 2 [(25, aB (a.Kind == 12))] (ve (dw hw (fun _ hw => ?_) (fun _ hw => ?_))))
 ·refine ds (va 4 [(30, .sl (List.map eGPair' b.Pairs) .no), (28, .sl (List.map eGPair' a.Pairs) .no)] ?_)
  obtain ⟨y3, hy, hw⟩ := hw
  exact vo rfl (x_call hy pl148) rfl (va 1 [(4, aI y3)] (ve (d_ret (rx hw (plr98 _)))))
 refine ds (va 2 [(32, aB (a.Kind == 10))] (ve (dw hw (fun _ hw => ?_) (fun _ hw => ?_))))
 ·refine d_seqQ (ds (va 4 [(37, .sl (List.map eGSlot' b.Slots) .no), (35, .sl (List.map eGSlot' a.Slots) .no)] ?_))
  obtain ⟨y4, hy, hw⟩ := hw
  refine vo rfl (x_call hy pl149) rfl (va 1 [(5, aI y4)] (ve (ds (va 2 [(40, aB (y4 != 0))] (ve (dw hw (fun _ hw => ?_) (fun _ hw => ?_)))))))
  ·exact ds (va 2 [(4, aI y4)] (ve (d_ret (rx hw (plr98 _)))))
  refine d_skip (ds (va 4 [(45, .sl (List.map eGRaw b.Raws) .no), (43, .sl (List.map eGRaw a.Raws) .no)] ?_))
  obtain ⟨y5, hy, hw⟩ := hw
  exact vo rfl (x_call hy pl150) rfl (va 1 [(4, aI y5)] (ve (d_ret (rx hw (plr98 _)))))
 refine d_skip (ds (va 2 [(48, .agg (eGValue b)), (47, .agg (eGValue a))] ?_))
 obtain ⟨y6, hy, hw⟩ := hw
 exact vo rfl (x_call hy pl151) rfl (va 1 [(4, aI y6)] (ve (d_ret (rx hw (plr98 _)))))
def r99_0 : LO := [o 4 (mi 0)]
def r99_1 : LO := [o 6 (mv 0), o 7 (.len false (T 6)), o 8 (mi 0)]
def r99_2 : LO := [o 9 (.bin .lss (T 8) (T 7))]
def r99_6 : LO := [o 10 (mv 8), o 5 (mv 10)]
def r99_7 : LO := [o 11 (mv 1), o 12 (mv 0), o 13 (mv 5), o 14 (.idxSl 3 (T 12) (T 13)), o 15 (ln 3 14), o 16 (.call (T 11) [(T 15)])]
def r99_8 : LO := [o 17 (mv 5), o 4 (mv 17)]
def k99_1 : ACode := .cond (T 16) (.seq (.region r99_8) .ret) .skip
def k99_2 : ACode := .seq (.region r99_7) k99_1
def r99_16 : LO := [o 18 (.bin .add (T 8) (ci 1)), o 8 (mv 18)]
def k99_3 : ACode := .seq (.block 1 (.seq (.region r99_6) k99_2)) (.region r99_16)
def k99_4 : ACode := .seq (.cond (T 9) .skip (.exit 0)) k99_3
def k99_5 : ACode := .seq (.region r99_2) k99_4
def k99_6 : ACode := .block 0 (.loop k99_5)
def r99_23 : LO := [o 4 (mi (-1))]
def k99_7 : ACode := .seq (.region r99_23) .ret
def k99_8 : ACode := .seq (.seq (.region r99_1) k99_6) k99_7
def k99_9 : ACode := .seq (.region r99_0) k99_8
theorem fn99 : getFn Tryz.prog 99 = some (19, k99_9, [.tmp 4]) := by kernel_rfl
def r101_0 : LO := [o 4 (bx 0), o 5 (bx 1), o 6 (bx 2), o 8 (mi 0)]
def r101_1 : LO := [o 17 (fa 0 6), o 18 (ld 17), o 19 (.bin .neq (T 18) (ci 10)), o 20 (mv 19), og 21 (ln 7 6) 20 false, og 22 (.call (cf 152) [(T 21)]) 20 false, o 23 (.pick (T 20) (cb true) (T 22)), o 16 (mv 23)]
def r101_2 : LO := [o 8 (mi 12)]
def r101_5 : LO := [o 25 (mv 3), o 26 (.bin .gtr (T 25) (ci 16)), o 24 (mv 26)]
def r101_6 : LO := [o 8 (mi 17)]
def k101_1 : ACode := .cond (T 24) (.seq (.region r101_6) .ret) .skip
def k101_2 : ACode := .seq (.region r101_5) k101_1
def k101_3 : ACode := .cond (T 16) (.seq (.region r101_2) .ret) k101_2
def k101_4 : ACode := .seq (.region r101_1) k101_3
def r101_15 : LO := [o 27 (fa 5 6), o 28 (ld 27), o 29 (.len false (T 28)), o 30 (mi 0)]
def r101_16 : LO := [o 31 (.bin .lss (T 30) (T 29))]
def r101_20 : LO := [o 32 (mv 30), o 9 (mv 32)]
def r101_21 : LO := [o 33 (ln 2 4), o 34 (ln 3 5), o 35 (fa 5 6), o 36 (ld 35), o 37 (mv 9), o 38 (mv 3), o 39 (.call (cf 153) [(T 33), (T 34), (T 36), (T 37), (T 38)]), o 10 (mv 39)]
def r101_22 : LO := [o 40 (mv 10), o 41 (.bin .neq (T 40) (ci 0))]
def r101_23 : LO := [o 42 (mv 10), o 8 (mv 42)]
def k101_5 : ACode := .cond (T 41) (.seq (.region r101_23) .ret) .skip
def k101_6 : ACode := .seq (.region r101_22) k101_5
def k101_7 : ACode := .seq (.region r101_21) k101_6
def k101_8 : ACode := .block 2 (.seq (.region r101_20) k101_7)
def r101_32 : LO := [o 43 (.bin .add (T 30) (ci 1)), o 30 (mv 43)]
def k101_9 : ACode := .seq k101_8 (.region r101_32)
def k101_10 : ACode := .seq (.cond (T 31) .skip (.exit 1)) k101_9
def k101_11 : ACode := .seq (.region r101_16) k101_10
def k101_12 : ACode := .block 1 (.loop k101_11)
def r101_39 : LO := [o 44 (fa 1 5), o 45 (ld 44), o 46 (.len false (T 45)), o 47 (mi 0)]
def r101_40 : LO := [o 48 (.bin .lss (T 47) (T 46))]
def r101_44 : LO := [o 49 (.idxSl 8 (T 45) (T 47)), o 50 (ln 8 49), o 12 (.alloc [(aI 0), aE, aE, (aI 0), (aI 0), (aI 0), (aI 0), (aI 0)]), on (st 8 12 50)]
def r101_45 : LO := [o 51 (fa 3 12), o 52 (ld 51), o 53 (.bin .eql (T 52) (ci 1)), o 54 (mv 53), og 55 (fa 5 6) 54 true, og 56 (ld 55) 54 true, og 57 (.func (.func 155) [] [(T 12)]) 54 true, og 58 (.call (cf 154) [(T 56), (T 57)]) 54 true, og 59 (.un .not (T 58)) 54 true, o 60 (.pick (T 54) (T 59) (cb false))]
def r101_46 : LO := [o 8 (mi 14)]
def k101_13 : ACode := .cond (T 60) (.seq (.region r101_46) .ret) .skip
def k101_14 : ACode := .seq (.region r101_45) k101_13
def r101_54 : LO := [o 61 (.bin .add (T 47) (ci 1)), o 47 (mv 61)]
def k101_15 : ACode := .seq (.block 4 (.seq (.region r101_44) k101_14)) (.region r101_54)
def k101_16 : ACode := .seq (.cond (T 48) .skip (.exit 3)) k101_15
def k101_17 : ACode := .seq (.region r101_40) k101_16
def k101_18 : ACode := .block 3 (.loop k101_17)
def r101_61 : LO := [o 62 (fa 6 6), o 63 (ld 62), o 64 (.len false (T 63)), o 65 (mi 0)]
def r101_62 : LO := [o 66 (.bin .lss (T 65) (T 64))]
def r101_66 : LO := [o 67 (.idxSl 4 (T 63) (T 65)), o 68 (ln 4 67), o 14 (.alloc [(aI 0), (aI 0), (aU 0), aE]), on (st 4 14 68)]
def r101_67 : LO := [o 69 (ln 2 4), o 70 (ln 3 5), o 71 (ln 4 14), o 72 (.call (cf 156) [(T 69), (T 70), (T 71)]), o 15 (mv 72)]
def r101_68 : LO := [o 73 (mv 15), o 74 (.bin .neq (T 73) (ci 0))]
def r101_69 : LO := [o 75 (mv 15), o 8 (mv 75)]
def k101_19 : ACode := .cond (T 74) (.seq (.region r101_69) .ret) .skip
def k101_20 : ACode := .seq (.region r101_68) k101_19
def k101_21 : ACode := .seq (.region r101_67) k101_20
def k101_22 : ACode := .block 6 (.seq (.region r101_66) k101_21)
def r101_78 : LO := [o 76 (.bin .add (T 65) (ci 1)), o 65 (mv 76)]
def k101_23 : ACode := .seq k101_22 (.region r101_78)
def k101_24 : ACode := .seq (.cond (T 66) .skip (.exit 5)) k101_23
def k101_25 : ACode := .seq (.region r101_62) k101_24
def k101_26 : ACode := .block 5 (.loop k101_25)
def r101_85 : LO := [o 8 (mi 0)]
def k101_27 : ACode := .seq (.region r101_85) .ret
def k101_28 : ACode := .seq (.seq (.region r101_61) k101_26) k101_27
def k101_29 : ACode := .seq (.seq (.region r101_39) k101_18) k101_28
def k101_30 : ACode := .seq (.seq (.region r101_15) k101_12) k101_29
def k101_31 : ACode := .seq (.block 0 k101_4) k101_30
def k101_32 : ACode := .seq (.region r101_0) k101_31
theorem fn101 : getFn Tryz.prog 101 = some (77, k101_32, [.tmp 8]) := by kernel_rfl
def r102_0 : LO := [o 1 (bx 0), o 2 (mi 0)]
def r102_1 : LO := [o 6 (fa 6 1), o 7 (ld 6), o 8 (.len false (T 7)), o 9 (.bin .add (ci 1) (T 8)), o 3 (mv 9)]
def r102_2 : LO := [o 10 (ln 7 1), o 11 (.call (cf 157) [(T 10)]), o 12 (.len false (T 11)), o 13 (mi 0)]
def r102_3 : LO := [o 14 (.bin .lss (T 13) (T 12))]
def r102_7 : LO := [o 15 (.idxSl 7 (T 11) (T 13)), o 16 (ln 7 15), o 5 (.alloc zV), on (st 7 5 16)]
def r102_8 : LO := [o 17 (mv 3), o 18 (ln 7 5), o 19 (.call (cf 102) [(T 18)]), o 20 (.bin .add (T 17) (T 19)), o 3 (mv 20)]
def r102_11 : LO := [o 21 (.bin .add (T 13) (ci 1)), o 13 (mv 21)]
def k102_1 : ACode := .seq (.block 1 (.seq (.region r102_7) (.region r102_8))) (.region r102_11)
def k102_2 : ACode := .seq (.cond (T 14) .skip (.exit 0)) k102_1
def k102_3 : ACode := .seq (.region r102_3) k102_2
def k102_4 : ACode := .block 0 (.loop k102_3)
def r102_18 : LO := [o 22 (mv 3), o 2 (mv 22)]
def k102_5 : ACode := .seq (.region r102_18) .ret
def k102_6 : ACode := .seq (.seq (.region r102_2) k102_4) k102_5
def k102_7 : ACode := .seq (.region r102_1) k102_6
def k102_8 : ACode := .seq (.region r102_0) k102_7
theorem fn102 : getFn Tryz.prog 102 = some (23, k102_8, [.tmp 2]) := by kernel_rfl
def r103_0 : LO := [o 4 (bx 1), o 5 (bx 2)]
def r103_1 : LO := [o 6 (fa 5 4), o 7 (ld 6), o 8 (.bin .eql (T 7) (ci 10))]
def r103_2 : LO := [o 9 (mv 0), o 10 (fa 6 4), o 11 (ld 10), o 12 (ln 7 5), o 13 (.call (cf 58) [(T 9), (T 11), (T 12)])]
def k103_1 : ACode := .cond (T 8) (.seq (.region r103_2) .ret) .skip
def k103_2 : ACode := .seq (.region r103_1) k103_1
def r103_8 : LO := [o 14 (mv 0), o 15 (ln 7 5), o 16 (.call (cf 12) [(T 15)]), o 17 (.call (cf 104) [(T 14), (T 16)])]
def k103_3 : ACode := .seq k103_2 (.region r103_8)
def k103_4 : ACode := .seq (.region r103_0) k103_3
theorem fn103 : getFn Tryz.prog 103 = some (18, k103_4, []) := by kernel_rfl
def r104_0 : LO := [o 4 (mv 0), o 5 (mv 0), o 6 (.nilCheck (T 5)), o 7 (fa 2 6), o 8 (ld 7), o 9 (mv 1), o 10 (.append 1 1 (T 8) (T 9)), o 11 (.nilCheck (T 4)), o 12 (fa 2 11), on (st 1 12 10)]
theorem fn104 : getFn Tryz.prog 104 = some (13, .region r104_0, []) := by kernel_rfl
def r105_0 : LO := [o 2 (.mv (.c .nil))]
def r105_1 : LO := [o 3 (mv 0), o 4 (.eq .slice true (T 3) (.c .nil))]
def r105_2 : LO := [o 2 (.mv (.c .nil))]
def k105_1 : ACode := .cond (T 4) (.seq (.region r105_2) .ret) .skip
def k105_2 : ACode := .seq (.region r105_1) k105_1
def r105_8 : LO := [o 5 (.sliceLit 4 0 [] []), o 6 (mv 0), o 7 (.append 4 40 (T 5) (T 6)), o 2 (mv 7)]
def k105_3 : ACode := .seq (.region r105_8) .ret
def k105_4 : ACode := .seq k105_2 k105_3
def k105_5 : ACode := .seq (.region r105_0) k105_4
theorem fn105 : getFn Tryz.prog 105 = some (8, k105_5, [.tmp 2]) := by kernel_rfl
def r106_0 : LO := [o 2 (.mv (.c .nil))]
def r106_1 : LO := [o 7 (mv 0), o 8 (.call (cf 158) [(T 7)]), o 3 (mv 8)]
def r106_2 : LO := [o 9 (mv 3), o 10 (.call (cf 159) [(T 9), (cf 160)])]
def r106_3 : LO := [o 4 (.mv (.c .nil))]
def r106_4 : LO := [o 11 (mv 3), o 12 (.len false (T 11)), o 13 (mi 0)]
def r106_5 : LO := [o 14 (.bin .lss (T 13) (T 12))]
def r106_9 : LO := [o 15 (mv 13), o 16 (.idxSl 8 (T 11) (T 13)), o 17 (ln 8 16), o 6 (.alloc [(aI 0), (aI 0), (aU 0), aE, .nil, .nil, .nil, .nil]), o 5 (mv 15), on (st 8 6 17)]
def r106_10 : LO := [o 18 (mv 5), o 19 (.bin .add (T 18) (ci 1)), o 20 (mv 3), o 21 (.len false (T 20)), o 22 (.bin .eql (T 19) (T 21)), o 23 (mv 22), og 24 (fa 0 6) 23 false, og 25 (ld 24) 23 false, og 26 (mv 3) 23 false, og 27 (mv 5) 23 false, og 28 (.bin .add (T 27) (ci 1)) 23 false, og 29 (.idxSl 8 (T 26) (T 28)) 23 false, og 30 (fa 0 29) 23 false, og 31 (ld 30) 23 false, og 32 (.bin .neq (T 25) (T 31)) 23 false, o 33 (.pick (T 23) (cb true) (T 32))]
def r106_10t : LO := []
def r106_10o : LN := [[], [0], [], [2], [1, 3], [4], [5], [5, 6], [5], [5], [5, 9], [5, 8, 10], [5, 11], [5, 12], [5, 7, 13], [5, 14]]
def r106_11 : LO := [o 34 (mv 4), o 35 (ln 8 6), o 36 (.sliceLit 8 1 [(aI 0), (aI 0), (aU 0), aE, .nil, .nil, .nil, .nil] [((0, 8), (T 35))]), o 37 (.append 8 136 (T 34) (T 36)), o 4 (mv 37)]
def k106_1 : ACode := .cond (T 33) (.region r106_11) .skip
def k106_2 : ACode := .seq (.drawn r106_10o r106_10 r106_10t) k106_1
def r106_17 : LO := [o 38 (.bin .add (T 13) (ci 1)), o 13 (mv 38)]
def k106_3 : ACode := .seq (.block 1 (.seq (.region r106_9) k106_2)) (.region r106_17)
def k106_4 : ACode := .seq (.cond (T 14) .skip (.exit 0)) k106_3
def k106_5 : ACode := .seq (.region r106_5) k106_4
def k106_6 : ACode := .block 0 (.loop k106_5)
def r106_24 : LO := [o 39 (mv 4), o 2 (mv 39)]
def k106_7 : ACode := .seq (.region r106_24) .ret
def k106_8 : ACode := .seq (.seq (.region r106_4) k106_6) k106_7
def k106_9 : ACode := .seq (.region r106_3) k106_8
def k106_10 : ACode := .seq (.region r106_2) k106_9
def k106_11 : ACode := .seq (.region r106_1) k106_10
def k106_12 : ACode := .seq (.region r106_0) k106_11
theorem fn106 : getFn Tryz.prog 106 = some (40, k106_12, [.tmp 2]) := by kernel_rfl
def r107_0 : LO := [o 2 (bx 0), o 3 (bx 1), o 4 (.alloc [(aI 0), aE, aE, (aI 0), (aI 0), (aI 0), (aI 0), (aI 0)]), o 5 (mb false)]
def r107_1 : LO := [o 6 (.func (.func 161) [] [(T 3)]), o 7 (.build [(.v .nilFunc)] [((0, 1), (T 6))]), o 8 (ln 3 2), o 9 (.call (cf 162) [(T 7), (T 8)]), o 10 (.extract 0 (T 9)), o 11 (.extract 1 (T 9)), on (st 8 4 10), o 5 (mv 11)]
def k107_1 : ACode := .seq (.region r107_1) .ret
def k107_2 : ACode := .seq (.region r107_0) k107_1
theorem fn107 : getFn Tryz.prog 107 = some (12, k107_2, [.cell 4 (some 8), .tmp 5]) := by kernel_rfl
def r108_0 : LO := [o 3 (bx 0), o 4 (bx 1), o 5 (bx 2), o 6 (.alloc zV)]
def r108_1 : LO := [o 13 (fa 3 4), o 14 (ld 13)]
def r108_2 : LO := [o 16 (.bin .eql (T 14) (ci 4)), o 15 (mv 16)]
def r108_3 : LO := [o 17 (.build zV [((0, 1), (ci 11))]), o 7 (.alloc zV), on (st 7 7 17)]
def r108_4 : LO := [o 18 (fa 3 5), o 19 (ld 18), o 20 (.len false (T 19)), o 21 (mi 0)]
def r108_5 : LO := [o 22 (.bin .lss (T 21) (T 20))]
def r108_9 : LO := [o 23 (.idxSl 7 (T 19) (T 21)), o 24 (ln 7 23), o 9 (.alloc zV), on (st 7 9 24)]
def r108_10 : LO := [o 25 (fa 3 7), o 26 (ld 25), o 27 (ln 2 3), o 28 (ln 8 4), o 29 (ln 7 9), o 30 (.call (cf 163) [(T 27), (T 28), (T 29)]), o 31 (.sliceLit 7 1 zV [((0, 7), (T 30))]), o 32 (.append 7 128 (T 26) (T 31))]
def r108_10t : LO := [o 33 (fa 3 7), on (st 1 33 32)]
def r108_10o : LN := [[], [0], [], [], [], [2, 3, 4], [5], [1, 5, 6]]
def k108_1 : ACode := .block 2 (.seq (.region r108_9) (.drawn r108_10o r108_10 r108_10t))
def r108_13 : LO := [o 34 (.bin .add (T 21) (ci 1)), o 21 (mv 34)]
def k108_2 : ACode := .seq k108_1 (.region r108_13)
def k108_3 : ACode := .seq (.cond (T 22) .skip (.exit 1)) k108_2
def k108_4 : ACode := .seq (.region r108_5) k108_3
def k108_5 : ACode := .block 1 (.loop k108_4)
def r108_20 : LO := [o 35 (ln 7 7), on (st 7 6 35)]
def k108_6 : ACode := .seq (.region r108_20) .ret
def k108_7 : ACode := .seq (.seq (.region r108_4) k108_5) k108_6
def r108_25 : LO := [o 37 (.bin .eql (T 14) (ci 5)), o 36 (mv 37)]
def r108_26 : LO := [o 38 (.build zV [((0, 1), (ci 12))]), o 10 (.alloc zV), on (st 7 10 38)]
def r108_27 : LO := [o 39 (fa 4 5), o 40 (ld 39), o 41 (.call (cf 164) [(T 40)]), o 42 (.len false (T 41)), o 43 (mi 0)]
def r108_28 : LO := [o 44 (.bin .lss (T 43) (T 42))]
def r108_32 : LO := [o 45 (.idxSl 14 (T 41) (T 43)), o 46 (ln 14 45), o 12 (.alloc [(aI 0), (aU 0), aE, .nil, .nil, .nil, .nil, (aI 0), (aU 0), aE, .nil, .nil, .nil, .nil]), on (st 14 12 46)]
def r108_33 : LO := [o 47 (fa 4 10), o 48 (ld 47), o 49 (fa 0 12), o 50 (ln 7 49), o 51 (.call (cf 50) [(T 50)]), o 52 (ln 2 3), o 53 (ln 8 4), o 54 (fa 7 12), o 55 (ln 7 54), o 56 (.call (cf 163) [(T 52), (T 53), (T 55)]), o 57 (.build [(aI 0), (aU 0), aE, .nil, .nil, .nil, .nil, (aI 0), (aU 0), aE, .nil, .nil, .nil, .nil] [((0, 7), (T 51)), ((7, 7), (T 56))]), o 58 (.sliceLit 14 1 [(aI 0), (aU 0), aE, .nil, .nil, .nil, .nil, (aI 0), (aU 0), aE, .nil, .nil, .nil, .nil] [((0, 14), (T 57))]), o 59 (.append 14 256 (T 48) (T 58))]
def r108_33t : LO := [o 60 (fa 4 10), on (st 1 60 59)]
def r108_33o : LN := [[], [0], [], [2], [3], [], [], [], [7], [4, 5, 6, 8], [4, 9], [10], [1, 9, 11]]
def k108_8 : ACode := .block 4 (.seq (.region r108_32) (.drawn r108_33o r108_33 r108_33t))
def r108_36 : LO := [o 61 (.bin .add (T 43) (ci 1)), o 43 (mv 61)]
def k108_9 : ACode := .seq k108_8 (.region r108_36)
def k108_10 : ACode := .seq (.cond (T 44) .skip (.exit 3)) k108_9
def k108_11 : ACode := .seq (.region r108_28) k108_10
def k108_12 : ACode := .block 3 (.loop k108_11)
def r108_43 : LO := [o 62 (ln 7 10), on (st 7 6 62)]
def k108_13 : ACode := .seq (.region r108_43) .ret
def k108_14 : ACode := .seq (.seq (.region r108_27) k108_12) k108_13
def k108_15 : ACode := .cond (T 36) (.seq (.region r108_26) k108_14) .skip
def k108_16 : ACode := .seq (.region r108_25) k108_15
def k108_17 : ACode := .cond (T 15) (.seq (.region r108_3) k108_7) k108_16
def k108_18 : ACode := .seq (.region r108_2) k108_17
def k108_19 : ACode := .block 0 k108_18
def r108_55 : LO := [o 63 (ln 2 3), o 64 (ln 8 4), o 65 (ln 7 5), o 66 (.call (cf 163) [(T 63), (T 64), (T 65)]), on (st 7 6 66)]
def k108_20 : ACode := .seq (.region r108_55) .ret
def k108_21 : ACode := .seq (.seq (.region r108_1) k108_19) k108_20
def k108_22 : ACode := .seq (.region r108_0) k108_21
theorem fn108 : getFn Tryz.prog 108 = some (67, k108_22, [.cell 6 (some 7)]) := by kernel_rfl
def r110_0 : LO := [o 4 (mv 0), o 5 (mv 0), o 6 (.len false (T 5)), o 7 (mv 1), o 8 (.call (cf 166) [(T 4), (T 6), (T 7)])]
theorem fn110 : getFn Tryz.prog 110 = some (9, .region r110_0, []) := by kernel_rfl
def r113_0 : LO := [o 4 (mi 0)]
def r113_1 : LO := [o 8 (mv 0), o 9 (.nilCheck (T 8)), o 10 (fa 2 9), o 11 (ln 6 10), o 12 (mv 1), o 13 (.call (cf 168) [(T 11), (T 12)]), o 7 (mv 13), o 14 (.extract 0 (T 7)), o 15 (.extract 1 (T 7)), o 5 (.alloc [aE, (aI 0), (aI 0), (aI 0), (aI 0), (aI 0)]), on (st 6 5 14), o 6 (mv 15)]
def r113_2 : LO := [o 16 (mv 0), o 17 (ln 6 5), o 18 (.nilCheck (T 16)), o 19 (fa 2 18), on (st 6 19 17)]
def r113_3 : LO := [o 20 (mv 6), o 4 (mv 20)]
def k113_1 : ACode := .seq (.region r113_3) .ret
def k113_2 : ACode := .seq (.region r113_2) k113_1
def k113_3 : ACode := .seq (.region r113_1) k113_2
def k113_4 : ACode := .seq (.region r113_0) k113_3
theorem fn113 : getFn Tryz.prog 113 = some (21, k113_4, [.tmp 4]) := by kernel_rfl
def r114_0 : LO := [o 3 (bx 1), o 4 (.alloc zV), o 5 (mi 0)]
def r114_1 : LO := [o 10 (fa 5 3), o 11 (ld 10), o 12 (.bin .eql (T 11) (ci 10))]
def r114_2 : LO := [o 13 (mv 0), o 14 (fa 6 3), o 15 (ld 14), o 16 (.call (cf 61) [(T 13), (T 15)]), o 17 (.extract 0 (T 16)), o 18 (.extract 1 (T 16)), on (st 7 4 17), o 5 (mv 18)]
def k114_1 : ACode := .cond (T 12) (.seq (.region r114_2) .ret) .skip
def k114_2 : ACode := .seq (.region r114_1) k114_1
def r114_8 : LO := [o 19 (mv 0), o 20 (.call (cf 113) [(T 19), (ci 1)]), o 6 (mv 20)]
def r114_9 : LO := [o 21 (mv 6), o 22 (.bin .neq (T 21) (ci 0))]
def r114_10 : LO := [o 23 (.build zV []), o 24 (mv 6), on (st 7 4 23), o 5 (mv 24)]
def k114_3 : ACode := .cond (T 22) (.seq (.region r114_10) .ret) .skip
def k114_4 : ACode := .seq (.region r114_9) k114_3
def r114_17 : LO := [o 26 (mv 0), o 27 (.nilCheck (T 26)), o 28 (fa 0 27), o 29 (ln 2 28), o 30 (ln 8 3), o 31 (mv 0), o 32 (.nilCheck (T 31)), o 33 (fa 2 32), o 34 (ln 6 33), o 35 (.call (cf 10) [(T 29), (T 30), (T 34)]), o 25 (mv 35), o 36 (.extract 0 (T 25)), o 37 (.extract 1 (T 25)), o 38 (.extract 2 (T 25)), o 7 (.alloc zV), o 8 (.alloc [aE, (aI 0), (aI 0), (aI 0), (aI 0), (aI 0)]), on (st 7 7 36), on (st 6 8 37)]
def r114_17t : LO := [o 9 (mv 38)]
def r114_17o : LN := [[], [0], [1], [2], [], [], [5], [6], [7], [3, 4, 8], [9], [10], [10], [10], [], [], [0, 1, 2, 3, 4, 5, 6, 7, 8, 9, 10, 11, 14, 15], [0, 1, 2, 3, 4, 5, 6, 7, 8, 9, 10, 11, 12, 14, 15, 16]]
def r114_18 : LO := [o 39 (mv 0), o 40 (ln 6 8), o 41 (.nilCheck (T 39)), o 42 (fa 2 41), on (st 6 42 40)]
def r114_19 : LO := [o 43 (ln 7 7), o 44 (mv 9), on (st 7 4 43), o 5 (mv 44)]
def k114_5 : ACode := .seq (.region r114_19) .ret
def k114_6 : ACode := .seq (.region r114_18) k114_5
def k114_7 : ACode := .seq (.drawn r114_17o r114_17 r114_17t) k114_6
def k114_8 : ACode := .seq (.seq (.region r114_8) k114_4) k114_7
def k114_9 : ACode := .seq k114_2 k114_8
def k114_10 : ACode := .seq (.region r114_0) k114_9
theorem fn114 : getFn Tryz.prog 114 = some (45, k114_10, [.cell 4 (some 7), .tmp 5]) := by kernel_rfl
end
section
attribute [-simp] List.map_take List.map_drop List.map_append List.map_set List.map_replicate List.map_cons List.map_map
attribute [local simp] plain plainL lowE lowB keepB low lowL lowLL plm_I_i8 plm_I_i16 plm_I_i32 plm_I_i64 plm_I_u8 plm_I_u16 plm_I_u32 plm_I_u64 plm_Bool plm_Str gfn_fi gfn_cap plm_Fn pl_GOp plm_GOp pl_GProg plm_GProg pl_GRaw plm_GRaw pl_GValue plm_GValue pl_GPair plm_GPair pl_GSlot plm_GSlot pl_GNote plm_GNote pl_GItem plm_GItem pl_GSpan plm_GSpan pl_GEnum plm_GEnum pl_GPlan plm_GPlan pl_GS26 plm_GS26 pl_GCursor plm_GCursor pl_GLimits eI_i8 eI_i16 eI_i32 eI_i64 eI_u8 eI_u16 eI_u32 eI_u64 eBool eStr eFn lwr_Bool lwm_I_u8 lwm_GEnum lwc_GValue lwc_GEnum lwc_GPlan lwc_GCursor
def r117_0 : LO := [o 5 (bx 1), o 6 (bx 2), o 7 (bx 3), o 8 (.alloc zV), o 9 (mb false), o 10 (mi 0)]
def r117_1 : LO := [o 20 (mv 0), o 21 (.nilCheck (T 20)), o 22 (fa 2 21), o 23 (ln 6 22), o 24 (.call (cf 31) [(T 23)]), o 19 (mv 24), o 25 (.extract 0 (T 19)), o 26 (.extract 1 (T 19)), o 27 (.extract 2 (T 19)), o 12 (.alloc [aE, (aI 0), (aI 0), (aI 0), (aI 0), (aI 0)]), o 11 (mv 25), on (st 6 12 26), o 13 (mv 27)]
def r117_2 : LO := [o 28 (mv 13), o 29 (.bin .neq (T 28) (ci 0))]
def r117_3 : LO := [o 30 (.build zV []), o 31 (mv 13), on (st 7 8 30), o 9 (mb false), o 10 (mv 31)]
def k117_1 : ACode := .cond (T 29) (.seq (.region r117_3) .ret) .skip
def k117_2 : ACode := .seq (.region r117_2) k117_1
def r117_9 : LO := [o 32 (mv 11), o 33 (.bin .gtr (T 32) (.c (aC 1)))]
def r117_10 : LO := [o 34 (.build zV []), on (st 7 8 34), o 9 (mb false), o 10 (mi 5)]
def k117_3 : ACode := .cond (T 33) (.seq (.region r117_10) .ret) .skip
def k117_4 : ACode := .seq (.region r117_9) k117_3
def r117_16 : LO := [o 35 (mv 0), o 36 (ln 6 12), o 37 (.nilCheck (T 35)), o 38 (fa 2 37), on (st 6 38 36)]
def r117_17 : LO := [o 39 (mv 11), o 40 (.bin .eql (T 39) (.c (aC 0)))]
def r117_18 : LO := [o 41 (.build zV []), on (st 7 8 41), o 9 (mb false), o 10 (mi 0)]
def k117_5 : ACode := .cond (T 40) (.seq (.region r117_18) .ret) .skip
def k117_6 : ACode := .seq (.region r117_17) k117_5
def r117_24 : LO := [o 42 (fa 5 6), o 43 (ld 42), o 44 (.len false (T 43)), o 45 (mi 0)]
def r117_25 : LO := [o 46 (.bin .lss (T 45) (T 44))]
def r117_29 : LO := [o 47 (.idxSl 8 (T 43) (T 45)), o 48 (ln 8 47), o 15 (.alloc [(aI 0), (aI 0), (aU 0), aE, .nil, .nil, .nil, .nil]), on (st 8 15 48)]
def r117_30 : LO := [o 50 (ln 3 5), o 51 (fa 0 15), o 52 (ld 51), o 53 (.call (cf 107) [(T 50), (T 52)]), o 49 (mv 53), o 54 (.extract 0 (T 49)), o 55 (.extract 1 (T 49)), o 16 (.alloc [(aI 0), aE, aE, (aI 0), (aI 0), (aI 0), (aI 0), (aI 0)]), on (st 8 16 54), o 17 (mv 55)]
def r117_31 : LO := [o 56 (mv 17), o 57 (mv 56), og 58 (fa 7 7) 57 true, og 59 (ld 58) 57 true, og 60 (.bin .geq (T 59) (ci 0)) 57 true, o 61 (.pick (T 57) (T 60) (cb false)), o 62 (mv 61), og 63 (fa 7 16) 62 true, og 64 (ld 63) 62 true, og 65 (fa 7 7) 62 true, og 66 (ld 65) 62 true, og 67 (.bin .eql (T 64) (T 66)) 62 true, o 68 (.pick (T 62) (T 67) (cb false))]
def r117_32 : LO := [o 69 (.build zV []), on (st 7 8 69), o 9 (mb false), o 10 (mi 15)]
def k117_7 : ACode := .cond (T 68) (.seq (.region r117_32) .ret) .skip
def k117_8 : ACode := .seq (.region r117_31) k117_7
def k117_9 : ACode := .seq (.region r117_30) k117_8
def k117_10 : ACode := .block 1 (.seq (.region r117_29) k117_9)
def r117_41 : LO := [o 70 (.bin .add (T 45) (ci 1)), o 45 (mv 70)]
def k117_11 : ACode := .seq k117_10 (.region r117_41)
def k117_12 : ACode := .seq (.cond (T 46) .skip (.exit 0)) k117_11
def k117_13 : ACode := .seq (.region r117_25) k117_12
def k117_14 : ACode := .block 0 (.loop k117_13)
def r117_48 : LO := [o 72 (mv 0), o 73 (ln 8 7), o 74 (.call (cf 114) [(T 72), (T 73)]), o 71 (mv 74), o 75 (.extract 0 (T 71)), o 76 (.extract 1 (T 71)), o 18 (.alloc zV), on (st 7 18 75), o 13 (mv 76)]
def r117_49 : LO := [o 77 (mv 13), o 78 (.bin .eql (T 77) (ci 0)), o 79 (mv 78), og 80 (fa 3 7) 79 true, og 81 (ld 80) 79 true, og 82 (.bin .eql (T 81) (ci 3)) 79 true, o 83 (.pick (T 79) (T 82) (cb false)), o 84 (mv 83), og 85 (ln 7 18) 84 true, og 86 (.call (cf 165) [(T 85)]) 84 true, o 87 (.pick (T 84) (T 86) (cb false))]
def r117_50 : LO := [o 13 (mi 5)]
def k117_15 : ACode := .cond (T 87) (.region r117_50) .skip
def k117_16 : ACode := .seq (.region r117_49) k117_15
def r117_54 : LO := [o 88 (ln 7 18), o 89 (mv 13), on (st 7 8 88), o 9 (mb true), o 10 (mv 89)]
def k117_17 : ACode := .seq (.region r117_54) .ret
def k117_18 : ACode := .seq k117_16 k117_17
def k117_19 : ACode := .seq (.region r117_48) k117_18
def k117_20 : ACode := .seq (.seq (.region r117_24) k117_14) k117_19
def k117_21 : ACode := .seq k117_6 k117_20
def k117_22 : ACode := .seq (.region r117_16) k117_21
def k117_23 : ACode := .seq k117_4 k117_22
def k117_24 : ACode := .seq k117_2 k117_23
def k117_25 : ACode := .seq (.region r117_1) k117_24
def k117_26 : ACode := .seq (.region r117_0) k117_25
theorem fn117 : getFn Tryz.prog 117 = some (90, k117_26, [.cell 8 (some 7), .tmp 9, .tmp 10]) := by kernel_rfl
theorem plr118 (r : Bool) : plain (e118 r) = true := rfl
def r118_0 : LO := [o 1 (bx 0), o 2 (mb false)]
def r118_1 : LO := [o 3 (fa 1 1), o 4 (ld 3), o 5 (.bin .geq (T 4) (ci 0)), o 6 (mv 5), og 7 (fa 1 1) 6 true, og 8 (ld 7) 6 true, og 9 (fa 2 1) 6 true, og 10 (ld 9) 6 true, og 11 (.bin .leq (T 8) (T 10)) 6 true, o 12 (.pick (T 6) (T 11) (cb false)), o 13 (mv 12), og 14 (fa 2 1) 13 true, og 15 (ld 14) 13 true, og 16 (fa 0 1) 13 true, og 17 (ld 16) 13 true, og 18 (.len true (T 17)) 13 true, og 19 (.bin .leq (T 15) (T 18)) 13 true, o 20 (.pick (T 13) (T 19) (cb false)), o 2 (mv 20)]
def k118_1 : ACode := .seq (.region r118_1) .ret
def k118_2 : ACode := .seq (.region r118_0) k118_1
theorem fn118 : getFn Tryz.prog 118 = some (21, k118_2, [.tmp 2]) := by kernel_rfl
theorem cursor_Sound_step (c : GCursor) (r : Bool) (hw : r = (((decide (0 <= c.At)) && (decide (c.At <= c.End))) && (decide (c.End <= (c.Data.size : Int))))) : cursor_Sound c r := by
 refine f_pureD fn118 nle rfl (ds (vg 2 [(1, .ptr 0 0)] [(eGCursor c)] [] (ve (ds (va 4 [(6, aB (decide (0 <= c.At)))] (vj 6 12 10 (decide (0 <= c.At)) (fun z => aB (z && (decide (c.At <= c.End)))) km_d (fun _ key => ?_) (fun _ key => ?_) ?_))))))
 ·exact va 5 [(11, aB (decide (c.At <= c.End)))] (va 1 [(12, aB (decide (c.At <= c.End)))] (vle km_d key))
 ·exact va 5 [(11, .tuple [])] (va 1 [(12, aB false)] (vle km_d key))
 refine va 1 [(13, aB ((decide (0 <= c.At)) && (decide (c.At <= c.End))))] (vj 13 20 18 ((decide (0 <= c.At)) && (decide (c.At <= c.End))) (fun z => aB (z && (decide (c.End <= (c.Data.size : Int))))) km_d (fun _ key => ?_) (fun _ key => ?_) ?_)
 ·exact va 4 [(17, aS c.Data), (15, aI c.End)] (vo rfl (x_lenS c.Data) rfl (va 1 [(19, aB (decide (c.End <= (c.Data.size : Int))))] (va 1 [(20, aB (decide (c.End <= (c.Data.size : Int))))] (vle km_d key))))
 ·exact va 6 [(19, .tuple [])] (va 1 [(20, aB false)] (vle km_d key))
 exact va 1 [(2, aB (((decide (0 <= c.At)) && (decide (c.At <= c.End))) && (decide (c.End <= (c.Data.size : Int)))))] (ve (d_ret (rx hw (plr118 _))))
theorem plr130 (r : Bool) : plain (e130 r) = true := rfl
def r130_0 : LO := [o 2 (mb false)]
def r130_1 : LO := [o 5 (mv 0), o 6 (.call (cf 173) [(T 5)]), o 7 (.un .not (T 6))]
def r130_2 : LO := [o 2 (mb false)]
def k130_1 : ACode := .cond (T 7) (.seq (.region r130_2) .ret) .skip
def k130_2 : ACode := .seq (.region r130_1) k130_1
def r130_8 : LO := [o 8 (mv 0), o 9 (.bin .neq (T 8) (.c aE))]
def k130_3 : ACode := .cond (T 9) .skip (.exit 0)
def r130_13 : LO := [o 11 (mv 0), o 12 (.call (cf 174) [(T 11)]), o 10 (mv 12), o 13 (.extract 0 (T 10)), o 14 (.extract 1 (T 10)), o 3 (mv 13), o 4 (mv 14)]
def r130_14 : LO := [o 15 (mv 4), o 16 (.call (cf 175) [(T 15)])]
def r130_15 : LO := [o 2 (mb false)]
def k130_4 : ACode := .cond (T 16) (.seq (.region r130_15) .ret) .skip
def k130_5 : ACode := .seq (.region r130_14) k130_4
def r130_21 : LO := [o 17 (mv 3), o 0 (mv 17)]
def k130_6 : ACode := .seq k130_5 (.region r130_21)
def k130_7 : ACode := .block 1 (.seq (.region r130_13) k130_6)
def k130_8 : ACode := .seq (.seq (.region r130_8) k130_3) k130_7
def r130_28 : LO := [o 2 (mb true)]
def k130_9 : ACode := .seq (.region r130_28) .ret
def k130_10 : ACode := .seq (.block 0 (.loop k130_8)) k130_9
def k130_11 : ACode := .seq k130_2 k130_10
def k130_12 : ACode := .seq (.region r130_0) k130_11
theorem fn130 : getFn Tryz.prog 130 = some (18, k130_12, [.tmp 2]) := by kernel_rfl
def q130_0 (r : Bool) : QP := qret [.tmp 2] (e130 r)
def q130_5 (r : Bool) : QP := tq Tryz.prog 18 k130_9 (q130_0 r)
def q130_6 (r : Bool) : QP := inBlockA 0 (q130_5 r)
def ref22_defined_j2 (sj1 : ByteArray) (r : Bool) : Prop := DL Tryz.prog 18 0 0 k130_8 (q130_6 r) [(0, aS sj1)] ⟨[], [], []⟩
theorem ref22_defined_j2_step (sj1 : ByteArray) (r : Bool) (hw : ((!(decide (sj1 = (⟨#[]⟩ : ByteArray)))) = true -> ∃ y4, ref06_Split sj1 y4 /\ (∃ y5, ref06_IsWord y4.2 y5 /\ ((y5 = true -> r = false) /\ (y5 = false -> ref22_defined_j2 y4.1 r)))) /\ ((!(decide (sj1 = (⟨#[]⟩ : ByteArray)))) = false -> r = true)) : ref22_defined_j2 sj1 r := by
 refine dl_unroll (d_seqQ (ds (va 1 [(8, aS sj1)] (vo rfl (x_neS sj1 (⟨#[]⟩ : ByteArray)) rfl (ve (dw hw (fun _ hw => ?_) (fun _ hw => ?_)))))))
 ·refine d_skip (d_blockQ (ds (va 1 [(11, aS sj1)] ?_)))
  obtain ⟨y4, hy, hw⟩ := hw
  refine vo rfl (x_call hy pl174) rfl (va 5 [(4, aS y4.2), (3, aS y4.1)] (ve (d_seqQ (ds (va 1 [(15, aS y4.2)] ?_)))))
  obtain ⟨y5, hy, hw⟩ := hw
  refine vo rfl (x_call hy pl175) rfl (ve (dw hw (fun _ hw => ?_) (fun _ hw => ?_)))
  ·exact ds (va 1 [(2, aB false)] (ve (d_ret (rx hw (plr130 _)))))
  exact d_skip (dr (va 2 [(0, aS y4.1)] (ve (jl0 hw))))
 exact d_exit (ds (va 1 [(2, aB true)] (ve (d_ret (rx hw (plr130 _))))))
theorem ref22_defined_step (s : ByteArray) (r : Bool) (hw : ∃ y1, ref06_IsFull s y1 /\ (((!y1) = true -> r = false) /\ ((!y1) = false -> ref22_defined_j2 s r))) : ref22_defined s r := by
 refine f_pureD fn130 nle rfl (ds (va 1 [] (ve (d_seqQ (ds (va 1 [(5, aS s)] ?_))))))
 obtain ⟨y1, hy, hw⟩ := hw
 refine vo rfl (x_call hy pl173) rfl (va 1 [(7, aB (!y1))] (ve (dw hw (fun _ hw => ?_) (fun _ hw => ?_))))
 ·exact ds (va 1 [(2, aB false)] (ve (d_ret (rx hw (plr130 _)))))
 exact d_skip (d_seqQ (d_blockQ (d_loopQ (jl0 hw))))
theorem plr131 (r : Bool) : plain (e131 r) = true := rfl
def r131_0 : LO := [o 2 (mb false)]
def r131_1 : LO := [o 3 (mv 0), o 4 (.call (cf 176) [(T 3)]), o 5 (mv 4), og 6 (mv 0) 5 true, og 7 (.call (cf 175) [(T 6)]) 5 true, og 8 (.un .not (T 7)) 5 true, o 9 (.pick (T 5) (T 8) (cb false)), o 2 (mv 9)]
def k131_1 : ACode := .seq (.region r131_1) .ret
def k131_2 : ACode := .seq (.region r131_0) k131_1
theorem fn131 : getFn Tryz.prog 131 = some (10, k131_2, [.tmp 2]) := by kernel_rfl
theorem ref22_simple_step (s : ByteArray) (r : Bool) (hw : ∃ y1, ref06_IsPart s y1 /\ ((y1 = true -> ∃ y2, ref06_IsWord s y2 /\ (r = (!y2))) /\ (y1 = false -> r = false))) : ref22_simple s r := by
 refine f_pureD fn131 nle rfl (ds (va 1 [] (ve (ds (va 1 [(3, aS s)] ?_)))))
 obtain ⟨y1, hy, hw⟩ := hw
 refine vo rfl (x_call hy pl176) rfl (va 1 [(5, aB y1)] (vw2 5 hw (fun _ hw => ?_) (fun _ hw => ?_)))
 ·refine va 1 [(6, aS s)] ?_
  obtain ⟨y2, hy, hw⟩ := hw
  exact vo rfl (x_call hy pl175) rfl (va 3 [(2, aB (!y2))] (ve (d_ret (rx hw (plr131 _)))))
 exact va 5 [(2, aB false)] (ve (d_ret (rx hw (plr131 _))))
theorem plr132 (r : Bool) : plain (e132 r) = true := rfl
def r132_0 : LO := [o 4 (mb false)]
def r132_1 : LO := [o 5 (mi 0)]
def r132_2 : LO := [o 6 (mv 5), o 7 (mv 0), o 8 (.len false (T 7)), o 9 (.bin .lss (T 6) (T 8))]
def k132_1 : ACode := .cond (T 9) .skip (.exit 0)
def r132_7 : LO := [o 12 (mv 0), o 13 (mv 5), o 14 (.idxSl 2 (T 12) (T 13)), o 15 (fa 0 14), o 16 (ld 15), o 17 (mv 1), o 18 (.bin .leq (T 16) (T 17)), o 19 (mv 18), og 20 (mv 1) 19 true, og 21 (mv 0) 19 true, og 22 (mv 5) 19 true, og 23 (.idxSl 2 (T 21) (T 22)) 19 true, og 24 (fa 1 23) 19 true, og 25 (ld 24) 19 true, og 26 (.bin .leq (T 20) (T 25)) 19 true, o 27 (.pick (T 19) (T 26) (cb false))]
def r132_8 : LO := [o 4 (mb true)]
def k132_2 : ACode := .cond (T 27) (.seq (.region r132_8) .ret) .skip
def k132_3 : ACode := .seq (.region r132_7) k132_2
def r132_15 : LO := [o 10 (mv 5), o 11 (.bin .add (T 10) (ci 1)), o 5 (mv 11)]
def k132_4 : ACode := .seq (.block 1 k132_3) (.region r132_15)
def k132_5 : ACode := .seq (.seq (.region r132_2) k132_1) k132_4
def k132_6 : ACode := .block 0 (.loop k132_5)
def r132_21 : LO := [o 4 (mb false)]
def k132_7 : ACode := .seq (.region r132_21) .ret
def k132_8 : ACode := .seq (.seq (.region r132_1) k132_6) k132_7
def k132_9 : ACode := .seq (.region r132_0) k132_8
theorem fn132 : getFn Tryz.prog 132 = some (28, k132_9, [.tmp 4]) := by kernel_rfl
def q132_0 (r : Bool) : QP := qret [.tmp 4] (e132 r)
def q132_2 (r : Bool) : QP := tq Tryz.prog 28 k132_7 (q132_0 r)
def q132_4 (r : Bool) : QP := inBlockA 0 (q132_2 r)
def ref12_Reserved_j2 (ij1 : Int) (l : (List GSpan)) (n : Int) (r : Bool) : Prop := DL Tryz.prog 28 0 0 k132_5 (q132_4 r) [(5, aI ij1), (0, .sl (List.map eGSpan l) .no), (1, aI n)] ⟨[], [], []⟩
theorem ref12_Reserved_j2_step (ij1 : Int) (l : (List GSpan)) (n : Int) (r : Bool) (hw : ((decide (ij1 < (l.length : Int))) = true -> ∃ y4, l[ij1.toNat]? = some y4 /\ 0 <= ij1 /\ (((decide (y4.From <= n)) = true -> ∃ y6, l[ij1.toNat]? = some y6 /\ 0 <= ij1 /\ (((decide (n <= y6.To)) = true -> r = true) /\ ((decide (n <= y6.To)) = false -> ref12_Reserved_j2 (wI (ij1 + 1)) l n r))) /\ ((decide (y4.From <= n)) = false -> ref12_Reserved_j2 (wI (ij1 + 1)) l n r))) /\ ((decide (ij1 < (l.length : Int))) = false -> r = false)) : ref12_Reserved_j2 ij1 l n r := by
 refine dl_unroll (d_seqQ (ds (va 2 [(7, .sl (List.map eGSpan l) .no), (6, aI ij1)] (vo rfl (x_len l eGSpan) rfl (va 1 [(9, aB (decide (ij1 < (l.length : Int))))] (ve (dw hw (fun _ hw => ?_) (fun _ hw => ?_))))))))
 ·refine d_skip (d_seqQ (d_blockQ (ds (va 2 [(13, aI ij1), (12, .sl (List.map eGSpan l) .no)] ?_))))
  obtain ⟨y4, hy, h0, hw⟩ := hw
  refine vo rfl (x_idx h0 hy (rfl : eGSpan y4 = eGSpan y4)) rfl (va 5 [(19, aB (decide (y4.From <= n)))] (vw2 19 hw (fun _ hw => ?_) (fun _ hw => ?_)))
  ·refine va 3 [(22, aI ij1), (21, .sl (List.map eGSpan l) .no), (20, aI n)] ?_
   obtain ⟨y6, hy, h0, hw⟩ := hw
   refine vo rfl (x_idx h0 hy (rfl : eGSpan y6 = eGSpan y6)) rfl (va 4 [(27, aB (decide (n <= y6.To)))] (ve (dw hw (fun _ hw => ?_) (fun _ hw => ?_))))
   ·exact ds (va 1 [(4, aB true)] (ve (d_ret (rx hw (plr132 _)))))
   exact d_skip (dr (va 3 [(5, aI (wI (ij1 + 1)))] (ve (jl0 hw))))
  exact va 8 [(27, aB false)] (ve (df (d_skip (dr (va 3 [(5, aI (wI (ij1 + 1)))] (ve (jl0 hw)))))))
 exact d_exit (ds (va 1 [(4, aB false)] (ve (d_ret (rx hw (plr132 _))))))
theorem ref12_Reserved_step (l : (List GSpan)) (n : Int) (r : Bool) (hw : ref12_Reserved_j2 0 l n r) : ref12_Reserved l n r := by
 exact f_pureD fn132 nle rfl (ds (va 1 [] (ve (d_seqQ (ds (va 1 [(5, aI 0)] (ve (d_blockQ (d_loopQ (jl0 hw))))))))))
theorem plr133 (r : Int) : plain (e133 r) = true := rfl
def r133_0 : LO := [o 4 (mi 0)]
def r133_1 : LO := [o 6 (mv 0), o 7 (.len false (T 6)), o 8 (.bin .gtr (T 7) (ci 8))]
def r133_2 : LO := [o 4 (mi 3)]
def k133_1 : ACode := .cond (T 8) (.seq (.region r133_2) .ret) .skip
def k133_2 : ACode := .seq (.region r133_1) k133_1
def r133_8 : LO := [o 5 (mi 0)]
def r133_9 : LO := [o 9 (mv 5), o 10 (mv 0), o 11 (.len false (T 10)), o 12 (.bin .lss (T 9) (T 11))]
def k133_3 : ACode := .cond (T 12) .skip (.exit 0)
def r133_14 : LO := [o 15 (mv 0), o 16 (mv 5), o 17 (.idxSl 8 (T 15) (T 16)), o 18 (fa 0 17), o 19 (ld 18), o 20 (.call (cf 177) [(T 19)]), o 21 (.bin .eql (T 20) (ci 0))]
def r133_15 : LO := [o 4 (mi 8)]
def k133_4 : ACode := .cond (T 21) (.seq (.region r133_15) .ret) .skip
def k133_5 : ACode := .seq (.region r133_14) k133_4
def r133_21 : LO := [o 22 (mv 0), o 23 (mv 5), o 24 (.idxSl 8 (T 22) (T 23)), o 25 (fa 0 24), o 26 (ld 25), o 27 (mv 1), o 28 (.call (cf 178) [(T 26), (T 27)]), o 29 (.un .not (T 28))]
def r133_22 : LO := [o 4 (mi 1)]
def k133_6 : ACode := .cond (T 29) (.seq (.region r133_22) .ret) .skip
def k133_7 : ACode := .seq (.region r133_21) k133_6
def r133_28 : LO := [o 30 (mv 0), o 31 (mv 5), o 32 (.idxSl 8 (T 30) (T 31)), o 33 (ln 8 32), o 34 (.call (cf 179) [(T 33)]), o 35 (.un .not (T 34))]
def r133_29 : LO := [o 4 (mi 12)]
def k133_8 : ACode := .cond (T 35) (.seq (.region r133_29) .ret) .skip
def k133_9 : ACode := .seq (.region r133_28) k133_8
def r133_35 : LO := [o 36 (mv 5), o 37 (.bin .gtr (T 36) (ci 0)), o 38 (mv 37), og 39 (mv 0) 38 true, og 40 (mv 5) 38 true, og 41 (.idxSl 8 (T 39) (T 40)) 38 true, og 42 (fa 0 41) 38 true, og 43 (ld 42) 38 true, og 44 (mv 0) 38 true, og 45 (mv 5) 38 true, og 46 (.bin .sub (T 45) (ci 1)) 38 true, og 47 (.idxSl 8 (T 44) (T 46)) 38 true, og 48 (fa 0 47) 38 true, og 49 (ld 48) 38 true, og 50 (.bin .lss (T 43) (T 49)) 38 true, o 51 (.pick (T 38) (T 50) (cb false))]
def r133_35t : LO := []
def r133_35o : LN := [[], [0], [1], [2], [2], [2, 3, 4], [2, 5], [2, 6], [2], [2], [2, 9], [2, 8, 10], [2, 11], [2, 12], [2, 7, 13], [2, 14]]
def r133_36 : LO := [o 4 (mi 11)]
def k133_10 : ACode := .cond (T 51) (.seq (.region r133_36) .ret) .skip
def k133_11 : ACode := .seq (.drawn r133_35o r133_35 r133_35t) k133_10
def r133_42 : LO := [o 52 (mv 5), o 53 (.bin .gtr (T 52) (ci 0)), o 54 (mv 53), og 55 (mv 0) 54 true, og 56 (mv 5) 54 true, og 57 (.idxSl 8 (T 55) (T 56)) 54 true, og 58 (fa 0 57) 54 true, og 59 (ld 58) 54 true, og 60 (mv 0) 54 true, og 61 (mv 5) 54 true, og 62 (.bin .sub (T 61) (ci 1)) 54 true, og 63 (.idxSl 8 (T 60) (T 62)) 54 true, og 64 (fa 0 63) 54 true, og 65 (ld 64) 54 true, og 66 (.bin .eql (T 59) (T 65)) 54 true, o 67 (.pick (T 54) (T 66) (cb false))]
def r133_42t : LO := []
def r133_42o : LN := [[], [0], [1], [2], [2], [2, 3, 4], [2, 5], [2, 6], [2], [2], [2, 9], [2, 8, 10], [2, 11], [2, 12], [2, 7, 13], [2, 14]]
def r133_43 : LO := [o 4 (mi 9)]
def k133_12 : ACode := .cond (T 67) (.seq (.region r133_43) .ret) .skip
def k133_13 : ACode := .seq (.drawn r133_42o r133_42 r133_42t) k133_12
def k133_14 : ACode := .seq k133_11 k133_13
def k133_15 : ACode := .seq k133_9 k133_14
def k133_16 : ACode := .seq k133_7 k133_15
def k133_17 : ACode := .block 1 (.seq k133_5 k133_16)
def r133_54 : LO := [o 13 (mv 5), o 14 (.bin .add (T 13) (ci 1)), o 5 (mv 14)]
def k133_18 : ACode := .seq k133_17 (.region r133_54)
def k133_19 : ACode := .seq (.seq (.region r133_9) k133_3) k133_18
def k133_20 : ACode := .block 0 (.loop k133_19)
def r133_60 : LO := [o 4 (mi 0)]
def k133_21 : ACode := .seq (.region r133_60) .ret
def k133_22 : ACode := .seq (.seq (.region r133_8) k133_20) k133_21
def k133_23 : ACode := .seq k133_2 k133_22
def k133_24 : ACode := .seq (.region r133_0) k133_23
theorem fn133 : getFn Tryz.prog 133 = some (68, k133_24, [.tmp 4]) := by kernel_rfl
def q133_0 (r : Int) : QP := qret [.tmp 4] (e133 r)
def q133_5 (r : Int) : QP := tq Tryz.prog 68 k133_21 (q133_0 r)
def q133_7 (r : Int) : QP := inBlockA 0 (q133_5 r)
def ref08_Check_j2 (ij1 : Int) (l : (List GNote)) (target : Int) (r : Int) : Prop := DL Tryz.prog 68 0 0 k133_19 (q133_7 r) [(5, aI ij1), (0, .sl (List.map eGNote l) .no), (1, aI target)] ⟨[], [], []⟩
theorem ref08_Check_j2_step (ij1 : Int) (l : (List GNote)) (target : Int) (r : Int) (hw : ((decide (ij1 < (l.length : Int))) = true -> ∃ y7, l[ij1.toNat]? = some y7 /\ 0 <= ij1 /\ (∃ y8, ref08_Kind y7.Name y8 /\ (((y8 == 0) = true -> r = 8) /\ ((y8 == 0) = false -> ∃ y9, l[ij1.toNat]? = some y9 /\ 0 <= ij1 /\ (∃ y10, ref08_fits y9.Name target y10 /\ (((!y10) = true -> r = 1) /\ ((!y10) = false -> ∃ y11, l[ij1.toNat]? = some y11 /\ 0 <= ij1 /\ (∃ y12, ref08_Right y11 y12 /\ (((!y12) = true -> r = 12) /\ ((!y12) = false -> ∃ R2 : Bool -> Prop, (∀ bz2 : Bool, R2 bz2 -> ((bz2 = true -> r = 11) /\ (bz2 = false -> ((decide (0 < ij1)) = true -> ∃ y17, l[ij1.toNat]? = some y17 /\ 0 <= ij1 /\ (∃ y18, l[(wI (ij1 - 1)).toNat]? = some y18 /\ 0 <= (wI (ij1 - 1)) /\ (((decide (y17.Name = y18.Name)) = true -> r = 9) /\ ((decide (y17.Name = y18.Name)) = false -> ref08_Check_j2 (wI (ij1 + 1)) l target r)))) /\ ((decide (0 < ij1)) = false -> ref08_Check_j2 (wI (ij1 + 1)) l target r)))) /\ (((decide (0 < ij1)) = true -> ∃ y14, l[ij1.toNat]? = some y14 /\ 0 <= ij1 /\ (∃ y15, l[(wI (ij1 - 1)).toNat]? = some y15 /\ 0 <= (wI (ij1 - 1)) /\ (R2 (Op.bytesLess y14.Name.toList y15.Name.toList)))) /\ ((decide (0 < ij1)) = false -> R2 false)))))))))))) /\ ((decide (ij1 < (l.length : Int))) = false -> r = 0)) : ref08_Check_j2 ij1 l target r := by
 refine dl_unroll (d_seqQ (ds (va 2 [(10, .sl (List.map eGNote l) .no), (9, aI ij1)] (vo rfl (x_len l eGNote) rfl (va 1 [(12, aB (decide (ij1 < (l.length : Int))))] (ve (dw hw (fun _ hw => ?_) (fun _ hw => ?_))))))))
 ·refine d_skip (d_seqQ (d_blockQ (d_seqQ (ds (va 2 [(16, aI ij1), (15, .sl (List.map eGNote l) .no)] ?_)))))
  obtain ⟨y7, hy, h0, hw⟩ := hw
  refine vo rfl (x_idx h0 hy (rfl : eGNote y7 = eGNote y7)) rfl (va 2 [(19, aS y7.Name)] ?_)
  obtain ⟨y8, hy, hw⟩ := hw
  refine vo rfl (x_call hy pl177) rfl (va 1 [(21, aB (y8 == 0))] (ve (dw hw (fun _ hw => ?_) (fun _ hw => ?_))))
  ·exact ds (va 1 [(4, aI 8)] (ve (d_ret (rx hw (plr133 _)))))
  refine d_skip (d_seqQ (ds (va 2 [(23, aI ij1), (22, .sl (List.map eGNote l) .no)] ?_)))
  obtain ⟨y9, hy, h0, hw⟩ := hw
  refine vo rfl (x_idx h0 hy (rfl : eGNote y9 = eGNote y9)) rfl (va 3 [(27, aI target), (26, aS y9.Name)] ?_)
  obtain ⟨y10, hy, hw⟩ := hw
  refine vo rfl (x_call hy pl178) rfl (va 1 [(29, aB (!y10))] (ve (dw hw (fun _ hw => ?_) (fun _ hw => ?_))))
  ·exact ds (va 1 [(4, aI 1)] (ve (d_ret (rx hw (plr133 _)))))
  refine d_skip (d_seqQ (ds (va 2 [(31, aI ij1), (30, .sl (List.map eGNote l) .no)] ?_)))
  obtain ⟨y11, hy, h0, hw⟩ := hw
  refine vo rfl (x_idx h0 hy (rfl : eGNote y11 = eGNote y11)) rfl (va 1 [(33, .agg (eGNote y11))] ?_)
  obtain ⟨y12, hy, hw⟩ := hw
  refine vo rfl (x_call hy pl179) rfl (va 1 [(35, aB (!y12))] (ve (dw hw (fun _ hw => ?_) (fun _ hw => ?_))))
  ·exact ds (va 1 [(4, aI 12)] (ve (d_ret (rx hw (plr133 _)))))
  refine d_skip (d_seqQ (d_seqQ (dS [] (sa 0 3 [(38, aB (decide (0 < ij1)))] ?_))))
  obtain ⟨R2, hR, hw⟩ := hw
  refine sr 38 51 16 (decide (0 < ij1)) R2 (fun bz2 => aB bz2) (km_vd km_d) (fun bz2 hz => ?_) (fun key => ⟨fun hb11 => ?_, fun hb11 => ?_⟩)
  ·have hw := hR bz2 hz
   refine send (vp_start' (ve (dw hw (fun _ hw => ?_) (fun _ hw => ?_))))
   ·exact ds (va 1 [(4, aI 11)] (ve (d_ret (rx hw (plr133 _)))))
   refine d_skip (d_seqQ (dS [] (sa 0 3 [(54, aB (decide (0 < ij1)))] (sw2 54 hw (fun _ hw => ?_) (fun _ hw => ?_)))))
   ·refine sa 0 2 [(56, aI ij1), (55, .sl (List.map eGNote l) .no)] ?_
    obtain ⟨y17, hy, h0, hw⟩ := hw
    refine sq rfl (fun _ _ => x_idx h0 hy (rfl : eGNote y17 = eGNote y17)) rfl (sa 0 5 [(62, aI (wI (ij1 - 1))), (60, .sl (List.map eGNote l) .no), (59, aS y17.Name)] ?_)
    obtain ⟨y18, hy, h0, hw⟩ := hw
    refine sq rfl (fun _ _ => x_idx h0 hy (rfl : eGNote y18 = eGNote y18)) rfl (sa 0 2 [(65, aS y18.Name)] (sq rfl (fun _ _ => x_eqS y17.Name y18.Name) rfl (sa 0 1 [(67, aB (decide (y17.Name = y18.Name)))] (send (vp_start' (ve (dw hw (fun _ hw => ?_) (fun _ hw => ?_))))))))
    ·exact ds (va 1 [(4, aI 9)] (ve (d_ret (rx hw (plr133 _)))))
    exact d_skip (dr (va 3 [(5, aI (wI (ij1 + 1)))] (ve (jl0 hw))))
   exact sa 0 13 [(67, aB false)] (send (vp_start' (ve (df (d_skip (dr (va 3 [(5, aI (wI (ij1 + 1)))] (ve (jl0 hw)))))))))
  ·have hw := hw.1 hb11
   refine sa 0 2 [(40, aI ij1), (39, .sl (List.map eGNote l) .no)] ?_
   obtain ⟨y14, hy, h0, hw⟩ := hw
   refine sq rfl (fun _ _ => x_idx h0 hy (rfl : eGNote y14 = eGNote y14)) rfl (sa 0 5 [(46, aI (wI (ij1 - 1))), (44, .sl (List.map eGNote l) .no), (43, aS y14.Name)] ?_)
   obtain ⟨y15, hy, h0, hw⟩ := hw
   exact sq rfl (fun _ _ => x_idx h0 hy (rfl : eGNote y15 = eGNote y15)) rfl (sa 0 2 [(49, aS y15.Name)] (sq rfl (fun _ _ => x_bin (c := True) (.bool (Op.bytesLess y14.Name.toList y15.Name.toList)) trivial) rfl (sa 0 1 [(51, aB (Op.bytesLess y14.Name.toList y15.Name.toList))] (sle (km_vd km_d) (key _ hw)))))
  ·have hw := hw.2 hb11
   exact sa 0 12 [(50, .tuple [])] (sa 0 1 [(51, aB false)] (sle (km_vd km_d) (key _ hw)))
 exact d_exit (ds (va 1 [(4, aI 0)] (ve (d_ret (rx hw (plr133 _))))))
theorem ref08_Check_step (l : (List GNote)) (target : Int) (r : Int) (hw : ((decide (8 < (l.length : Int))) = true -> r = 3) /\ ((decide (8 < (l.length : Int))) = false -> ref08_Check_j2 0 l target r)) : ref08_Check l target r := by
 refine f_pureD fn133 nle rfl (ds (va 1 [] (ve (d_seqQ (ds (va 1 [(6, .sl (List.map eGNote l) .no)] (vo rfl (x_len l eGNote) rfl (va 1 [(8, aB (decide (8 < (l.length : Int))))] (ve (dw hw (fun _ hw => ?_) (fun _ hw => ?_)))))))))))
 ·exact ds (va 1 [(4, aI 3)] (ve (d_ret (rx hw (plr133 _)))))
 exact d_skip (d_seqQ (ds (va 1 [(5, aI 0)] (ve (d_blockQ (d_loopQ (jl0 hw)))))))
end
section
attribute [-simp] List.map_take List.map_drop List.map_append List.map_set List.map_replicate List.map_cons List.map_map
attribute [local simp] plain plainL lowE lowB keepB low lowL lowLL plm_I_i8 plm_I_i16 plm_I_i32 plm_I_i64 plm_I_u8 plm_I_u16 plm_I_u32 plm_I_u64 plm_Bool plm_Str gfn_fi gfn_cap plm_Fn pl_GOp plm_GOp pl_GProg plm_GProg pl_GRaw plm_GRaw pl_GValue plm_GValue pl_GPair plm_GPair pl_GSlot plm_GSlot pl_GNote plm_GNote pl_GItem plm_GItem pl_GSpan plm_GSpan pl_GEnum plm_GEnum pl_GPlan plm_GPlan pl_GS26 plm_GS26 pl_GCursor plm_GCursor pl_GLimits eI_i8 eI_i16 eI_i32 eI_i64 eI_u8 eI_u16 eI_u32 eI_u64 eBool eStr eFn lwr_Bool lwm_I_u8 lwm_GEnum lwc_GValue lwc_GEnum lwc_GPlan lwc_GCursor
theorem plr134 (r : Bool) : plain (e134 r) = true := rfl
def r134_0 : LO := [o 1 (bx 0), o 2 (mb false)]
def r134_1 : LO := [o 3 (mi 0)]
def r134_2 : LO := [o 4 (mi 0)]
def r134_3 : LO := [o 6 (mv 4), o 7 (fa 1 1), o 8 (ld 7), o 9 (.len false (T 8)), o 10 (.bin .lss (T 6) (T 9))]
def k134_1 : ACode := .cond (T 10) .skip (.exit 0)
def r134_8 : LO := [o 13 (fa 1 1), o 14 (ld 13), o 15 (mv 4), o 16 (.idxSl 8 (T 14) (T 15)), o 17 (fa 7 16), o 18 (ld 17), o 5 (mv 18)]
def r134_9 : LO := [o 20 (mv 5), o 21 (mv 3), o 22 (.bin .eql (T 20) (T 21)), o 19 (mv 22)]
def r134_10 : LO := [o 23 (mv 3), o 24 (.bin .add (T 23) (ci 1)), o 3 (mv 24)]
def r134_11 : LO := [o 26 (mv 5), o 27 (.bin .neq (T 26) (ci (-1))), o 28 (mv 27), og 29 (mv 4) 28 true, og 30 (.bin .eql (T 29) (ci 0)) 28 true, og 31 (mv 30) 28 true, og 32 (fa 1 1) 31 false, og 33 (ld 32) 31 false, og 34 (mv 4) 31 false, og 35 (.bin .sub (T 34) (ci 1)) 31 false, og 36 (.idxSl 8 (T 33) (T 35)) 31 false, og 37 (fa 7 36) 31 false, og 38 (ld 37) 31 false, og 39 (mv 5) 31 false, og 40 (.bin .neq (T 38) (T 39)) 31 false, og 41 (.pick (T 31) (cb true) (T 40)) 28 true, o 42 (.pick (T 28) (T 41) (cb false)), o 25 (mv 42)]
def r134_12 : LO := [o 2 (mb false)]
def k134_2 : ACode := .cond (T 25) (.seq (.region r134_12) .ret) .skip
def k134_3 : ACode := .seq (.region r134_11) k134_2
def k134_4 : ACode := .cond (T 19) (.region r134_10) k134_3
def k134_5 : ACode := .seq (.region r134_9) k134_4
def k134_6 : ACode := .block 2 k134_5
def r134_23 : LO := [o 11 (mv 4), o 12 (.bin .add (T 11) (ci 1)), o 4 (mv 12)]
def k134_7 : ACode := .seq (.block 1 (.seq (.region r134_8) k134_6)) (.region r134_23)
def k134_8 : ACode := .seq (.seq (.region r134_3) k134_1) k134_7
def k134_9 : ACode := .block 0 (.loop k134_8)
def r134_29 : LO := [o 43 (fa 2 1), o 44 (ld 43), o 45 (mv 3), o 46 (.bin .eql (T 44) (T 45)), o 2 (mv 46)]
def k134_10 : ACode := .seq (.region r134_29) .ret
def k134_11 : ACode := .seq (.seq (.region r134_2) k134_9) k134_10
def k134_12 : ACode := .seq (.region r134_1) k134_11
def k134_13 : ACode := .seq (.region r134_0) k134_12
theorem fn134 : getFn Tryz.prog 134 = some (47, k134_13, [.tmp 2]) := by kernel_rfl
def q134_0 (r : Bool) : QP := qret [.tmp 2] (e134 r)
def q134_3 (r : Bool) : QP := tq Tryz.prog 47 k134_10 (q134_0 r)
def q134_5 (r : Bool) : QP := inBlockA 0 (q134_3 r)
def ref22_joined_j2 (ij1 : Int) (ij2 : Int) (g : GProg) (r : Bool) : Prop := DL Tryz.prog 47 0 0 k134_8 (q134_5 r) [(4, aI ij1), (3, aI ij2), (1, .ptr 0 0)] ⟨[some (eGProg g)], [], []⟩
theorem ref22_joined_j2_step (ij1 : Int) (ij2 : Int) (g : GProg) (r : Bool) (hw : ((decide (ij1 < (g.Ops.length : Int))) = true -> ∃ y2, g.Ops[ij1.toNat]? = some y2 /\ 0 <= ij1 /\ (((y2.Union == ij2) = true -> ref22_joined_j2 (wI (ij1 + 1)) (wI (ij2 + 1)) g r) /\ ((y2.Union == ij2) = false -> ∃ R1 : Bool -> Prop, (∀ bz1 : Bool, R1 bz1 -> ((bz1 = true -> r = false) /\ (bz1 = false -> ref22_joined_j2 (wI (ij1 + 1)) ij2 g r))) /\ (((y2.Union != (-1)) = true -> ((ij1 == 0) = true -> R1 true) /\ ((ij1 == 0) = false -> ∃ y5, g.Ops[(wI (ij1 - 1)).toNat]? = some y5 /\ 0 <= (wI (ij1 - 1)) /\ (R1 (y5.Union != y2.Union)))) /\ ((y2.Union != (-1)) = false -> R1 false))))) /\ ((decide (ij1 < (g.Ops.length : Int))) = false -> r = (g.Unions == ij2))) : ref22_joined_j2 ij1 ij2 g r := by
 refine dl_unroll (d_seqQ (ds (va 3 [(8, .sl (List.map eGOp g.Ops) .no), (6, aI ij1)] (vo rfl (x_len g.Ops eGOp) rfl (va 1 [(10, aB (decide (ij1 < (g.Ops.length : Int))))] (ve (dw hw (fun _ hw => ?_) (fun _ hw => ?_))))))))
 ·refine d_skip (d_seqQ (d_blockQ (ds (va 3 [(15, aI ij1), (14, .sl (List.map eGOp g.Ops) .no)] ?_))))
  obtain ⟨y2, hy, h0, hw⟩ := hw
  refine vo rfl (x_idx h0 hy (rfl : eGOp y2 = eGOp y2)) rfl (va 3 [(5, aI y2.Union)] (ve (d_blockQ (ds (va 4 [(19, aB (y2.Union == ij2))] (ve (dw hw (fun _ hw => ?_) (fun _ hw => ?_))))))))
  ·exact dr (va 3 [(3, aI (wI (ij2 + 1)))] (ve (dr (va 3 [(4, aI (wI (ij1 + 1)))] (ve (jl0 hw))))))
  refine ds (va 3 [(28, aB (y2.Union != (-1)))] ?_)
  obtain ⟨R1, hR, hw⟩ := hw
  refine vr 28 42 17 (y2.Union != (-1)) R1 (fun bz1 => aB bz1) km_d (fun bz1 hz => ?_) (fun key => ⟨fun hb9 => ?_, fun hb9 => ?_⟩)
  ·have hw := hR bz1 hz
   refine va 1 [(25, aB bz1)] (ve (dw hw (fun _ hw => ?_) (fun _ hw => ?_)))
   ·exact ds (va 1 [(2, aB false)] (ve (d_ret (rx hw (plr134 _)))))
   exact d_skip (dr (va 3 [(4, aI (wI (ij1 + 1)))] (ve (jl0 hw))))
  ·have hw := hw.1 hb9
   refine va 3 [(31, aB (ij1 == 0))] (vw2 31 hw (fun _ hw => ?_) (fun _ hw => ?_))
   ·exact va 10 [(41, aB true)] (va 1 [(42, aB true)] (vle km_d (key _ hw)))
   refine va 4 [(35, aI (wI (ij1 - 1))), (33, .sl (List.map eGOp g.Ops) .no)] ?_
   obtain ⟨y5, hy, h0, hw⟩ := hw
   exact vo rfl (x_idx h0 hy (rfl : eGOp y5 = eGOp y5)) rfl (va 5 [(41, aB (y5.Union != y2.Union))] (va 1 [(42, aB (y5.Union != y2.Union))] (vle km_d (key _ hw))))
  ·have hw := hw.2 hb9
   exact va 13 [(41, .tuple [])] (va 1 [(42, aB false)] (vle km_d (key _ hw)))
 exact d_exit (ds (va 5 [(2, aB (g.Unions == ij2))] (ve (d_ret (rx hw (plr134 _))))))
theorem ref22_joined_step (g : GProg) (r : Bool) (hw : ref22_joined_j2 0 0 g r) : ref22_joined g r := by
 exact f_pureD fn134 nle rfl (ds (vg 2 [(1, .ptr 0 0)] [(eGProg g)] [] (ve (ds (va 1 [(3, aI 0)] (ve (d_seqQ (ds (va 1 [(4, aI 0)] (ve (d_blockQ (d_loopQ (jl0 hw)))))))))))))
theorem plr135 (r : Bool) : plain (e135 r) = true := rfl
def r135_0 : LO := [o 2 (bx 0), o 3 (bx 1), o 4 (mb false)]
def r135_1 : LO := [o 6 (fa 2 3), o 7 (ld 6), o 8 (.call (cf 89) [(T 7)]), o 9 (.un .not (T 8)), o 10 (mv 9), og 11 (fa 2 3) 10 false, og 12 (ld 11) 10 false, og 13 (.len true (T 12)) 10 false, og 14 (.bin .gtr (T 13) (ci 4096)) 10 false, o 15 (.pick (T 10) (cb true) (T 14)), o 16 (mv 15), og 17 (fa 3 3) 16 false, og 18 (ld 17) 16 false, og 19 (.bin .lss (T 18) (ci 1)) 16 false, o 20 (.pick (T 16) (cb true) (T 19)), o 21 (mv 20), og 22 (fa 3 3) 21 false, og 23 (ld 22) 21 false, og 24 (.bin .gtr (T 23) (ci 5)) 21 false, o 25 (.pick (T 21) (cb true) (T 24)), o 26 (mv 25), og 27 (fa 5 3) 26 false, og 28 (ld 27) 26 false, og 29 (.bin .lss (T 28) (ci 1)) 26 false, o 30 (.pick (T 26) (cb true) (T 29)), o 31 (mv 30), og 32 (fa 5 3) 31 false, og 33 (ld 32) 31 false, og 34 (.bin .gtr (T 33) (ci 10)) 31 false, o 35 (.pick (T 31) (cb true) (T 34))]
def r135_2 : LO := [o 4 (mb false)]
def k135_1 : ACode := .cond (T 35) (.seq (.region r135_2) .ret) .skip
def k135_2 : ACode := .seq (.region r135_1) k135_1
def r135_8 : LO := [o 36 (fa 4 3), o 37 (ld 36), o 38 (.bin .geq (T 37) (ci 1)), o 39 (mv 38), og 40 (fa 4 3) 39 true, og 41 (ld 40) 39 true, og 42 (.bin .leq (T 41) (ci 5)) 39 true, o 43 (.pick (T 39) (T 42) (cb false)), o 44 (mv 43), og 45 (fa 4 3) 44 false, og 46 (ld 45) 44 false, og 47 (.bin .eql (T 46) (ci 7)) 44 false, o 48 (.pick (T 44) (cb true) (T 47)), o 5 (mv 48)]
def r135_9 : LO := [o 49 (fa 3 3), o 50 (ld 49), o 51 (.bin .neq (T 50) (ci 5))]
def r135_10 : LO := [o 52 (fa 4 3), o 53 (ld 52), o 54 (.bin .eql (T 53) (ci 0)), o 5 (mv 54)]
def k135_3 : ACode := .cond (T 51) (.region r135_10) .skip
def r135_14 : LO := [o 55 (mv 5), o 56 (mv 55), og 57 (ln 2 2) 56 true, og 58 (ln 8 3) 56 true, og 59 (.call (cf 180) [(T 57), (T 58)]) 56 true, o 60 (.pick (T 56) (T 59) (cb false)), o 61 (mv 60), og 62 (fa 7 3) 61 true, og 63 (ld 62) 61 true, og 64 (.bin .eql (T 63) (ci (-1))) 61 true, og 65 (mv 64) 61 true, og 66 (fa 3 3) 65 false, og 67 (ld 66) 65 false, og 68 (.bin .eql (T 67) (ci 2)) 65 false, og 69 (.pick (T 65) (cb true) (T 68)) 61 true, o 70 (.pick (T 61) (T 69) (cb false)), o 4 (mv 70)]
def k135_4 : ACode := .seq (.region r135_14) .ret
def k135_5 : ACode := .seq (.seq (.region r135_9) k135_3) k135_4
def k135_6 : ACode := .seq (.region r135_8) k135_5
def k135_7 : ACode := .seq k135_2 k135_6
def k135_8 : ACode := .seq (.region r135_0) k135_7
theorem fn135 : getFn Tryz.prog 135 = some (71, k135_8, [.tmp 4]) := by kernel_rfl
def q135_0 (r : Bool) : QP := qret [.tmp 4] (e135 r)
def ref22_operation_j2 (bj1 : Bool) (p : GPlan) (o_ : GOp) (r : Bool) : Prop := D Tryz.prog 71 0 0 k135_4 (q135_0 r) [(5, aB bj1), (3, .ptr 1 0), (2, .ptr 0 0)] ⟨[some (eGPlan p), some (eGOp o_)], [], []⟩
theorem ref22_operation_j2_step (bj1 : Bool) (p : GPlan) (o_ : GOp) (r : Bool) (hw : ∃ R2 : Bool -> Prop, (∀ bz2 : Bool, R2 bz2 -> (r = (bz2 && ((o_.Union == (-1)) || (o_.Card == 2))))) /\ ((bj1 = true -> ∃ y3, ref22_target p o_ y3 /\ (R2 y3)) /\ (bj1 = false -> R2 false))) : ref22_operation_j2 bj1 p o_ r := by
 show D _ _ _ _ _ _ _ _
 refine ds (va 2 [(56, aB bj1)] ?_)
 obtain ⟨R2, hR, hw⟩ := hw
 refine vr 56 60 6 bj1 R2 (fun bz2 => aB bz2) km_d (fun bz2 hz => ?_) (fun key => ⟨fun hb15 => ?_, fun hb15 => ?_⟩)
 ·have hw := hR bz2 hz
  refine va 1 [(61, aB bz2)] (vj 61 70 16 bz2 (fun z => aB (z && ((o_.Union == (-1)) || (o_.Card == 2)))) km_d (fun _ key => ?_) (fun _ key => ?_) ?_)
  ·refine va 4 [(65, aB (o_.Union == (-1)))] (vj 65 69 15 (o_.Union == (-1)) (fun z => aB (z || (o_.Card == 2))) km_d (fun _ key => ?_) (fun _ key => ?_) ?_)
   ·exact va 3 [(68, .tuple [])] (va 1 [(69, aB true)] (vle km_d key))
   ·exact va 3 [(68, aB (o_.Card == 2))] (va 1 [(69, aB (o_.Card == 2))] (vle km_d key))
   exact va 1 [(70, aB ((o_.Union == (-1)) || (o_.Card == 2)))] (vle km_d key)
  ·exact va 8 [(69, .tuple [])] (va 1 [(70, aB false)] (vle km_d key))
  exact va 1 [(4, aB (bz2 && ((o_.Union == (-1)) || (o_.Card == 2))))] (ve (d_ret (rx hw (plr135 _))))
 ·have hw := hw.1 hb15
  refine va 2 [(58, .agg (eGOp o_)), (57, .agg (eGPlan p))] ?_
  obtain ⟨y3, hy, hw⟩ := hw
  exact vo rfl (x_call hy pl180) rfl (va 1 [(60, aB y3)] (vle km_d (key _ hw)))
 ·have hw := hw.2 hb15
  exact va 3 [(59, .tuple [])] (va 1 [(60, aB false)] (vle km_d (key _ hw)))
theorem ref22_operation_step (p : GPlan) (o_ : GOp) (r : Bool) (hw : ∃ y1, ref03_Valid o_.Alias y1 /\ ((((((((!y1) || (decide (4096 < (o_.Alias.size : Int)))) || (decide (o_.Card < 1))) || (decide (5 < o_.Card))) || (decide (o_.Kind < 1))) || (decide (10 < o_.Kind))) = true -> r = false) /\ (((((((!y1) || (decide (4096 < (o_.Alias.size : Int)))) || (decide (o_.Card < 1))) || (decide (5 < o_.Card))) || (decide (o_.Kind < 1))) || (decide (10 < o_.Kind))) = false -> ((o_.Card != 5) = true -> ref22_operation_j2 (o_.Key == 0) p o_ r) /\ ((o_.Card != 5) = false -> ref22_operation_j2 (((decide (1 <= o_.Key)) && (decide (o_.Key <= 5))) || (o_.Key == 7)) p o_ r)))) : ref22_operation p o_ r := by
 refine f_pureD fn135 nle rfl (ds (vg 3 [(3, .ptr 1 0), (2, .ptr 0 0)] [(eGPlan p), (eGOp o_)] [] (ve (d_seqQ (ds (va 2 [(7, aS o_.Alias)] ?_))))))
 obtain ⟨y1, hy, hw⟩ := hw
 refine vo rfl (x_call hy pl89) rfl (va 2 [(10, aB (!y1))] (vj 10 15 10 (!y1) (fun z => aB (z || (decide (4096 < (o_.Alias.size : Int))))) km_d (fun _ key => ?_) (fun _ key => ?_) ?_))
 ·exact va 4 [(14, .tuple [])] (va 1 [(15, aB true)] (vle km_d key))
 ·exact va 2 [(12, aS o_.Alias)] (vo rfl (x_lenS o_.Alias) rfl (va 1 [(14, aB (decide (4096 < (o_.Alias.size : Int))))] (va 1 [(15, aB (decide (4096 < (o_.Alias.size : Int))))] (vle km_d key))))
 refine va 1 [(16, aB ((!y1) || (decide (4096 < (o_.Alias.size : Int)))))] (vj 16 20 15 ((!y1) || (decide (4096 < (o_.Alias.size : Int)))) (fun z => aB (z || (decide (o_.Card < 1)))) km_d (fun _ key => ?_) (fun _ key => ?_) ?_)
 ·exact va 3 [(19, .tuple [])] (va 1 [(20, aB true)] (vle km_d key))
 ·exact va 3 [(19, aB (decide (o_.Card < 1)))] (va 1 [(20, aB (decide (o_.Card < 1)))] (vle km_d key))
 refine va 1 [(21, aB (((!y1) || (decide (4096 < (o_.Alias.size : Int)))) || (decide (o_.Card < 1))))] (vj 21 25 20 (((!y1) || (decide (4096 < (o_.Alias.size : Int)))) || (decide (o_.Card < 1))) (fun z => aB (z || (decide (5 < o_.Card)))) km_d (fun _ key => ?_) (fun _ key => ?_) ?_)
 ·exact va 3 [(24, .tuple [])] (va 1 [(25, aB true)] (vle km_d key))
 ·exact va 3 [(24, aB (decide (5 < o_.Card)))] (va 1 [(25, aB (decide (5 < o_.Card)))] (vle km_d key))
 refine va 1 [(26, aB ((((!y1) || (decide (4096 < (o_.Alias.size : Int)))) || (decide (o_.Card < 1))) || (decide (5 < o_.Card))))] (vj 26 30 25 ((((!y1) || (decide (4096 < (o_.Alias.size : Int)))) || (decide (o_.Card < 1))) || (decide (5 < o_.Card))) (fun z => aB (z || (decide (o_.Kind < 1)))) km_d (fun _ key => ?_) (fun _ key => ?_) ?_)
 ·exact va 3 [(29, .tuple [])] (va 1 [(30, aB true)] (vle km_d key))
 ·exact va 3 [(29, aB (decide (o_.Kind < 1)))] (va 1 [(30, aB (decide (o_.Kind < 1)))] (vle km_d key))
 refine va 1 [(31, aB (((((!y1) || (decide (4096 < (o_.Alias.size : Int)))) || (decide (o_.Card < 1))) || (decide (5 < o_.Card))) || (decide (o_.Kind < 1))))] (vj 31 35 30 (((((!y1) || (decide (4096 < (o_.Alias.size : Int)))) || (decide (o_.Card < 1))) || (decide (5 < o_.Card))) || (decide (o_.Kind < 1))) (fun z => aB (z || (decide (10 < o_.Kind)))) km_d (fun _ key => ?_) (fun _ key => ?_) ?_)
 ·exact va 3 [(34, .tuple [])] (va 1 [(35, aB true)] (vle km_d key))
 ·exact va 3 [(34, aB (decide (10 < o_.Kind)))] (va 1 [(35, aB (decide (10 < o_.Kind)))] (vle km_d key))
 refine ve (dw hw (fun _ hw => ?_) (fun _ hw => ?_))
 ·exact ds (va 1 [(4, aB false)] (ve (d_ret (rx hw (plr135 _)))))
 refine d_skip (ds (va 4 [(39, aB (decide (1 <= o_.Key)))] (vj 39 43 8 (decide (1 <= o_.Key)) (fun z => aB (z && (decide (o_.Key <= 5)))) km_d (fun _ key => ?_) (fun _ key => ?_) ?_)))
 ·exact va 3 [(42, aB (decide (o_.Key <= 5)))] (va 1 [(43, aB (decide (o_.Key <= 5)))] (vle km_d key))
 ·exact va 3 [(42, .tuple [])] (va 1 [(43, aB false)] (vle km_d key))
 refine va 1 [(44, aB ((decide (1 <= o_.Key)) && (decide (o_.Key <= 5))))] (vj 44 48 13 ((decide (1 <= o_.Key)) && (decide (o_.Key <= 5))) (fun z => aB (z || (o_.Key == 7))) km_d (fun _ key => ?_) (fun _ key => ?_) ?_)
 ·exact va 3 [(47, .tuple [])] (va 1 [(48, aB true)] (vle km_d key))
 ·exact va 3 [(47, aB (o_.Key == 7))] (va 1 [(48, aB (o_.Key == 7))] (vle km_d key))
 refine va 1 [(5, aB (((decide (1 <= o_.Key)) && (decide (o_.Key <= 5))) || (o_.Key == 7)))] (ve (d_seqQ (ds (va 3 [(51, aB (o_.Card != 5))] (ve (dw hw (fun _ hw => ?_) (fun _ hw => ?_)))))))
 ·exact dr (va 4 [(5, aB (o_.Key == 0))] (ve (jd0 hw)))
 exact d_skip (jd0 hw)
theorem plr136 (r : (Int × Int)) : plain (e136 r) = true := (ptup (pcons rfl (pcons rfl rfl)))
def r136_0 : LO := [o 2 (.mv (.c (aU 0))), o 3 (mi 0)]
def r136_1 : LO := [o 6 (mv 0), o 7 (.len true (T 6)), o 8 (.bin .lss (T 7) (ci 8))]
def r136_2 : LO := [o 2 (.mv (.c (aU 0))), o 3 (mi 4)]
def k136_1 : ACode := .cond (T 8) (.seq (.region r136_2) .ret) .skip
def k136_2 : ACode := .seq (.region r136_1) k136_1
def r136_8 : LO := [o 4 (.mv (.c (aU 0)))]
def r136_9 : LO := [o 9 (mi 0)]
def r136_10 : LO := [o 10 (.bin .lss (T 9) (ci 8))]
def r136_14 : LO := [o 11 (mv 9), o 5 (mv 11)]
def r136_15 : LO := [o 12 (mv 4), o 13 (mv 0), o 14 (mv 5), o 15 (.idxS (T 13) (T 14)), o 16 (.conv (.num .u64) (T 15)), o 17 (mv 5), o 18 (.bin .mul (ci 8) (T 17)), o 19 (.bin .shl (T 16) (T 18)), o 20 (.bin .or (T 12) (T 19)), o 4 (mv 20)]
def r136_18 : LO := [o 21 (.bin .add (T 9) (ci 1)), o 9 (mv 21)]
def k136_3 : ACode := .seq (.block 1 (.seq (.region r136_14) (.region r136_15))) (.region r136_18)
def k136_4 : ACode := .seq (.cond (T 10) .skip (.exit 0)) k136_3
def k136_5 : ACode := .seq (.region r136_10) k136_4
def k136_6 : ACode := .block 0 (.loop k136_5)
def r136_25 : LO := [o 22 (mv 4), o 2 (mv 22), o 3 (mi 0)]
def k136_7 : ACode := .seq (.region r136_25) .ret
def k136_8 : ACode := .seq (.seq (.region r136_9) k136_6) k136_7
def k136_9 : ACode := .seq (.region r136_8) k136_8
def k136_10 : ACode := .seq k136_2 k136_9
def k136_11 : ACode := .seq (.region r136_0) k136_10
theorem fn136 : getFn Tryz.prog 136 = some (23, k136_11, [.tmp 2, .tmp 3]) := by kernel_rfl
def q136_0 (r : (Int × Int)) : QP := qret [.tmp 2, .tmp 3] (e136 r)
def q136_6 (r : (Int × Int)) : QP := tq Tryz.prog 23 k136_7 (q136_0 r)
def q136_8 (r : (Int × Int)) : QP := inBlockA 0 (q136_6 r)
def varint_TakeFixed_j2 (ij1 : Int) (ij2 : Int) (s : ByteArray) (r : (Int × Int)) : Prop := DL Tryz.prog 23 0 0 k136_5 (q136_8 r) [(9, aI ij1), (4, aU ij2), (0, aS s)] ⟨[], [], []⟩
theorem varint_TakeFixed_j2_step (ij1 : Int) (ij2 : Int) (s : ByteArray) (r : (Int × Int)) (hw : ((decide (ij1 < 8)) = true -> (0 <= ij1 /\ ij1 < (s.size : Int)) /\ (0 <= (wI (8 * ij1)) /\ (varint_TakeFixed_j2 (wI (ij1 + 1)) (bitsOf .or .u64 ij2 (wU ((wU (byteAt s ij1.toNat)) * 2 ^ min (wI (8 * ij1)).toNat IntKind.u64.bits))) s r))) /\ ((decide (ij1 < 8)) = false -> r = (ij2, 0))) : varint_TakeFixed_j2 ij1 ij2 s r := by
 refine dl_unroll (ds (va 1 [(10, aB (decide (ij1 < 8)))] (ve (d_seqQ (dw hw (fun _ hw => ?_) (fun _ hw => ?_))))))
 ·refine d_skip (d_seqQ (d_blockQ (ds (va 2 [(5, aI ij1)] (ve (dr (va 3 [(14, aI ij1), (13, aS s), (12, aU ij2)] ?_)))))))
  obtain ⟨h0, hw⟩ := hw
  refine vo rfl (x_idxS h0) rfl (va 3 [(18, aI (wI (8 * ij1))), (16, aU (wU (byteAt s ij1.toNat)))] ?_)
  obtain ⟨h0, hw⟩ := hw
  exact vo rfl (x_bin (.int .u64 (wU ((wU (byteAt s ij1.toNat)) * 2 ^ min (wI (8 * ij1)).toNat IntKind.u64.bits))) h0) rfl (va 2 [(4, aU (bitsOf .or .u64 ij2 (wU ((wU (byteAt s ij1.toNat)) * 2 ^ min (wI (8 * ij1)).toNat IntKind.u64.bits))))] (ve (dr (va 2 [(9, aI (wI (ij1 + 1)))] (ve (jl0 hw))))))
 exact d_exit (ds (va 3 [(3, aI 0), (2, aU ij2)] (ve (d_ret (rx hw (plr136 _))))))
theorem varint_TakeFixed_step (s : ByteArray) (r : (Int × Int)) (hw : ((decide ((s.size : Int) < 8)) = true -> r = (0, 4)) /\ ((decide ((s.size : Int) < 8)) = false -> varint_TakeFixed_j2 0 0 s r)) : varint_TakeFixed s r := by
 refine f_pureD fn136 nle rfl (ds (va 2 [] (ve (d_seqQ (ds (va 1 [(6, aS s)] (vo rfl (x_lenS s) rfl (va 1 [(8, aB (decide ((s.size : Int) < 8)))] (ve (dw hw (fun _ hw => ?_) (fun _ hw => ?_)))))))))))
 ·exact ds (va 2 [(3, aI 4), (2, aU 0)] (ve (d_ret (rx hw (plr136 _)))))
 exact d_skip (ds (va 1 [(4, aU 0)] (ve (d_seqQ (ds (va 1 [(9, aI 0)] (ve (d_blockQ (d_loopQ (jl0 hw))))))))))
theorem plr137 (r : ByteArray) : plain (e137 r) = true := rfl
def r137_0 : LO := [o 2 (bx 0), o 4 (.mv (.c aE))]
def r137_1 : LO := [o 5 (ln 6 2), o 6 (.call (cf 118) [(T 5)]), o 7 (.un .not (T 6))]
def r137_2 : LO := [o 4 (.mv (.c aE))]
def k137_1 : ACode := .cond (T 7) (.seq (.region r137_2) .ret) .skip
def k137_2 : ACode := .seq (.region r137_1) k137_1
def r137_8 : LO := [o 8 (fa 0 2), o 9 (ld 8), o 10 (fa 1 2), o 11 (ld 10), o 12 (fa 2 2), o 13 (ld 12), o 14 (fa 1 2), o 15 (ld 14), o 16 (mv 1), o 17 (.bin .add (T 15) (T 16)), o 18 (.minmax false [(T 13), (T 17)]), o 19 (.sliceS (T 9) (some (T 11)) (some (T 18))), o 4 (mv 19)]
def k137_3 : ACode := .seq (.region r137_8) .ret
def k137_4 : ACode := .seq k137_2 k137_3
def k137_5 : ACode := .seq (.region r137_0) k137_4
theorem fn137 : getFn Tryz.prog 137 = some (20, k137_5, [.tmp 4]) := by kernel_rfl
theorem cursor_head_step (c : GCursor) (n : Int) (r : ByteArray) (hw : ∃ y1, cursor_Sound c y1 /\ (((!y1) = true -> r = (⟨#[]⟩ : ByteArray)) /\ ((!y1) = false -> (0 <= c.At /\ c.At <= (min c.End (wI (c.At + n))) /\ (min c.End (wI (c.At + n))) <= (c.Data.size : Int)) /\ (r = (c.Data.extract c.At.toNat (min c.End (wI (c.At + n))).toNat))))) : cursor_head c n r := by
 refine f_pureD fn137 nle rfl (ds (vg 2 [(2, .ptr 0 0)] [(eGCursor c)] [] (ve (d_seqQ (ds (va 1 [(5, .agg (eGCursor c))] ?_))))))
 obtain ⟨y1, hy, hw⟩ := hw
 refine vo rfl (x_call hy pl118) rfl (va 1 [(7, aB (!y1))] (ve (dw hw (fun _ hw => ?_) (fun _ hw => ?_))))
 ·exact ds (va 1 [(4, aE)] (ve (d_ret (rx hw (plr137 _)))))
 refine d_skip (ds (va 10 [(17, aI (wI (c.At + n))), (13, aI c.End), (11, aI c.At), (9, aS c.Data)] (vo rfl (x_min2 .i64 c.End (wI (c.At + n))) rfl ?_)))
 obtain ⟨h0, hw⟩ := hw
 exact vo rfl (x_sliceS h0) rfl (va 1 [(4, aS (c.Data.extract c.At.toNat (min c.End (wI (c.At + n))).toNat))] (ve (d_ret (rx hw (plr137 _)))))
theorem plr138 (r : (List Int)) : plain (e138 r) = true := (psl (plm_I_u8 r))
def r138_0 : LO := [o 2 (bx 0), o 4 (.mv (.c .nil))]
def r138_1 : LO := [o 6 (fa 0 2), o 7 (ld 6), o 8 (fa 1 2), o 9 (ld 8), o 10 (fa 1 2), o 11 (ld 10), o 12 (mv 1), o 13 (.bin .add (T 11) (T 12)), o 14 (.sliceS (T 7) (some (T 9)) (some (T 13))), o 15 (.bytes (T 14)), o 5 (mv 15)]
def r138_2 : LO := [o 16 (mv 5), o 17 (mv 1), o 18 (mv 1), o 19 (.sliceV 1 (T 16) none (some (T 17)) (some (T 18))), o 4 (mv 19)]
def k138_1 : ACode := .seq (.region r138_2) .ret
def k138_2 : ACode := .seq (.region r138_1) k138_1
def k138_3 : ACode := .seq (.region r138_0) k138_2
theorem fn138 : getFn Tryz.prog 138 = some (20, k138_3, [.tmp 4]) := by kernel_rfl
theorem cursor_piece_step (c : GCursor) (n : Int) (r : (List Int)) (hw : (0 <= c.At /\ c.At <= (wI (c.At + n)) /\ (wI (c.At + n)) <= (c.Data.size : Int)) /\ ((0 <= (0 : Int) /\ (0 : Int) <= n /\ n <= ((bI (c.Data.extract c.At.toNat (wI (c.At + n)).toNat)).length : Int)) /\ (r = (((bI (c.Data.extract c.At.toNat (wI (c.At + n)).toNat)).take n.toNat).drop (0 : Int).toNat)))) : cursor_piece c n r := by
 refine f_pureD fn138 nle rfl (ds (vg 2 [(2, .ptr 0 0)] [(eGCursor c)] [] (ve (ds (va 8 [(13, aI (wI (c.At + n))), (9, aI c.At), (7, aS c.Data)] ?_)))))
 obtain ⟨h0, hw⟩ := hw
 refine vo rfl (x_sliceS h0) rfl (vo rfl (x_bytes (c.Data.extract c.At.toNat (wI (c.At + n)).toNat)) rfl (va 1 [(5, .sl (List.map eI_u8 (bI (c.Data.extract c.At.toNat (wI (c.At + n)).toNat))) (.own 0))] (ve (ds (va 3 [(18, aI n), (17, aI n), (16, .sl (List.map eI_u8 (bI (c.Data.extract c.At.toNat (wI (c.At + n)).toNat))) (.own 0))] ?_)))))
 obtain ⟨h0, hw⟩ := hw
 exact vo rfl (x_slice3 (l := (bI (c.Data.extract c.At.toNat (wI (c.At + n)).toNat))) (e' := eI_u8) h0 (fun _ => rfl)) rfl (va 1 [(4, .sl (List.map eI_u8 (((bI (c.Data.extract c.At.toNat (wI (c.At + n)).toNat)).take n.toNat).drop (0 : Int).toNat)) .full)] (ve (d_ret (rx hw (plr138 _)))))
theorem plr139 (r : Int) : plain (e139 r) = true := rfl
def r139_0 : LO := [o 2 (mi 0)]
def r139_1 : LO := [o 5 (mv 0), o 6 (.range (T 5))]
def r139_2 : LO := [o 7 (.next (T 6)), o 8 (.extract 0 (T 7))]
def r139_6 : LO := [o 9 (.extract 1 (T 7)), o 10 (.extract 2 (T 7)), o 3 (mv 9), o 4 (mv 10)]
def r139_7 : LO := [o 11 (mv 0), o 12 (mv 3), o 13 (mv 4), o 14 (.call (cf 181) [(T 11), (T 12), (T 13)])]
def r139_8 : LO := [o 15 (mv 3), o 2 (mv 15)]
def k139_1 : ACode := .cond (T 14) (.seq (.region r139_8) .ret) .skip
def k139_2 : ACode := .seq (.region r139_7) k139_1
def k139_3 : ACode := .block 1 (.seq (.region r139_6) k139_2)
def k139_4 : ACode := .seq (.cond (T 8) .skip (.exit 0)) k139_3
def k139_5 : ACode := .seq (.region r139_2) k139_4
def k139_6 : ACode := .block 0 (.loop k139_5)
def r139_21 : LO := [o 2 (mi (-1))]
def k139_7 : ACode := .seq (.region r139_21) .ret
def k139_8 : ACode := .seq (.seq (.region r139_1) k139_6) k139_7
def k139_9 : ACode := .seq (.region r139_0) k139_8
theorem fn139 : getFn Tryz.prog 139 = some (16, k139_9, [.tmp 2]) := by kernel_rfl
def q139_0 (r : Int) : QP := qret [.tmp 2] (e139 r)
def q139_2 (r : Int) : QP := tq Tryz.prog 16 k139_7 (q139_0 r)
def q139_4 (r : Int) : QP := inBlockA 0 (q139_2 r)
def utf_Bad_j2 (s : ByteArray) (nj1 : Nat) (r : Int) : Prop := DL Tryz.prog 16 0 0 k139_5 (q139_4 r) [(6, .ptr 0 0), (0, aS s)] ⟨[some [.it s nj1]], [], []⟩
theorem utf_Bad_j2_step (s : ByteArray) (nj1 : Nat) (r : Int) (hw : (nj1 < s.size -> ∃ y2, utf_wrong s ((nj1 : Nat) : Int) (Utf8.decode s nj1).1 y2 /\ ((y2 = true -> r = ((nj1 : Nat) : Int)) /\ (y2 = false -> utf_Bad_j2 s (nj1 + (Utf8.decode s nj1).2) r))) /\ (¬ nj1 < s.size -> r = (-1))) : utf_Bad_j2 s nj1 r := by
 refine dl_unroll (ds (vx rfl 0 s nj1 (fun hb3 => ?_) (fun hb3 => ?_)))
 ·have hw := hw.1 hb3
  refine va 1 [(8, aB true)] (ve (d_seqQ (dt (d_skip (d_blockQ (ds (va 4 [(4, .v (.int .i32 (Utf8.decode s nj1).1)), (3, aI ((nj1 : Nat) : Int))] (ve (ds (va 3 [(13, .v (.int .i32 (Utf8.decode s nj1).1)), (12, aI ((nj1 : Nat) : Int)), (11, aS s)] ?_))))))))))
  obtain ⟨y2, hy, hw⟩ := hw
  refine vo rfl (x_call hy pl181) rfl (ve (dw hw (fun _ hw => ?_) (fun _ hw => ?_)))
  ·exact ds (va 2 [(2, aI ((nj1 : Nat) : Int))] (ve (d_ret (rx hw (plr139 _)))))
  exact d_skip (jl0 hw)
 ·have hw := hw.2 hb3
  exact va 1 [(8, aB false)] (ve (d_seqQ (df (d_exit (ds (va 1 [(2, aI (-1))] (ve (d_ret (rx hw (plr139 _))))))))))
theorem utf_Bad_step (s : ByteArray) (r : Int) (hw : utf_Bad_j2 s 0 r) : utf_Bad s r := by
 exact f_pureD fn139 nle rfl (ds (va 1 [] (ve (d_seqQ (ds (va 1 [(5, aS s)] (vo rfl (x_range s) rfl (ve (d_blockQ (d_loopQ (jl0 hw)))))))))))
theorem plr140 (r : (Int × Int × Int)) : plain (e140 r) = true := (ptup (pcons rfl (pcons rfl (pcons rfl rfl))))
def r140_0 : LO := [o 2 (.mv (.c (aU 0))), o 3 (mi 0), o 4 (mi 0)]
def r140_1 : LO := [o 5 (.mv (.c (aU 0)))]
def r140_2 : LO := [o 6 (mi 0)]
def r140_4 : LO := [o 8 (mv 6), o 9 (mv 0), o 10 (.len true (T 9)), o 11 (.bin .eql (T 8) (T 10))]
def r140_5 : LO := [o 2 (.mv (.c (aU 0))), o 3 (mi 0), o 4 (mi 4)]
def k140_1 : ACode := .cond (T 11) (.seq (.region r140_5) .ret) .skip
def k140_2 : ACode := .seq (.region r140_4) k140_1
def r140_11 : LO := [o 12 (mv 0), o 13 (mv 6), o 14 (.idxS (T 12) (T 13)), o 7 (mv 14)]
def r140_12 : LO := [o 15 (mv 6), o 16 (.bin .eql (T 15) (ci 9)), o 17 (mv 16), og 18 (mv 7) 17 true, og 19 (.bin .gtr (T 18) (.c (aC 1))) 17 true, o 20 (.pick (T 17) (T 19) (cb false))]
def r140_13 : LO := [o 2 (.mv (.c (aU 0))), o 3 (mi 0), o 4 (mi 6)]
def k140_3 : ACode := .cond (T 20) (.seq (.region r140_13) .ret) .skip
def k140_4 : ACode := .seq (.region r140_12) k140_3
def r140_19 : LO := [o 21 (mv 5), o 22 (mv 7), o 23 (.bin .and (T 22) (.c (aC 127))), o 24 (.conv (.num .u64) (T 23)), o 25 (mv 6), o 26 (.bin .mul (ci 7) (T 25)), o 27 (.bin .shl (T 24) (T 26)), o 28 (.bin .or (T 21) (T 27)), o 5 (mv 28)]
def r140_20 : LO := [o 29 (mv 6), o 30 (.bin .add (T 29) (ci 1)), o 6 (mv 30)]
def r140_21 : LO := [o 32 (mv 7), o 33 (.bin .lss (T 32) (.c (aC 128))), o 31 (mv 33)]
def k140_5 : ACode := .cond (T 31) (.exit 0) .skip
def k140_6 : ACode := .block 2 (.seq (.region r140_21) k140_5)
def k140_7 : ACode := .seq (.region r140_20) k140_6
def k140_8 : ACode := .seq (.region r140_19) k140_7
def k140_9 : ACode := .seq k140_4 k140_8
def k140_10 : ACode := .seq (.region r140_11) k140_9
def k140_11 : ACode := .block 1 (.seq k140_2 k140_10)
def r140_35 : LO := [o 34 (mv 5), o 35 (mv 6), o 2 (mv 34), o 3 (mv 35), o 4 (mi 0)]
def k140_12 : ACode := .seq (.region r140_35) .ret
def k140_13 : ACode := .seq (.block 0 (.loop k140_11)) k140_12
def k140_14 : ACode := .seq (.label 0) k140_13
def k140_15 : ACode := .seq (.region r140_2) k140_14
def k140_16 : ACode := .seq (.region r140_1) k140_15
def k140_17 : ACode := .seq (.region r140_0) (.scope k140_16)
theorem fn140 : getFn Tryz.prog 140 = some (36, k140_17, [.tmp 2, .tmp 3, .tmp 4]) := by kernel_rfl
def q140_0 (r : (Int × Int × Int)) : QP := qret [.tmp 2, .tmp 3, .tmp 4] (e140 r)
def q140_2 (r : (Int × Int × Int)) : QP := noGotoA (q140_0 r)
def q140_6 (r : (Int × Int × Int)) : QP := tq Tryz.prog 36 k140_12 (q140_2 r)
def q140_7 (r : (Int × Int × Int)) : QP := inBlockA 0 (q140_6 r)
def varint_Take_j2 (ij1 : Int) (ij2 : Int) (s : ByteArray) (r : (Int × Int × Int)) : Prop := DL Tryz.prog 36 0 0 k140_11 (q140_7 r) [(6, aI ij1), (5, aU ij2), (0, aS s)] ⟨[], [], []⟩
theorem varint_Take_j2_step (ij1 : Int) (ij2 : Int) (s : ByteArray) (r : (Int × Int × Int)) (hw : ((ij1 == (s.size : Int)) = true -> r = (0, 0, 4)) /\ ((ij1 == (s.size : Int)) = false -> (0 <= ij1 /\ ij1 < (s.size : Int)) /\ ((((ij1 == 9) && (decide (1 < (byteAt s ij1.toNat)))) = true -> r = (0, 0, 6)) /\ (((ij1 == 9) && (decide (1 < (byteAt s ij1.toNat)))) = false -> 0 <= (wI (7 * ij1)) /\ (((decide ((byteAt s ij1.toNat) < 128)) = true -> r = ((bitsOf .or .u64 ij2 (wU ((wU (bitsOf .and .u8 (byteAt s ij1.toNat) 127)) * 2 ^ min (wI (7 * ij1)).toNat IntKind.u64.bits))), (wI (ij1 + 1)), 0)) /\ ((decide ((byteAt s ij1.toNat) < 128)) = false -> varint_Take_j2 (wI (ij1 + 1)) (bitsOf .or .u64 ij2 (wU ((wU (bitsOf .and .u8 (byteAt s ij1.toNat) 127)) * 2 ^ min (wI (7 * ij1)).toNat IntKind.u64.bits))) s r)))))) : varint_Take_j2 ij1 ij2 s r := by
 refine dl_unroll (d_blockQ (d_seqQ (ds (va 2 [(9, aS s), (8, aI ij1)] (vo rfl (x_lenS s) rfl (va 1 [(11, aB (ij1 == (s.size : Int)))] (ve (dw hw (fun _ hw => ?_) (fun _ hw => ?_)))))))))
 ·exact ds (va 3 [(4, aI 4), (3, aI 0), (2, aU 0)] (ve (d_ret (rx hw (plr140 _)))))
 refine d_skip (ds (va 2 [(13, aI ij1), (12, aS s)] ?_))
 obtain ⟨h0, hw⟩ := hw
 refine vo rfl (x_idxS h0) rfl (va 1 [(7, aC (byteAt s ij1.toNat))] (ve (d_seqQ (ds (va 3 [(17, aB (ij1 == 9))] (vj 17 20 6 (ij1 == 9) (fun z => aB (z && (decide (1 < (byteAt s ij1.toNat))))) km_d (fun _ key => ?_) (fun _ key => ?_) ?_))))))
 ·exact va 2 [(19, aB (decide (1 < (byteAt s ij1.toNat))))] (va 1 [(20, aB (decide (1 < (byteAt s ij1.toNat))))] (vle km_d key))
 ·exact va 2 [(19, .tuple [])] (va 1 [(20, aB false)] (vle km_d key))
 refine ve (dw hw (fun _ hw => ?_) (fun _ hw => ?_))
 ·exact ds (va 3 [(4, aI 6), (3, aI 0), (2, aU 0)] (ve (d_ret (rx hw (plr140 _)))))
 refine d_skip (ds (va 6 [(26, aI (wI (7 * ij1))), (24, aU (wU (bitsOf .and .u8 (byteAt s ij1.toNat) 127))), (21, aU ij2)] ?_))
 obtain ⟨h0, hw⟩ := hw
 refine vo rfl (x_bin (.int .u64 (wU ((wU (bitsOf .and .u8 (byteAt s ij1.toNat) 127)) * 2 ^ min (wI (7 * ij1)).toNat IntKind.u64.bits))) h0) rfl (va 2 [(5, aU (bitsOf .or .u64 ij2 (wU ((wU (bitsOf .and .u8 (byteAt s ij1.toNat) 127)) * 2 ^ min (wI (7 * ij1)).toNat IntKind.u64.bits))))] (ve (ds (va 3 [(6, aI (wI (ij1 + 1)))] (ve (d_blockQ (ds (va 3 [(31, aB (decide ((byteAt s ij1.toNat) < 128)))] (ve (dw hw (fun _ hw => ?_) (fun _ hw => ?_)))))))))))
 ·exact d_exit (ds (va 5 [(4, aI 0), (3, aI (wI (ij1 + 1))), (2, aU (bitsOf .or .u64 ij2 (wU ((wU (bitsOf .and .u8 (byteAt s ij1.toNat) 127)) * 2 ^ min (wI (7 * ij1)).toNat IntKind.u64.bits))))] (ve (d_ret (rx hw (plr140 _))))))
 exact d_skip (jl0 hw)
theorem varint_Take_step (s : ByteArray) (r : (Int × Int × Int)) (hw : varint_Take_j2 0 0 s r) : varint_Take s r := by
 exact f_pureD fn140 nle rfl (ds (va 3 [] (ve (d_scope0 (ds (va 1 [(5, aU 0)] (ve (ds (va 1 [(6, aI 0)] (ve (d_seqQ (d_label (d_seqQ (d_blockQ (d_loopQ (jl0 hw))))))))))))))))
theorem plr141 (r : Bool) : plain (e141 r) = true := rfl
def r141_0 : LO := [o 2 (mb false)]
def r141_1 : LO := [o 3 (mv 0), o 4 (.bin .eql (T 3) (ci 7)), o 5 (mv 4), og 6 (mv 0) 5 false, og 7 (.bin .eql (T 6) (ci 8)) 5 false, o 8 (.pick (T 5) (cb true) (T 7)), o 2 (mv 8)]
def k141_1 : ACode := .seq (.region r141_1) .ret
def k141_2 : ACode := .seq (.region r141_0) k141_1
theorem fn141 : getFn Tryz.prog 141 = some (9, k141_2, [.tmp 2]) := by kernel_rfl
theorem scalar_texty_step (kind : Int) (r : Bool) (hw : r = ((kind == 7) || (kind == 8))) : scalar_texty kind r := by
 refine f_pureD fn141 nle rfl (ds (va 1 [] (ve (ds (va 3 [(5, aB (kind == 7))] (vj 5 8 6 (kind == 7) (fun z => aB (z || (kind == 8))) km_d (fun _ key => ?_) (fun _ key => ?_) ?_))))))
 ·exact va 2 [(7, .tuple [])] (va 1 [(8, aB true)] (vle km_d key))
 ·exact va 2 [(7, aB (kind == 8))] (va 1 [(8, aB (kind == 8))] (vle km_d key))
 exact va 1 [(2, aB ((kind == 7) || (kind == 8)))] (ve (d_ret (rx hw (plr141 _))))
theorem plr142 (r : Int) : plain (e142 r) = true := rfl
def r142_0 : LO := [o 4 (mi 0)]
def r142_1 : LO := [o 6 (mv 0), o 7 (.len false (T 6)), o 8 (mi 0)]
def r142_2 : LO := [o 9 (.bin .lss (T 8) (T 7))]
def r142_6 : LO := [o 10 (mv 8), o 5 (mv 10)]
def r142_7 : LO := [o 11 (mv 1), o 12 (mv 0), o 13 (mv 5), o 14 (.idxSl 3 (T 12) (T 13)), o 15 (ln 3 14), o 16 (.call (T 11) [(T 15)])]
def r142_8 : LO := [o 17 (mv 5), o 4 (mv 17)]
def k142_1 : ACode := .cond (T 16) (.seq (.region r142_8) .ret) .skip
def k142_2 : ACode := .seq (.region r142_7) k142_1
def r142_16 : LO := [o 18 (.bin .add (T 8) (ci 1)), o 8 (mv 18)]
def k142_3 : ACode := .seq (.block 1 (.seq (.region r142_6) k142_2)) (.region r142_16)
def k142_4 : ACode := .seq (.cond (T 9) .skip (.exit 0)) k142_3
def k142_5 : ACode := .seq (.region r142_2) k142_4
def k142_6 : ACode := .block 0 (.loop k142_5)
def r142_23 : LO := [o 4 (mi (-1))]
def k142_7 : ACode := .seq (.region r142_23) .ret
def k142_8 : ACode := .seq (.seq (.region r142_1) k142_6) k142_7
def k142_9 : ACode := .seq (.region r142_0) k142_8
theorem fn142 : getFn Tryz.prog 142 = some (19, k142_9, [.tmp 4]) := by kernel_rfl
def q142_0 (r : Int) : QP := qret [.tmp 4] (e142 r)
def q142_2 (r : Int) : QP := tq Tryz.prog 19 k142_7 (q142_0 r)
def q142_4 (r : Int) : QP := inBlockA 0 (q142_2 r)
def slices_IndexFunc_g142_j2 (ij1 : Int) (s : (List GItem)) (f : GFn) (r : Int) : Prop := DL Tryz.prog 19 0 0 k142_5 (q142_4 r) [(8, aI ij1), (7, aI (s.length : Int)), (0, .sl (List.map eGItem s) .no), (1, .clo (.func f.fn) f.fi f.cap)] ⟨[], [], []⟩
theorem slices_IndexFunc_g142_j2_step (ij1 : Int) (s : (List GItem)) (f : GFn) (r : Int) (hw : ((decide (ij1 < (s.length : Int))) = true -> ∃ y3, s[ij1.toNat]? = some y3 /\ 0 <= ij1 /\ (∃ y4, FCall Tryz.prog [] (.clo (.func f.fn) f.fi f.cap) [.agg (eGItem y3)] (aB y4) /\ ((y4 = true -> r = ij1) /\ (y4 = false -> slices_IndexFunc_g142_j2 (wI (ij1 + 1)) s f r)))) /\ ((decide (ij1 < (s.length : Int))) = false -> r = (-1))) : slices_IndexFunc_g142_j2 ij1 s f r := by
 refine dl_unroll (ds (va 1 [(9, aB (decide (ij1 < (s.length : Int))))] (ve (d_seqQ (dw hw (fun _ hw => ?_) (fun _ hw => ?_))))))
 ·refine d_skip (d_seqQ (d_blockQ (ds (va 2 [(5, aI ij1)] (ve (ds (va 3 [(13, aI ij1), (12, .sl (List.map eGItem s) .no), (11, .clo (.func f.fn) f.fi f.cap)] ?_)))))))
  obtain ⟨y3, hy, h0, hw⟩ := hw
  refine vo rfl (x_idx h0 hy (rfl : eGItem y3 = eGItem y3)) rfl (va 1 [(15, .agg (eGItem y3))] ?_)
  obtain ⟨y4, hy, hw⟩ := hw
  refine vo rfl (x_fcall hy) rfl (ve (dw hw (fun _ hw => ?_) (fun _ hw => ?_)))
  ·exact ds (va 2 [(4, aI ij1)] (ve (d_ret (rx hw (plr142 _)))))
  exact d_skip (dr (va 2 [(8, aI (wI (ij1 + 1)))] (ve (jl0 hw))))
 exact d_exit (ds (va 1 [(4, aI (-1))] (ve (d_ret (rx hw (plr142 _))))))
theorem slices_IndexFunc_g142_step (s : (List GItem)) (f : GFn) (r : Int) (hw : slices_IndexFunc_g142_j2 0 s f r) : slices_IndexFunc_g142 s f r := by
 exact f_pureD fn142 nle rfl (ds (va 1 [] (ve (d_seqQ (ds (va 1 [(6, .sl (List.map eGItem s) .no)] (vo rfl (x_len s eGItem) rfl (va 1 [(8, aI 0)] (ve (d_blockQ (d_loopQ (jl0 hw))))))))))))
theorem plr143 (r : Int) : plain (e143 r) = true := rfl
def r143_0 : LO := [o 2 (mi 0)]
def r143_1 : LO := [o 3 (mi 0)]
def r143_2 : LO := [o 5 (mv 3), o 6 (mv 0), o 7 (.len true (T 6)), o 8 (.bin .lss (T 5) (T 7))]
def k143_1 : ACode := .cond (T 8) .skip (.exit 0)
def r143_7 : LO := [o 9 (mv 0), o 10 (mv 3), o 11 (.call (cf 182) [(T 9), (T 10)]), o 4 (mv 11)]
def r143_8 : LO := [o 12 (mv 4), o 13 (.bin .eql (T 12) (ci 0))]
def r143_9 : LO := [o 14 (mv 3), o 2 (mv 14)]
def k143_2 : ACode := .cond (T 13) (.seq (.region r143_9) .ret) .skip
def k143_3 : ACode := .seq (.region r143_8) k143_2
def r143_15 : LO := [o 15 (mv 3), o 16 (mv 4), o 17 (.bin .add (T 15) (T 16)), o 3 (mv 17)]
def k143_4 : ACode := .seq k143_3 (.region r143_15)
def k143_5 : ACode := .block 1 (.seq (.region r143_7) k143_4)
def k143_6 : ACode := .seq (.seq (.region r143_2) k143_1) k143_5
def k143_7 : ACode := .block 0 (.loop k143_6)
def r143_23 : LO := [o 2 (mi (-1))]
def k143_8 : ACode := .seq (.region r143_23) .ret
def k143_9 : ACode := .seq (.seq (.region r143_1) k143_7) k143_8
def k143_10 : ACode := .seq (.region r143_0) k143_9
theorem fn143 : getFn Tryz.prog 143 = some (18, k143_10, [.tmp 2]) := by kernel_rfl
def q143_0 (r : Int) : QP := qret [.tmp 2] (e143 r)
def q143_2 (r : Int) : QP := tq Tryz.prog 18 k143_8 (q143_0 r)
def q143_4 (r : Int) : QP := inBlockA 0 (q143_2 r)
def ref03_Bad_j2 (ij1 : Int) (s : ByteArray) (r : Int) : Prop := DL Tryz.prog 18 0 0 k143_6 (q143_4 r) [(3, aI ij1), (0, aS s)] ⟨[], [], []⟩
theorem ref03_Bad_j2_step (ij1 : Int) (s : ByteArray) (r : Int) (hw : ((decide (ij1 < (s.size : Int))) = true -> ∃ y2, ref03_Size s ij1 y2 /\ (((y2 == 0) = true -> r = ij1) /\ ((y2 == 0) = false -> ref03_Bad_j2 (wI (ij1 + y2)) s r))) /\ ((decide (ij1 < (s.size : Int))) = false -> r = (-1))) : ref03_Bad_j2 ij1 s r := by
 refine dl_unroll (d_seqQ (ds (va 2 [(6, aS s), (5, aI ij1)] (vo rfl (x_lenS s) rfl (va 1 [(8, aB (decide (ij1 < (s.size : Int))))] (ve (dw hw (fun _ hw => ?_) (fun _ hw => ?_))))))))
 ·refine d_skip (d_blockQ (ds (va 2 [(10, aI ij1), (9, aS s)] ?_)))
  obtain ⟨y2, hy, hw⟩ := hw
  refine vo rfl (x_call hy pl182) rfl (va 1 [(4, aI y2)] (ve (d_seqQ (ds (va 2 [(13, aB (y2 == 0))] (ve (dw hw (fun _ hw => ?_) (fun _ hw => ?_))))))))
  ·exact ds (va 2 [(2, aI ij1)] (ve (d_ret (rx hw (plr143 _)))))
  exact d_skip (dr (va 4 [(3, aI (wI (ij1 + y2)))] (ve (jl0 hw))))
 exact d_exit (ds (va 1 [(2, aI (-1))] (ve (d_ret (rx hw (plr143 _))))))
theorem ref03_Bad_step (s : ByteArray) (r : Int) (hw : ref03_Bad_j2 0 s r) : ref03_Bad s r := by
 exact f_pureD fn143 nle rfl (ds (va 1 [] (ve (d_seqQ (ds (va 1 [(3, aI 0)] (ve (d_blockQ (d_loopQ (jl0 hw))))))))))
theorem plr144 (r : Bool) : plain (e144 r) = true := rfl
def r144_0 : LO := [o 1 (bx 0), o 2 (mb false)]
def r144_1 : LO := [o 3 (fa 1 1), o 4 (ld 3), o 5 (.bin .leq (ci 0) (T 4)), o 6 (mv 5), og 7 (fa 1 1) 6 true, og 8 (ld 7) 6 true, og 9 (fa 2 1) 6 true, og 10 (ld 9) 6 true, og 11 (.bin .leq (T 8) (T 10)) 6 true, o 12 (.pick (T 6) (T 11) (cb false)), o 13 (mv 12), og 14 (fa 2 1) 13 true, og 15 (ld 14) 13 true, og 16 (fa 0 1) 13 true, og 17 (ld 16) 13 true, og 18 (.len true (T 17)) 13 true, og 19 (.bin .leq (T 15) (T 18)) 13 true, o 20 (.pick (T 13) (T 19) (cb false)), o 2 (mv 20)]
def k144_1 : ACode := .seq (.region r144_1) .ret
def k144_2 : ACode := .seq (.region r144_0) k144_1
theorem fn144 : getFn Tryz.prog 144 = some (21, k144_2, [.tmp 2]) := by kernel_rfl
theorem ref02_Sound_step (c : GCursor) (r : Bool) (hw : r = (((decide (0 <= c.At)) && (decide (c.At <= c.End))) && (decide (c.End <= (c.Data.size : Int))))) : ref02_Sound c r := by
 refine f_pureD fn144 nle rfl (ds (vg 2 [(1, .ptr 0 0)] [(eGCursor c)] [] (ve (ds (va 4 [(6, aB (decide (0 <= c.At)))] (vj 6 12 10 (decide (0 <= c.At)) (fun z => aB (z && (decide (c.At <= c.End)))) km_d (fun _ key => ?_) (fun _ key => ?_) ?_))))))
 ·exact va 5 [(11, aB (decide (c.At <= c.End)))] (va 1 [(12, aB (decide (c.At <= c.End)))] (vle km_d key))
 ·exact va 5 [(11, .tuple [])] (va 1 [(12, aB false)] (vle km_d key))
 refine va 1 [(13, aB ((decide (0 <= c.At)) && (decide (c.At <= c.End))))] (vj 13 20 18 ((decide (0 <= c.At)) && (decide (c.At <= c.End))) (fun z => aB (z && (decide (c.End <= (c.Data.size : Int))))) km_d (fun _ key => ?_) (fun _ key => ?_) ?_)
 ·exact va 4 [(17, aS c.Data), (15, aI c.End)] (vo rfl (x_lenS c.Data) rfl (va 1 [(19, aB (decide (c.End <= (c.Data.size : Int))))] (va 1 [(20, aB (decide (c.End <= (c.Data.size : Int))))] (vle km_d key))))
 ·exact va 6 [(19, .tuple [])] (va 1 [(20, aB false)] (vle km_d key))
 exact va 1 [(2, aB (((decide (0 <= c.At)) && (decide (c.At <= c.End))) && (decide (c.End <= (c.Data.size : Int)))))] (ve (d_ret (rx hw (plr144 _))))
theorem plr145 (r : (Int × Int × Int)) : plain (e145 r) = true := (ptup (pcons rfl (pcons rfl (pcons rfl rfl))))
def r145_0 : LO := [o 2 (.mv (.c (aU 0))), o 3 (mi 0), o 4 (mi 0)]
def r145_1 : LO := [o 5 (.mv (.c (aU 0))), o 6 (.mv (.c (aU 1)))]
def r145_2 : LO := [o 7 (mi 0)]
def r145_3 : LO := [o 9 (mv 7), o 10 (.bin .lss (T 9) (ci 10))]
def k145_1 : ACode := .cond (T 10) .skip (.exit 0)
def r145_8 : LO := [o 13 (mv 7), o 14 (mv 0), o 15 (.len true (T 14)), o 16 (.bin .geq (T 13) (T 15))]
def r145_9 : LO := [o 2 (.mv (.c (aU 0))), o 3 (mi 0), o 4 (mi 4)]
def k145_2 : ACode := .cond (T 16) (.seq (.region r145_9) .ret) .skip
def k145_3 : ACode := .seq (.region r145_8) k145_2
def r145_15 : LO := [o 17 (mv 0), o 18 (mv 7), o 19 (.idxS (T 17) (T 18)), o 20 (.conv (.num .u64) (T 19)), o 8 (mv 20)]
def r145_16 : LO := [o 21 (mv 7), o 22 (.bin .eql (T 21) (ci 9)), o 23 (mv 22), og 24 (mv 8) 23 true, og 25 (.bin .gtr (T 24) (.c (aU 1))) 23 true, o 26 (.pick (T 23) (T 25) (cb false))]
def r145_17 : LO := [o 2 (.mv (.c (aU 0))), o 3 (mi 0), o 4 (mi 6)]
def k145_4 : ACode := .cond (T 26) (.seq (.region r145_17) .ret) .skip
def k145_5 : ACode := .seq (.region r145_16) k145_4
def r145_23 : LO := [o 27 (mv 5), o 28 (mv 8), o 29 (.bin .rem (T 28) (.c (aU 128))), o 30 (mv 6), o 31 (.bin .mul (T 29) (T 30)), o 32 (.bin .add (T 27) (T 31)), o 5 (mv 32)]
def r145_24 : LO := [o 33 (mv 8), o 34 (.bin .lss (T 33) (.c (aU 128)))]
def r145_25 : LO := [o 35 (mv 5), o 36 (mv 7), o 37 (.bin .add (T 36) (ci 1)), o 2 (mv 35), o 3 (mv 37), o 4 (mi 0)]
def k145_6 : ACode := .cond (T 34) (.seq (.region r145_25) .ret) .skip
def k145_7 : ACode := .seq (.region r145_24) k145_6
def r145_31 : LO := [o 38 (mv 6), o 39 (.bin .mul (T 38) (.c (aU 128))), o 6 (mv 39)]
def k145_8 : ACode := .seq k145_7 (.region r145_31)
def k145_9 : ACode := .seq (.region r145_23) k145_8
def k145_10 : ACode := .seq k145_5 k145_9
def k145_11 : ACode := .seq (.region r145_15) k145_10
def r145_38 : LO := [o 11 (mv 7), o 12 (.bin .add (T 11) (ci 1)), o 7 (mv 12)]
def k145_12 : ACode := .seq (.block 1 (.seq k145_3 k145_11)) (.region r145_38)
def k145_13 : ACode := .seq (.seq (.region r145_3) k145_1) k145_12
def k145_14 : ACode := .block 0 (.loop k145_13)
def r145_44 : LO := [o 2 (.mv (.c (aU 0))), o 3 (mi 0), o 4 (mi 6)]
def k145_15 : ACode := .seq (.region r145_44) .ret
def k145_16 : ACode := .seq (.seq (.region r145_2) k145_14) k145_15
def k145_17 : ACode := .seq (.region r145_1) k145_16
def k145_18 : ACode := .seq (.region r145_0) k145_17
theorem fn145 : getFn Tryz.prog 145 = some (40, k145_18, [.tmp 2, .tmp 3, .tmp 4]) := by kernel_rfl
def q145_0 (r : (Int × Int × Int)) : QP := qret [.tmp 2, .tmp 3, .tmp 4] (e145 r)
def q145_3 (r : (Int × Int × Int)) : QP := tq Tryz.prog 40 k145_15 (q145_0 r)
def q145_5 (r : (Int × Int × Int)) : QP := inBlockA 0 (q145_3 r)
def ref01_Take_j2 (ij1 : Int) (ij2 : Int) (ij3 : Int) (s : ByteArray) (r : (Int × Int × Int)) : Prop := DL Tryz.prog 40 0 0 k145_13 (q145_5 r) [(7, aI ij1), (6, aU ij2), (5, aU ij3), (0, aS s)] ⟨[], [], []⟩
theorem ref01_Take_j2_step (ij1 : Int) (ij2 : Int) (ij3 : Int) (s : ByteArray) (r : (Int × Int × Int)) (hw : ((decide (ij1 < 10)) = true -> ((decide ((s.size : Int) <= ij1)) = true -> r = (0, 0, 4)) /\ ((decide ((s.size : Int) <= ij1)) = false -> (0 <= ij1 /\ ij1 < (s.size : Int)) /\ ((((ij1 == 9) && (decide (1 < (wU (byteAt s ij1.toNat))))) = true -> r = (0, 0, 6)) /\ (((ij1 == 9) && (decide (1 < (wU (byteAt s ij1.toNat))))) = false -> ((decide ((wU (byteAt s ij1.toNat)) < 128)) = true -> r = ((wU (ij3 + (wU (((wU (byteAt s ij1.toNat)).tmod 128) * ij2)))), (wI (ij1 + 1)), 0)) /\ ((decide ((wU (byteAt s ij1.toNat)) < 128)) = false -> ref01_Take_j2 (wI (ij1 + 1)) (wU (ij2 * 128)) (wU (ij3 + (wU (((wU (byteAt s ij1.toNat)).tmod 128) * ij2)))) s r))))) /\ ((decide (ij1 < 10)) = false -> r = (0, 0, 6))) : ref01_Take_j2 ij1 ij2 ij3 s r := by
 refine dl_unroll (d_seqQ (ds (va 2 [(10, aB (decide (ij1 < 10)))] (ve (dw hw (fun _ hw => ?_) (fun _ hw => ?_))))))
 ·refine d_skip (d_seqQ (d_blockQ (d_seqQ (ds (va 2 [(14, aS s), (13, aI ij1)] (vo rfl (x_lenS s) rfl (va 1 [(16, aB (decide ((s.size : Int) <= ij1)))] (ve (dw hw (fun _ hw => ?_) (fun _ hw => ?_))))))))))
  ·exact ds (va 3 [(4, aI 4), (3, aI 0), (2, aU 0)] (ve (d_ret (rx hw (plr145 _)))))
  refine d_skip (ds (va 2 [(18, aI ij1), (17, aS s)] ?_))
  obtain ⟨h0, hw⟩ := hw
  refine vo rfl (x_idxS h0) rfl (va 2 [(8, aU (wU (byteAt s ij1.toNat)))] (ve (d_seqQ (ds (va 3 [(23, aB (ij1 == 9))] (vj 23 26 6 (ij1 == 9) (fun z => aB (z && (decide (1 < (wU (byteAt s ij1.toNat)))))) km_d (fun _ key => ?_) (fun _ key => ?_) ?_))))))
  ·exact va 2 [(25, aB (decide (1 < (wU (byteAt s ij1.toNat)))))] (va 1 [(26, aB (decide (1 < (wU (byteAt s ij1.toNat)))))] (vle km_d key))
  ·exact va 2 [(25, .tuple [])] (va 1 [(26, aB false)] (vle km_d key))
  refine ve (dw hw (fun _ hw => ?_) (fun _ hw => ?_))
  ·exact ds (va 3 [(4, aI 6), (3, aI 0), (2, aU 0)] (ve (d_ret (rx hw (plr145 _)))))
  refine d_skip (ds (va 7 [(5, aU (wU (ij3 + (wU (((wU (byteAt s ij1.toNat)).tmod 128) * ij2)))))] (ve (d_seqQ (ds (va 2 [(34, aB (decide ((wU (byteAt s ij1.toNat)) < 128)))] (ve (dw hw (fun _ hw => ?_) (fun _ hw => ?_)))))))))
  ·exact ds (va 6 [(4, aI 0), (3, aI (wI (ij1 + 1))), (2, aU (wU (ij3 + (wU (((wU (byteAt s ij1.toNat)).tmod 128) * ij2)))))] (ve (d_ret (rx hw (plr145 _)))))
  exact d_skip (dr (va 3 [(6, aU (wU (ij2 * 128)))] (ve (dr (va 3 [(7, aI (wI (ij1 + 1)))] (ve (jl0 hw)))))))
 exact d_exit (ds (va 3 [(4, aI 6), (3, aI 0), (2, aU 0)] (ve (d_ret (rx hw (plr145 _))))))
theorem ref01_Take_step (s : ByteArray) (r : (Int × Int × Int)) (hw : ref01_Take_j2 0 1 0 s r) : ref01_Take s r := by
 exact f_pureD fn145 nle rfl (ds (va 3 [] (ve (ds (va 2 [(6, aU 1), (5, aU 0)] (ve (d_seqQ (ds (va 1 [(7, aI 0)] (ve (d_blockQ (d_loopQ (jl0 hw)))))))))))))
theorem plr151 (r : Int) : plain (e151 r) = true := rfl
def r151_0 : LO := [o 2 (bx 0), o 3 (bx 1), o 4 (mi 0)]
def r151_1 : LO := [o 6 (fa 0 2), o 7 (ld 6), o 8 (fa 0 3), o 9 (ld 8), o 10 (.bin .lss (T 7) (T 9)), o 5 (mv 10)]
def r151_2 : LO := [o 4 (mi (-1))]
def r151_5 : LO := [o 12 (fa 0 2), o 13 (ld 12), o 14 (fa 0 3), o 15 (ld 14), o 16 (.bin .gtr (T 13) (T 15)), o 11 (mv 16)]
def r151_6 : LO := [o 4 (mi 1)]
def r151_9 : LO := [o 18 (fa 0 2), o 19 (ld 18), o 20 (.call (cf 42) [(T 19)]), o 21 (.un .not (T 20)), o 17 (mv 21)]
def r151_10 : LO := [o 4 (mi 0)]
def r151_13 : LO := [o 23 (fa 0 2), o 24 (ld 23), o 25 (.call (cf 96) [(T 24)]), o 26 (mv 25), og 27 (fa 2 2) 26 true, og 28 (ld 27) 26 true, og 29 (fa 2 3) 26 true, og 30 (ld 29) 26 true, og 31 (.bin .lss (T 28) (T 30)) 26 true, o 32 (.pick (T 26) (T 31) (cb false)), o 22 (mv 32)]
def r151_14 : LO := [o 4 (mi (-1))]
def r151_17 : LO := [o 34 (fa 0 2), o 35 (ld 34), o 36 (.call (cf 96) [(T 35)]), o 37 (mv 36), og 38 (fa 2 2) 37 true, og 39 (ld 38) 37 true, og 40 (fa 2 3) 37 true, og 41 (ld 40) 37 true, og 42 (.bin .gtr (T 39) (T 41)) 37 true, o 43 (.pick (T 37) (T 42) (cb false)), o 33 (mv 43)]
def r151_18 : LO := [o 4 (mi 1)]
def r151_21 : LO := [o 45 (fa 0 2), o 46 (ld 45), o 47 (.call (cf 96) [(T 46)]), o 44 (mv 47)]
def r151_22 : LO := [o 4 (mi 0)]
def r151_25 : LO := [o 49 (ln 7 2), o 50 (.call (cf 184) [(T 49)]), o 51 (ln 7 3), o 52 (.call (cf 184) [(T 51)]), o 53 (.bin .lss (T 50) (T 52)), o 48 (mv 53)]
def r151_25t : LO := []
def r151_25o : LN := [[], [0], [], [1, 2], [1, 3], [3, 4]]
def r151_26 : LO := [o 4 (mi (-1))]
def r151_29 : LO := [o 55 (ln 7 2), o 56 (.call (cf 184) [(T 55)]), o 57 (ln 7 3), o 58 (.call (cf 184) [(T 57)]), o 59 (.bin .gtr (T 56) (T 58)), o 54 (mv 59)]
def r151_29t : LO := []
def r151_29o : LN := [[], [0], [], [1, 2], [1, 3], [3, 4]]
def r151_30 : LO := [o 4 (mi 1)]
def k151_1 : ACode := .cond (T 54) (.seq (.region r151_30) .ret) .skip
def k151_2 : ACode := .seq (.drawn r151_29o r151_29 r151_29t) k151_1
def k151_3 : ACode := .cond (T 48) (.seq (.region r151_26) .ret) k151_2
def k151_4 : ACode := .seq (.drawn r151_25o r151_25 r151_25t) k151_3
def k151_5 : ACode := .cond (T 44) (.seq (.region r151_22) .ret) k151_4
def k151_6 : ACode := .seq (.region r151_21) k151_5
def k151_7 : ACode := .cond (T 33) (.seq (.region r151_18) .ret) k151_6
def k151_8 : ACode := .seq (.region r151_17) k151_7
def k151_9 : ACode := .cond (T 22) (.seq (.region r151_14) .ret) k151_8
def k151_10 : ACode := .seq (.region r151_13) k151_9
def k151_11 : ACode := .cond (T 17) (.seq (.region r151_10) .ret) k151_10
def k151_12 : ACode := .seq (.region r151_9) k151_11
def k151_13 : ACode := .cond (T 11) (.seq (.region r151_6) .ret) k151_12
def k151_14 : ACode := .seq (.region r151_5) k151_13
def k151_15 : ACode := .cond (T 5) (.seq (.region r151_2) .ret) k151_14
def k151_16 : ACode := .seq (.region r151_1) k151_15
def r151_51 : LO := [o 4 (mi 0)]
def k151_17 : ACode := .seq (.region r151_51) .ret
def k151_18 : ACode := .seq (.block 0 k151_16) k151_17
def k151_19 : ACode := .seq (.region r151_0) k151_18
theorem fn151 : getFn Tryz.prog 151 = some (60, k151_19, [.tmp 4]) := by kernel_rfl
theorem ref04_Cmp_step (a : GValue) (b : GValue) (r : Int) (hw : ((decide (a.Kind < b.Kind)) = true -> r = (-1)) /\ ((decide (a.Kind < b.Kind)) = false -> ((decide (b.Kind < a.Kind)) = true -> r = 1) /\ ((decide (b.Kind < a.Kind)) = false -> ∃ y1, ref04_Is a.Kind y1 /\ (((!y1) = true -> r = 0) /\ ((!y1) = false -> ∃ y2, ref04_texts a.Kind y2 /\ (((y2 && (Op.bytesLess a.Text.toList b.Text.toList)) = true -> r = (-1)) /\ ((y2 && (Op.bytesLess a.Text.toList b.Text.toList)) = false -> ∃ y3, ref04_texts a.Kind y3 /\ (((y3 && (!(Op.bytesLess a.Text.toList b.Text.toList || a.Text.toList == b.Text.toList))) = true -> r = 1) /\ ((y3 && (!(Op.bytesLess a.Text.toList b.Text.toList || a.Text.toList == b.Text.toList))) = false -> ∃ y4, ref04_texts a.Kind y4 /\ ((y4 = true -> r = 0) /\ (y4 = false -> ∃ y5, ref04_rank a y5 /\ (∃ y6, ref04_rank b y6 /\ (((decide (y5 < y6)) = true -> r = (-1)) /\ ((decide (y5 < y6)) = false -> ∃ y7, ref04_rank a y7 /\ (∃ y8, ref04_rank b y8 /\ (((decide (y8 < y7)) = true -> r = 1) /\ ((decide (y8 < y7)) = false -> r = 0))))))))))))))))) : ref04_Cmp a b r := by
 refine f_pureD fn151 nle rfl (ds (vg 3 [(3, .ptr 1 0), (2, .ptr 0 0)] [(eGValue a), (eGValue b)] [] (ve (d_seqQ (d_blockQ (ds (va 6 [(5, aB (decide (a.Kind < b.Kind)))] (ve (dw hw (fun _ hw => ?_) (fun _ hw => ?_))))))))))
 ·exact ds (va 1 [(4, aI (-1))] (ve (d_ret (rx hw (plr151 _)))))
 refine ds (va 6 [(11, aB (decide (b.Kind < a.Kind)))] (ve (dw hw (fun _ hw => ?_) (fun _ hw => ?_))))
 ·exact ds (va 1 [(4, aI 1)] (ve (d_ret (rx hw (plr151 _)))))
 refine ds (va 2 [(19, aI a.Kind)] ?_)
 obtain ⟨y1, hy, hw⟩ := hw
 refine vo rfl (x_call hy pl42) rfl (va 2 [(17, aB (!y1))] (ve (dw hw (fun _ hw => ?_) (fun _ hw => ?_))))
 ·exact ds (va 1 [(4, aI 0)] (ve (d_ret (rx hw (plr151 _)))))
 refine ds (va 2 [(24, aI a.Kind)] ?_)
 obtain ⟨y2, hy, hw⟩ := hw
 refine vo rfl (x_call hy pl96) rfl (va 1 [(26, aB y2)] (vj 26 32 10 y2 (fun z => aB (z && (Op.bytesLess a.Text.toList b.Text.toList))) km_d (fun _ key => ?_) (fun _ key => ?_) ?_))
 ·exact va 4 [(30, aS b.Text), (28, aS a.Text)] (vo rfl (x_bin (c := True) (.bool (Op.bytesLess a.Text.toList b.Text.toList)) trivial) rfl (va 1 [(32, aB (Op.bytesLess a.Text.toList b.Text.toList))] (vle km_d key)))
 ·exact va 5 [(31, .tuple [])] (va 1 [(32, aB false)] (vle km_d key))
 refine va 1 [(22, aB (y2 && (Op.bytesLess a.Text.toList b.Text.toList)))] (ve (dw hw (fun _ hw => ?_) (fun _ hw => ?_)))
 ·exact ds (va 1 [(4, aI (-1))] (ve (d_ret (rx hw (plr151 _)))))
 refine ds (va 2 [(35, aI a.Kind)] ?_)
 obtain ⟨y3, hy, hw⟩ := hw
 refine vo rfl (x_call hy pl96) rfl (va 1 [(37, aB y3)] (vj 37 43 10 y3 (fun z => aB (z && (!(Op.bytesLess a.Text.toList b.Text.toList || a.Text.toList == b.Text.toList)))) km_d (fun _ key => ?_) (fun _ key => ?_) ?_))
 ·exact va 4 [(41, aS b.Text), (39, aS a.Text)] (vo rfl (x_bin (c := True) (.bool (!(Op.bytesLess a.Text.toList b.Text.toList || a.Text.toList == b.Text.toList))) trivial) rfl (va 1 [(43, aB (!(Op.bytesLess a.Text.toList b.Text.toList || a.Text.toList == b.Text.toList)))] (vle km_d key)))
 ·exact va 5 [(42, .tuple [])] (va 1 [(43, aB false)] (vle km_d key))
 refine va 1 [(33, aB (y3 && (!(Op.bytesLess a.Text.toList b.Text.toList || a.Text.toList == b.Text.toList))))] (ve (dw hw (fun _ hw => ?_) (fun _ hw => ?_)))
 ·exact ds (va 1 [(4, aI 1)] (ve (d_ret (rx hw (plr151 _)))))
 refine ds (va 2 [(46, aI a.Kind)] ?_)
 obtain ⟨y4, hy, hw⟩ := hw
 refine vo rfl (x_call hy pl96) rfl (va 1 [(44, aB y4)] (ve (dw hw (fun _ hw => ?_) (fun _ hw => ?_))))
 ·exact ds (va 1 [(4, aI 0)] (ve (d_ret (rx hw (plr151 _)))))
 refine d_seqQ (dS [(0, (eGValue a)), (1, (eGValue b))] (sa 2 1 [(49, .agg (eGValue a))] ?_))
 obtain ⟨y5, hy, hw⟩ := hw
 refine sq rfl (y_call hy pl184) rfl (sa 2 1 [(51, .agg (eGValue b))] ?_)
 obtain ⟨y6, hy, hw⟩ := hw
 refine sq rfl (y_call hy pl184) rfl (sa 2 2 [(48, aB (decide (y5 < y6)))] (send (vp_start' (ve (dw hw (fun _ hw => ?_) (fun _ hw => ?_))))))
 ·exact ds (va 1 [(4, aI (-1))] (ve (d_ret (rx hw (plr151 _)))))
 refine d_seqQ (dS [(0, (eGValue a)), (1, (eGValue b))] (sa 2 1 [(55, .agg (eGValue a))] ?_))
 obtain ⟨y7, hy, hw⟩ := hw
 refine sq rfl (y_call hy pl184) rfl (sa 2 1 [(57, .agg (eGValue b))] ?_)
 obtain ⟨y8, hy, hw⟩ := hw
 refine sq rfl (y_call hy pl184) rfl (sa 2 2 [(54, aB (decide (y8 < y7)))] (send (vp_start' (ve (dw hw (fun _ hw => ?_) (fun _ hw => ?_))))))
 ·exact ds (va 1 [(4, aI 1)] (ve (d_ret (rx hw (plr151 _)))))
 exact d_skip (ds (va 1 [(4, aI 0)] (ve (d_ret (rx hw (plr151 _))))))
def r152_0 : LO := [o 1 (bx 0), o 2 (mb false)]
def r152_1 : LO := [o 4 (fa 0 1), o 5 (ld 4), o 6 (.bin .eql (T 5) (ci 7)), o 7 (mv 6), og 8 (fa 0 1) 7 false, og 9 (ld 8) 7 false, og 10 (.bin .eql (T 9) (ci 8)) 7 false, o 11 (.pick (T 7) (cb true) (T 10)), o 3 (mv 11)]
def r152_2 : LO := [o 12 (fa 0 1), o 13 (ld 12), o 14 (.bin .neq (T 13) (ci 11)), o 15 (mv 14), og 16 (fa 3 1) 15 true, og 17 (ld 16) 15 true, og 18 (.len false (T 17)) 15 true, og 19 (.bin .gtr (T 18) (ci 0)) 15 true, o 20 (.pick (T 15) (T 19) (cb false)), o 21 (mv 20), og 22 (fa 0 1) 21 false, og 23 (ld 22) 21 false, og 24 (.bin .neq (T 23) (ci 12)) 21 false, og 25 (mv 24) 21 false, og 26 (fa 4 1) 25 true, og 27 (ld 26) 25 true, og 28 (.len false (T 27)) 25 true, og 29 (.bin .gtr (T 28) (ci 0)) 25 true, og 30 (.pick (T 25) (T 29) (cb false)) 21 false, o 31 (.pick (T 21) (cb true) (T 30)), o 32 (mv 31), og 33 (fa 0 1) 32 false, og 34 (ld 33) 32 false, og 35 (.bin .neq (T 34) (ci 10)) 32 false, og 36 (mv 35) 32 false, og 37 (fa 5 1) 36 true, og 38 (ld 37) 36 true, og 39 (.len false (T 38)) 36 true, og 40 (fa 6 1) 36 true, og 41 (ld 40) 36 true, og 42 (.len false (T 41)) 36 true, og 43 (.bin .add (T 39) (T 42)) 36 true, og 44 (.bin .gtr (T 43) (ci 0)) 36 true, og 45 (.pick (T 36) (T 44) (cb false)) 32 false, o 46 (.pick (T 32) (cb true) (T 45)), o 47 (mv 46), og 48 (fa 1 1) 47 false, og 49 (ld 48) 47 false, og 50 (.bin .neq (T 49) (.c (aU 0))) 47 false, og 51 (mv 50) 47 false, og 52 (mv 3) 51 true, og 53 (mv 52) 51 true, og 54 (fa 0 1) 53 false, og 55 (ld 54) 53 false, og 56 (.bin .geq (T 55) (ci 10)) 53 false, og 57 (mv 56) 53 false, og 58 (fa 0 1) 57 true, og 59 (ld 58) 57 true, og 60 (.bin .leq (T 59) (ci 12)) 57 true, og 61 (.pick (T 57) (T 60) (cb false)) 53 false, og 62 (.pick (T 53) (cb true) (T 61)) 51 true, og 63 (.pick (T 51) (T 62) (cb false)) 47 false, o 64 (.pick (T 47) (cb true) (T 63)), o 65 (mv 64), og 66 (fa 2 1) 65 false, og 67 (ld 66) 65 false, og 68 (.bin .neq (T 67) (.c aE)) 65 false, og 69 (mv 68) 65 false, og 70 (mv 3) 69 true, og 71 (.un .not (T 70)) 69 true, og 72 (.pick (T 69) (T 71) (cb false)) 65 false, o 73 (.pick (T 65) (cb true) (T 72)), o 2 (mv 73)]
def k152_1 : ACode := .seq (.region r152_2) .ret
def k152_2 : ACode := .seq (.region r152_1) k152_1
def k152_3 : ACode := .seq (.region r152_0) k152_2
theorem fn152 : getFn Tryz.prog 152 = some (74, k152_3, [.tmp 2]) := by kernel_rfl
def r153_0 : LO := [o 5 (bx 0), o 6 (bx 1), o 10 (mi 0)]
def r153_1 : LO := [o 18 (ln 3 6), o 19 (mv 2), o 20 (mv 3), o 21 (.idxSl 8 (T 19) (T 20)), o 22 (fa 0 21), o 23 (ld 22), o 24 (.call (cf 107) [(T 18), (T 23)]), o 17 (mv 24), o 25 (.extract 0 (T 17)), o 26 (.extract 1 (T 17)), o 11 (.alloc [(aI 0), aE, aE, (aI 0), (aI 0), (aI 0), (aI 0), (aI 0)]), on (st 8 11 25)]
def r153_1t : LO := [o 12 (mv 26)]
def r153_1o : LN := [[], [], [], [1, 2], [3], [4], [0, 5], [6], [7], [7], [], [0, 1, 2, 3, 4, 5, 6, 7, 8, 10]]
def r153_2 : LO := [o 27 (mv 12), o 28 (.un .not (T 27))]
def r153_3 : LO := [o 10 (mi 8)]
def k153_1 : ACode := .cond (T 28) (.seq (.region r153_3) .ret) .skip
def k153_2 : ACode := .seq (.region r153_2) k153_1
def r153_9 : LO := [o 29 (mv 2), o 30 (mv 3), o 31 (.sliceV 8 (T 29) none (some (T 30)) none), o 32 (.func (.func 185) [] [(T 11)]), o 33 (.call (cf 154) [(T 31), (T 32)])]
def r153_10 : LO := [o 10 (mi 9)]
def k153_3 : ACode := .cond (T 33) (.seq (.region r153_10) .ret) .skip
def k153_4 : ACode := .seq (.region r153_9) k153_3
def r153_16 : LO := [o 34 (mv 2), o 35 (mv 3), o 36 (.sliceV 8 (T 34) none (some (T 35)) none), o 37 (.len false (T 36)), o 38 (mi 0)]
def r153_17 : LO := [o 39 (.bin .lss (T 38) (T 37))]
def r153_21 : LO := [o 40 (.idxSl 8 (T 36) (T 38)), o 41 (ln 8 40), o 14 (.alloc [(aI 0), (aI 0), (aU 0), aE, .nil, .nil, .nil, .nil]), on (st 8 14 41)]
def r153_22 : LO := [o 43 (ln 3 6), o 44 (fa 0 14), o 45 (ld 44), o 46 (.call (cf 107) [(T 43), (T 45)]), o 42 (mv 46), o 47 (.extract 0 (T 42)), o 48 (.extract 1 (T 42)), o 15 (.alloc [(aI 0), aE, aE, (aI 0), (aI 0), (aI 0), (aI 0), (aI 0)]), on (st 8 15 47), o 16 (mv 48)]
def r153_23 : LO := [o 49 (fa 7 11), o 50 (ld 49), o 51 (.bin .neq (T 50) (ci (-1))), o 52 (mv 51), og 53 (fa 7 15) 52 true, og 54 (ld 53) 52 true, og 55 (fa 7 11) 52 true, og 56 (ld 55) 52 true, og 57 (.bin .eql (T 54) (T 56)) 52 true, o 58 (.pick (T 52) (T 57) (cb false))]
def r153_24 : LO := [o 10 (mi 15)]
def k153_5 : ACode := .cond (T 58) (.seq (.region r153_24) .ret) .skip
def k153_6 : ACode := .seq (.region r153_23) k153_5
def k153_7 : ACode := .seq (.region r153_22) k153_6
def k153_8 : ACode := .block 1 (.seq (.region r153_21) k153_7)
def r153_33 : LO := [o 59 (.bin .add (T 38) (ci 1)), o 38 (mv 59)]
def k153_9 : ACode := .seq k153_8 (.region r153_33)
def k153_10 : ACode := .seq (.cond (T 39) .skip (.exit 0)) k153_9
def k153_11 : ACode := .seq (.region r153_17) k153_10
def k153_12 : ACode := .block 0 (.loop k153_11)
def r153_40 : LO := [o 60 (ln 2 5), o 61 (ln 8 11), o 62 (mv 2), o 63 (mv 3), o 64 (.idxSl 8 (T 62) (T 63)), o 65 (fa 1 64), o 66 (ln 7 65), o 67 (mv 4), o 68 (.call (cf 186) [(T 60), (T 61), (T 66), (T 67)])]
def r153_40t : LO := [o 10 (mv 68)]
def r153_40o : LN := [[], [], [], [], [2, 3], [4], [5], [], [0, 1, 6, 7]]
def k153_13 : ACode := .seq (.drawn r153_40o r153_40 r153_40t) .ret
def k153_14 : ACode := .seq (.seq (.region r153_16) k153_12) k153_13
def k153_15 : ACode := .seq k153_4 k153_14
def k153_16 : ACode := .seq k153_2 k153_15
def k153_17 : ACode := .seq (.drawn r153_1o r153_1 r153_1t) k153_16
def k153_18 : ACode := .seq (.region r153_0) k153_17
theorem fn153 : getFn Tryz.prog 153 = some (69, k153_18, [.tmp 10]) := by kernel_rfl
def r154_0 : LO := [o 4 (mb false)]
def r154_1 : LO := [o 5 (mv 0), o 6 (mv 1), o 7 (.call (cf 187) [(T 5), (T 6)]), o 8 (.bin .geq (T 7) (ci 0)), o 4 (mv 8)]
def k154_1 : ACode := .seq (.region r154_1) .ret
def k154_2 : ACode := .seq (.region r154_0) k154_1
theorem fn154 : getFn Tryz.prog 154 = some (9, k154_2, [.tmp 4]) := by kernel_rfl
def r158_0 : LO := [o 2 (.mv (.c .nil))]
def r158_1 : LO := [o 3 (mv 0), o 4 (.eq .slice true (T 3) (.c .nil))]
def r158_2 : LO := [o 2 (.mv (.c .nil))]
def k158_1 : ACode := .cond (T 4) (.seq (.region r158_2) .ret) .skip
def k158_2 : ACode := .seq (.region r158_1) k158_1
def r158_8 : LO := [o 5 (.sliceLit 8 0 [] []), o 6 (mv 0), o 7 (.append 8 136 (T 5) (T 6)), o 2 (mv 7)]
def k158_3 : ACode := .seq (.region r158_8) .ret
def k158_4 : ACode := .seq k158_2 k158_3
def k158_5 : ACode := .seq (.region r158_0) k158_4
theorem fn158 : getFn Tryz.prog 158 = some (8, k158_5, [.tmp 2]) := by kernel_rfl
def r159_0 : LO := [o 4 (mv 0), o 5 (mv 0), o 6 (.len false (T 5)), o 7 (mv 1), o 8 (.call (cf 189) [(T 4), (T 6), (T 7)])]
theorem fn159 : getFn Tryz.prog 159 = some (9, .region r159_0, []) := by kernel_rfl
def r162_0 : LO := [o 2 (bx 0), o 3 (bx 1), o 4 (.alloc [(aI 0), aE, aE, (aI 0), (aI 0), (aI 0), (aI 0), (aI 0)]), o 5 (mb false)]
def r162_1 : LO := [o 7 (fa 1 3), o 8 (ld 7), o 9 (fa 0 2), o 10 (ld 9), o 11 (.call (cf 190) [(T 8), (T 10)]), o 6 (mv 11)]
def r162_2 : LO := [o 12 (mv 6), o 13 (.bin .lss (T 12) (ci 0))]
def r162_3 : LO := [o 14 (.build [(aI 0), aE, aE, (aI 0), (aI 0), (aI 0), (aI 0), (aI 0)] []), on (st 8 4 14), o 5 (mb false)]
def k162_1 : ACode := .cond (T 13) (.seq (.region r162_3) .ret) .skip
def k162_2 : ACode := .seq (.region r162_2) k162_1
def r162_9 : LO := [o 15 (fa 1 3), o 16 (ld 15), o 17 (mv 6), o 18 (.idxSl 8 (T 16) (T 17)), o 19 (ln 8 18), on (st 8 4 19), o 5 (mb true)]
def k162_3 : ACode := .seq (.region r162_9) .ret
def k162_4 : ACode := .seq k162_2 k162_3
def k162_5 : ACode := .seq (.region r162_1) k162_4
def k162_6 : ACode := .seq (.region r162_0) k162_5
theorem fn162 : getFn Tryz.prog 162 = some (20, k162_6, [.cell 4 (some 8), .tmp 5]) := by kernel_rfl
def r163_0 : LO := [o 3 (bx 0), o 4 (bx 1), o 5 (bx 2), o 6 (.alloc zV)]
def r163_1 : LO := [o 7 (fa 5 4), o 8 (ld 7), o 9 (.bin .eql (T 8) (ci 10))]
def r163_2 : LO := [o 10 (ln 2 3), o 11 (fa 6 4), o 12 (ld 11), o 13 (ln 7 5), o 14 (.call (cf 59) [(T 10), (T 12), (T 13)]), on (st 7 6 14)]
def k163_1 : ACode := .cond (T 9) (.seq (.region r163_2) .ret) .skip
def k163_2 : ACode := .seq (.region r163_1) k163_1
def r163_8 : LO := [o 15 (ln 7 5), o 16 (.call (cf 50) [(T 15)]), on (st 7 6 16)]
def k163_3 : ACode := .seq (.region r163_8) .ret
def k163_4 : ACode := .seq k163_2 k163_3
def k163_5 : ACode := .seq (.region r163_0) k163_4
theorem fn163 : getFn Tryz.prog 163 = some (17, k163_5, [.cell 6 (some 7)]) := by kernel_rfl
end
section
attribute [-simp] List.map_take List.map_drop List.map_append List.map_set List.map_replicate List.map_cons List.map_map
attribute [local simp] plain plainL lowE lowB keepB low lowL lowLL plm_I_i8 plm_I_i16 plm_I_i32 plm_I_i64 plm_I_u8 plm_I_u16 plm_I_u32 plm_I_u64 plm_Bool plm_Str gfn_fi gfn_cap plm_Fn pl_GOp plm_GOp pl_GProg plm_GProg pl_GRaw plm_GRaw pl_GValue plm_GValue pl_GPair plm_GPair pl_GSlot plm_GSlot pl_GNote plm_GNote pl_GItem plm_GItem pl_GSpan plm_GSpan pl_GEnum plm_GEnum pl_GPlan plm_GPlan pl_GS26 plm_GS26 pl_GCursor plm_GCursor pl_GLimits eI_i8 eI_i16 eI_i32 eI_i64 eI_u8 eI_u16 eI_u32 eI_u64 eBool eStr eFn lwr_Bool lwm_I_u8 lwm_GEnum lwc_GValue lwc_GEnum lwc_GPlan lwc_GCursor
def r166_0 : LO := [o 6 (mi 20)]
def r166_1 : LO := [o 10 (mv 6), o 7 (mi 0), o 8 (mv 10)]
def r166_2 : LO := [o 11 (mv 8), o 12 (mv 1), o 13 (.bin .leq (T 11) (T 12))]
def k166_1 : ACode := .cond (T 13) .skip (.exit 0)
def r166_7 : LO := [o 14 (mv 0), o 15 (mv 7), o 16 (mv 8), o 17 (mv 2), o 18 (.call (cf 195) [(T 14), (T 15), (T 16), (T 17)])]
def r166_8 : LO := [o 19 (mv 8), o 7 (mv 19)]
def r166_9 : LO := [o 20 (mv 8), o 21 (mv 6), o 22 (.bin .add (T 20) (T 21)), o 8 (mv 22)]
def k166_2 : ACode := .seq (.region r166_8) (.region r166_9)
def k166_3 : ACode := .seq (.region r166_7) k166_2
def k166_4 : ACode := .block 1 k166_3
def k166_5 : ACode := .seq (.seq (.region r166_2) k166_1) k166_4
def r166_16 : LO := [o 23 (mv 0), o 24 (mv 7), o 25 (mv 1), o 26 (mv 2), o 27 (.call (cf 195) [(T 23), (T 24), (T 25), (T 26)])]
def r166_17 : LO := [o 28 (mv 6), o 29 (mv 1), o 30 (.bin .lss (T 28) (T 29))]
def k166_6 : ACode := .cond (T 30) .skip (.exit 2)
def r166_22 : LO := [o 31 (mv 6), o 32 (.bin .mul (ci 2) (T 31)), o 7 (mi 0), o 8 (mv 32)]
def r166_23 : LO := [o 33 (mv 8), o 34 (mv 1), o 35 (.bin .leq (T 33) (T 34))]
def k166_7 : ACode := .cond (T 35) .skip (.exit 4)
def r166_28 : LO := [o 36 (mv 0), o 37 (mv 7), o 38 (mv 7), o 39 (mv 6), o 40 (.bin .add (T 38) (T 39)), o 41 (mv 8), o 42 (mv 2), o 43 (.call (cf 196) [(T 36), (T 37), (T 40), (T 41), (T 42)])]
def r166_29 : LO := [o 44 (mv 8), o 7 (mv 44)]
def r166_30 : LO := [o 45 (mv 8), o 46 (mv 6), o 47 (.bin .mul (ci 2) (T 46)), o 48 (.bin .add (T 45) (T 47)), o 8 (mv 48)]
def k166_8 : ACode := .seq (.region r166_29) (.region r166_30)
def k166_9 : ACode := .seq (.region r166_28) k166_8
def k166_10 : ACode := .block 5 k166_9
def k166_11 : ACode := .seq (.seq (.region r166_23) k166_7) k166_10
def r166_37 : LO := [o 49 (mv 7), o 50 (mv 6), o 51 (.bin .add (T 49) (T 50)), o 9 (mv 51)]
def r166_38 : LO := [o 52 (mv 9), o 53 (mv 1), o 54 (.bin .lss (T 52) (T 53))]
def r166_39 : LO := [o 55 (mv 0), o 56 (mv 7), o 57 (mv 9), o 58 (mv 1), o 59 (mv 2), o 60 (.call (cf 196) [(T 55), (T 56), (T 57), (T 58), (T 59)])]
def k166_12 : ACode := .cond (T 54) (.region r166_39) .skip
def k166_13 : ACode := .seq (.region r166_38) k166_12
def r166_44 : LO := [o 61 (mv 6), o 62 (.bin .mul (T 61) (ci 2)), o 6 (mv 62)]
def k166_14 : ACode := .seq (.seq (.region r166_37) k166_13) (.region r166_44)
def k166_15 : ACode := .seq (.block 4 (.loop k166_11)) k166_14
def k166_16 : ACode := .block 3 (.seq (.region r166_22) k166_15)
def k166_17 : ACode := .seq (.seq (.region r166_17) k166_6) k166_16
def k166_18 : ACode := .block 2 (.loop k166_17)
def k166_19 : ACode := .seq (.region r166_16) k166_18
def k166_20 : ACode := .seq (.block 0 (.loop k166_5)) k166_19
def k166_21 : ACode := .seq (.region r166_1) k166_20
def k166_22 : ACode := .seq (.region r166_0) k166_21
theorem fn166 : getFn Tryz.prog 166 = some (63, k166_22, []) := by kernel_rfl
def r168_0 : LO := [o 2 (bx 0), o 4 (.alloc [aE, (aI 0), (aI 0), (aI 0), (aI 0), (aI 0)]), o 5 (mi 0)]
def r168_1 : LO := [o 7 (mv 1), o 8 (.bin .lss (T 7) (ci 0)), o 6 (mv 8)]
def r168_2 : LO := [o 9 (ln 6 2), on (st 6 4 9), o 5 (mi 1)]
def r168_5 : LO := [o 11 (mv 1), o 12 (fa 4 2), o 13 (ld 12), o 14 (.bin .gtr (T 11) (T 13)), o 10 (mv 14)]
def r168_6 : LO := [o 15 (ln 6 2), on (st 6 4 15), o 5 (mi 3)]
def k168_1 : ACode := .cond (T 10) (.seq (.region r168_6) .ret) .skip
def k168_2 : ACode := .seq (.region r168_5) k168_1
def k168_3 : ACode := .cond (T 6) (.seq (.region r168_2) .ret) k168_2
def k168_4 : ACode := .seq (.region r168_1) k168_3
def r168_15 : LO := [o 16 (fa 4 2), o 17 (ld 16), o 18 (mv 1), o 19 (.bin .sub (T 17) (T 18)), o 20 (fa 4 2), on (st 1 20 19)]
def r168_16 : LO := [o 21 (ln 6 2), on (st 6 4 21), o 5 (mi 0)]
def k168_5 : ACode := .seq (.region r168_16) .ret
def k168_6 : ACode := .seq (.region r168_15) k168_5
def k168_7 : ACode := .seq (.block 0 k168_4) k168_6
def k168_8 : ACode := .seq (.region r168_0) k168_7
theorem fn168 : getFn Tryz.prog 168 = some (22, k168_8, [.cell 4 (some 6), .tmp 5]) := by kernel_rfl
theorem plr173 (r : Bool) : plain (e173 r) = true := rfl
def r173_0 : LO := [o 2 (mb false)]
def r173_1 : LO := [o 5 (mv 0), o 6 (.len true (T 5)), o 7 (.bin .gtr (T 6) (ci 120))]
def r173_2 : LO := [o 2 (mb false)]
def k173_1 : ACode := .cond (T 7) (.seq (.region r173_2) .ret) .skip
def k173_2 : ACode := .seq (.region r173_1) k173_1
def r173_8 : LO := [o 3 (.mv (.c aE))]
def r173_9 : LO := [o 4 (mi 0)]
def r173_10 : LO := [o 8 (mv 4), o 9 (mv 0), o 10 (.len true (T 9)), o 11 (.bin .lss (T 8) (T 10))]
def k173_3 : ACode := .cond (T 11) .skip (.exit 0)
def r173_15 : LO := [o 14 (mv 0), o 15 (mv 4), o 16 (.idxS (T 14) (T 15)), o 17 (.bin .neq (T 16) (.c (aC 46)))]
def r173_16 : LO := [o 18 (mv 3), o 19 (mv 0), o 20 (mv 4), o 21 (mv 4), o 22 (.bin .add (T 21) (ci 1)), o 23 (.sliceS (T 19) (some (T 20)) (some (T 22))), o 24 (.bin .add (T 18) (T 23)), o 3 (mv 24)]
def k173_4 : ACode := .cond (T 17) (.seq (.region r173_16) (.exit 1)) .skip
def k173_5 : ACode := .seq (.region r173_15) k173_4
def r173_22 : LO := [o 25 (mv 3), o 26 (.call (cf 176) [(T 25)]), o 27 (.un .not (T 26))]
def r173_23 : LO := [o 2 (mb false)]
def k173_6 : ACode := .cond (T 27) (.seq (.region r173_23) .ret) .skip
def k173_7 : ACode := .seq (.region r173_22) k173_6
def r173_29 : LO := [o 3 (.mv (.c aE))]
def k173_8 : ACode := .seq k173_7 (.region r173_29)
def r173_33 : LO := [o 12 (mv 4), o 13 (.bin .add (T 12) (ci 1)), o 4 (mv 13)]
def k173_9 : ACode := .seq (.block 1 (.seq k173_5 k173_8)) (.region r173_33)
def k173_10 : ACode := .seq (.seq (.region r173_10) k173_3) k173_9
def k173_11 : ACode := .block 0 (.loop k173_10)
def r173_39 : LO := [o 28 (mv 3), o 29 (.call (cf 176) [(T 28)]), o 2 (mv 29)]
def k173_12 : ACode := .seq (.region r173_39) .ret
def k173_13 : ACode := .seq (.seq (.region r173_9) k173_11) k173_12
def k173_14 : ACode := .seq (.region r173_8) k173_13
def k173_15 : ACode := .seq k173_2 k173_14
def k173_16 : ACode := .seq (.region r173_0) k173_15
theorem fn173 : getFn Tryz.prog 173 = some (30, k173_16, [.tmp 2]) := by kernel_rfl
def q173_0 (r : Bool) : QP := qret [.tmp 2] (e173 r)
def q173_6 (r : Bool) : QP := tq Tryz.prog 30 k173_12 (q173_0 r)
def q173_8 (r : Bool) : QP := inBlockA 0 (q173_6 r)
def ref06_IsFull_j2 (ij1 : Int) (sj2 : ByteArray) (s : ByteArray) (r : Bool) : Prop := DL Tryz.prog 30 0 0 k173_10 (q173_8 r) [(4, aI ij1), (3, aS sj2), (0, aS s)] ⟨[], [], []⟩
theorem ref06_IsFull_j2_step (ij1 : Int) (sj2 : ByteArray) (s : ByteArray) (r : Bool) (hw : ((decide (ij1 < (s.size : Int))) = true -> (0 <= ij1 /\ ij1 < (s.size : Int)) /\ ((((byteAt s ij1.toNat) != 46) = true -> (0 <= ij1 /\ ij1 <= (wI (ij1 + 1)) /\ (wI (ij1 + 1)) <= (s.size : Int)) /\ (((sj2.size + (s.extract ij1.toNat (wI (ij1 + 1)).toNat).size : Nat) : Int) <= 9223372036854775807 /\ (ref06_IsFull_j2 (wI (ij1 + 1)) (sj2 ++ (s.extract ij1.toNat (wI (ij1 + 1)).toNat)) s r))) /\ (((byteAt s ij1.toNat) != 46) = false -> ∃ y4, ref06_IsPart sj2 y4 /\ (((!y4) = true -> r = false) /\ ((!y4) = false -> ref06_IsFull_j2 (wI (ij1 + 1)) (⟨#[]⟩ : ByteArray) s r))))) /\ ((decide (ij1 < (s.size : Int))) = false -> ∃ y3, ref06_IsPart sj2 y3 /\ (r = y3))) : ref06_IsFull_j2 ij1 sj2 s r := by
 refine dl_unroll (d_seqQ (ds (va 2 [(9, aS s), (8, aI ij1)] (vo rfl (x_lenS s) rfl (va 1 [(11, aB (decide (ij1 < (s.size : Int))))] (ve (dw hw (fun _ hw => ?_) (fun _ hw => ?_))))))))
 ·refine d_skip (d_seqQ (d_blockQ (d_seqQ (ds (va 2 [(15, aI ij1), (14, aS s)] ?_)))))
  obtain ⟨h0, hw⟩ := hw
  refine vo rfl (x_idxS h0) rfl (va 1 [(17, aB ((byteAt s ij1.toNat) != 46))] (ve (dw hw (fun _ hw => ?_) (fun _ hw => ?_))))
  ·refine ds (va 5 [(22, aI (wI (ij1 + 1))), (20, aI ij1), (19, aS s), (18, aS sj2)] ?_)
   obtain ⟨h0, hw⟩ := hw
   refine vo rfl (x_sliceS h0) rfl ?_
   obtain ⟨h0, hw⟩ := hw
   exact vo rfl (x_cat h0) rfl (va 1 [(3, aS (sj2 ++ (s.extract ij1.toNat (wI (ij1 + 1)).toNat)))] (ve (d_exit (dr (va 3 [(4, aI (wI (ij1 + 1)))] (ve (jl0 hw)))))))
  refine d_skip (d_seqQ (ds (va 1 [(25, aS sj2)] ?_)))
  obtain ⟨y4, hy, hw⟩ := hw
  refine vo rfl (x_call hy pl176) rfl (va 1 [(27, aB (!y4))] (ve (dw hw (fun _ hw => ?_) (fun _ hw => ?_))))
  ·exact ds (va 1 [(2, aB false)] (ve (d_ret (rx hw (plr173 _)))))
  exact d_skip (dr (va 1 [(3, aE)] (ve (dr (va 3 [(4, aI (wI (ij1 + 1)))] (ve (jl0 hw)))))))
 refine d_exit (ds (va 1 [(28, aS sj2)] ?_))
 obtain ⟨y3, hy, hw⟩ := hw
 exact vo rfl (x_call hy pl176) rfl (va 1 [(2, aB y3)] (ve (d_ret (rx hw (plr173 _)))))
theorem ref06_IsFull_step (s : ByteArray) (r : Bool) (hw : ((decide (120 < (s.size : Int))) = true -> r = false) /\ ((decide (120 < (s.size : Int))) = false -> ref06_IsFull_j2 0 (⟨#[]⟩ : ByteArray) s r)) : ref06_IsFull s r := by
 refine f_pureD fn173 nle rfl (ds (va 1 [] (ve (d_seqQ (ds (va 1 [(5, aS s)] (vo rfl (x_lenS s) rfl (va 1 [(7, aB (decide (120 < (s.size : Int))))] (ve (dw hw (fun _ hw => ?_) (fun _ hw => ?_)))))))))))
 ·exact ds (va 1 [(2, aB false)] (ve (d_ret (rx hw (plr173 _)))))
 exact d_skip (ds (va 1 [(3, aE)] (ve (d_seqQ (ds (va 1 [(4, aI 0)] (ve (d_blockQ (d_loopQ (jl0 hw))))))))))
theorem plr174 (r : (ByteArray × ByteArray)) : plain (e174 r) = true := (ptup (pcons rfl (pcons rfl rfl)))
def r174_0 : LO := [o 2 (.mv (.c aE)), o 3 (.mv (.c aE))]
def r174_1 : LO := [o 5 (mv 0), o 6 (.len true (T 5)), o 7 (.bin .sub (T 6) (ci 1)), o 4 (mv 7)]
def r174_2 : LO := [o 8 (mv 4), o 9 (.bin .geq (T 8) (ci 0))]
def k174_1 : ACode := .cond (T 9) .skip (.exit 0)
def r174_7 : LO := [o 12 (mv 0), o 13 (mv 4), o 14 (.idxS (T 12) (T 13)), o 15 (.bin .eql (T 14) (.c (aC 46)))]
def r174_8 : LO := [o 16 (mv 0), o 17 (mv 4), o 18 (.sliceS (T 16) none (some (T 17))), o 19 (mv 0), o 20 (mv 4), o 21 (.bin .add (T 20) (ci 1)), o 22 (.sliceS (T 19) (some (T 21)) none), o 2 (mv 18)]
def r174_8t : LO := [o 3 (mv 22)]
def r174_8o : LN := [[], [], [0, 1], [], [], [4], [3, 5], [0, 1, 2]]
def k174_2 : ACode := .cond (T 15) (.seq (.drawn r174_8o r174_8 r174_8t) .ret) .skip
def r174_15 : LO := [o 10 (mv 4), o 11 (.bin .sub (T 10) (ci 1)), o 4 (mv 11)]
def k174_3 : ACode := .seq (.block 1 (.seq (.region r174_7) k174_2)) (.region r174_15)
def k174_4 : ACode := .seq (.seq (.region r174_2) k174_1) k174_3
def k174_5 : ACode := .block 0 (.loop k174_4)
def r174_21 : LO := [o 23 (mv 0), o 2 (.mv (.c aE)), o 3 (mv 23)]
def k174_6 : ACode := .seq (.region r174_21) .ret
def k174_7 : ACode := .seq (.seq (.region r174_1) k174_5) k174_6
def k174_8 : ACode := .seq (.region r174_0) k174_7
theorem fn174 : getFn Tryz.prog 174 = some (24, k174_8, [.tmp 2, .tmp 3]) := by kernel_rfl
def q174_0 (r : (ByteArray × ByteArray)) : QP := qret [.tmp 2, .tmp 3] (e174 r)
def q174_2 (r : (ByteArray × ByteArray)) : QP := tq Tryz.prog 24 k174_6 (q174_0 r)
def q174_4 (r : (ByteArray × ByteArray)) : QP := inBlockA 0 (q174_2 r)
def ref06_Split_j2 (ij1 : Int) (full : ByteArray) (r : (ByteArray × ByteArray)) : Prop := DL Tryz.prog 24 0 0 k174_4 (q174_4 r) [(4, aI ij1), (0, aS full)] ⟨[], [], []⟩
theorem ref06_Split_j2_step (ij1 : Int) (full : ByteArray) (r : (ByteArray × ByteArray)) (hw : ((decide (0 <= ij1)) = true -> (0 <= ij1 /\ ij1 < (full.size : Int)) /\ ((((byteAt full ij1.toNat) == 46) = true -> (0 <= (0 : Int) /\ (0 : Int) <= ij1 /\ ij1 <= (full.size : Int)) /\ ((0 <= (wI (ij1 + 1)) /\ (wI (ij1 + 1)) <= (full.size : Int) /\ (full.size : Int) <= (full.size : Int)) /\ (r = ((full.extract (0 : Int).toNat ij1.toNat), (full.extract (wI (ij1 + 1)).toNat (full.size : Int).toNat))))) /\ (((byteAt full ij1.toNat) == 46) = false -> ref06_Split_j2 (wI (ij1 - 1)) full r))) /\ ((decide (0 <= ij1)) = false -> r = ((⟨#[]⟩ : ByteArray), full))) : ref06_Split_j2 ij1 full r := by
 refine dl_unroll (d_seqQ (ds (va 2 [(9, aB (decide (0 <= ij1)))] (ve (dw hw (fun _ hw => ?_) (fun _ hw => ?_))))))
 ·refine d_skip (d_seqQ (d_blockQ (ds (va 2 [(13, aI ij1), (12, aS full)] ?_))))
  obtain ⟨h0, hw⟩ := hw
  refine vo rfl (x_idxS h0) rfl (va 1 [(15, aB ((byteAt full ij1.toNat) == 46))] (ve (dw hw (fun _ hw => ?_) (fun _ hw => ?_))))
  ·refine d_seqQ (dS [] (sa 0 2 [(17, aI ij1), (16, aS full)] ?_))
   obtain ⟨h0, hw⟩ := hw
   refine sq rfl (fun _ _ => x_sliceS h0) rfl (sa 0 3 [(21, aI (wI (ij1 + 1))), (19, aS full)] ?_)
   obtain ⟨h0, hw⟩ := hw
   exact sq rfl (fun _ _ => x_sliceS h0) rfl (sa 0 1 [(2, aS (full.extract (0 : Int).toNat ij1.toNat))] (send (vp_start' (va 1 [(3, aS (full.extract (wI (ij1 + 1)).toNat (full.size : Int).toNat))] (ve (d_ret (rx hw (plr174 _))))))))
  exact d_skip (dr (va 3 [(4, aI (wI (ij1 - 1)))] (ve (jl0 hw))))
 exact d_exit (ds (va 3 [(3, aS full), (2, aE)] (ve (d_ret (rx hw (plr174 _))))))
theorem ref06_Split_step (full : ByteArray) (r : (ByteArray × ByteArray)) (hw : ref06_Split_j2 (wI ((full.size : Int) - 1)) full r) : ref06_Split full r := by
 exact f_pureD fn174 nle rfl (ds (va 2 [] (ve (d_seqQ (ds (va 1 [(5, aS full)] (vo rfl (x_lenS full) rfl (va 2 [(4, aI (wI ((full.size : Int) - 1)))] (ve (d_blockQ (d_loopQ (jl0 hw))))))))))))
theorem plr175 (r : Bool) : plain (e175 r) = true := rfl
def r175_0 : LO := [o 2 (mb false)]
def r175_1 : LO := [o 3 (mv 0)]
def r175_2 : LO := [o 5 (.bin .eql (T 3) (.c (aS ⟨#[109, 101, 115, 115, 97, 103, 101]⟩))), o 4 (mv 5)]
def r175_4 : LO := [o 6 (.bin .eql (T 3) (.c (aS ⟨#[101, 110, 117, 109]⟩))), o 4 (mv 6)]
def r175_6 : LO := [o 7 (.bin .eql (T 3) (.c (aS ⟨#[115, 101, 114, 118, 105, 99, 101]⟩))), o 4 (mv 7)]
def r175_8 : LO := [o 8 (.bin .eql (T 3) (.c (aS ⟨#[117, 110, 105, 111, 110]⟩))), o 4 (mv 8)]
def r175_10 : LO := [o 9 (.bin .eql (T 3) (.c (aS ⟨#[109, 97, 112]⟩))), o 4 (mv 9)]
def r175_12 : LO := [o 10 (.bin .eql (T 3) (.c (aS ⟨#[108, 105, 115, 116]⟩))), o 4 (mv 10)]
def r175_14 : LO := [o 11 (.bin .eql (T 3) (.c (aS ⟨#[114, 101, 113, 117, 105, 114, 101, 100]⟩))), o 4 (mv 11)]
def r175_16 : LO := [o 12 (.bin .eql (T 3) (.c (aS ⟨#[111, 112, 116, 105, 111, 110, 97, 108]⟩))), o 4 (mv 12)]
def r175_18 : LO := [o 13 (.bin .eql (T 3) (.c (aS ⟨#[112, 108, 97, 105, 110]⟩))), o 4 (mv 13)]
def r175_20 : LO := [o 14 (.bin .eql (T 3) (.c (aS ⟨#[100, 101, 102, 97, 117, 108, 116]⟩))), o 4 (mv 14)]
def r175_22 : LO := [o 15 (.bin .eql (T 3) (.c (aS ⟨#[114, 101, 115, 101, 114, 118, 101, 100]⟩))), o 4 (mv 15)]
def r175_24 : LO := [o 16 (.bin .eql (T 3) (.c (aS ⟨#[105, 109, 112, 111, 114, 116]⟩))), o 4 (mv 16)]
def r175_26 : LO := [o 17 (.bin .eql (T 3) (.c (aS ⟨#[115, 112, 97, 99, 101]⟩))), o 4 (mv 17)]
def r175_28 : LO := [o 18 (.bin .eql (T 3) (.c (aS ⟨#[114, 112, 99]⟩))), o 4 (mv 18)]
def r175_30 : LO := [o 19 (.bin .eql (T 3) (.c (aS ⟨#[115, 116, 114, 101, 97, 109]⟩))), o 4 (mv 19)]
def r175_32 : LO := [o 20 (.bin .eql (T 3) (.c (aS ⟨#[114, 101, 116, 117, 114, 110, 115]⟩))), o 4 (mv 20)]
def r175_34 : LO := [o 21 (.bin .eql (T 3) (.c (aS ⟨#[111, 112, 101, 110]⟩))), o 4 (mv 21)]
def r175_36 : LO := [o 22 (.bin .eql (T 3) (.c (aS ⟨#[116, 114, 117, 101]⟩))), o 4 (mv 22)]
def r175_38 : LO := [o 23 (.bin .eql (T 3) (.c (aS ⟨#[102, 97, 108, 115, 101]⟩))), o 4 (mv 23)]
def r175_40 : LO := [o 24 (.bin .eql (T 3) (.c (aS ⟨#[110, 97, 110]⟩))), o 4 (mv 24)]
def r175_42 : LO := [o 25 (.bin .eql (T 3) (.c (aS ⟨#[105, 110, 102]⟩))), o 4 (mv 25)]
def k175_1 : ACode := .cond (T 4) .skip (.region r175_42)
def k175_2 : ACode := .cond (T 4) .skip (.seq (.region r175_40) k175_1)
def k175_3 : ACode := .cond (T 4) .skip (.seq (.region r175_38) k175_2)
def k175_4 : ACode := .seq (.region r175_36) k175_3
def k175_5 : ACode := .cond (T 4) .skip k175_4
def k175_6 : ACode := .cond (T 4) .skip (.seq (.region r175_34) k175_5)
def k175_7 : ACode := .cond (T 4) .skip (.seq (.region r175_32) k175_6)
def k175_8 : ACode := .seq (.region r175_30) k175_7
def k175_9 : ACode := .cond (T 4) .skip k175_8
def k175_10 : ACode := .cond (T 4) .skip (.seq (.region r175_28) k175_9)
def k175_11 : ACode := .cond (T 4) .skip (.seq (.region r175_26) k175_10)
def k175_12 : ACode := .seq (.region r175_24) k175_11
def k175_13 : ACode := .cond (T 4) .skip k175_12
def k175_14 : ACode := .cond (T 4) .skip (.seq (.region r175_22) k175_13)
def k175_15 : ACode := .cond (T 4) .skip (.seq (.region r175_20) k175_14)
def k175_16 : ACode := .seq (.region r175_18) k175_15
def k175_17 : ACode := .cond (T 4) .skip k175_16
def k175_18 : ACode := .cond (T 4) .skip (.seq (.region r175_16) k175_17)
def k175_19 : ACode := .cond (T 4) .skip (.seq (.region r175_14) k175_18)
def k175_20 : ACode := .seq (.region r175_12) k175_19
def k175_21 : ACode := .cond (T 4) .skip k175_20
def k175_22 : ACode := .cond (T 4) .skip (.seq (.region r175_10) k175_21)
def k175_23 : ACode := .cond (T 4) .skip (.seq (.region r175_8) k175_22)
def k175_24 : ACode := .seq (.region r175_6) k175_23
def k175_25 : ACode := .cond (T 4) .skip k175_24
def k175_26 : ACode := .cond (T 4) .skip (.seq (.region r175_4) k175_25)
def r175_83 : LO := [o 2 (mb true)]
def k175_27 : ACode := .cond (T 4) (.seq (.region r175_83) .ret) .skip
def k175_28 : ACode := .seq (.seq (.region r175_2) k175_26) k175_27
def k175_29 : ACode := .block 0 k175_28
def r175_91 : LO := [o 2 (mb false)]
def k175_30 : ACode := .seq (.region r175_91) .ret
def k175_31 : ACode := .seq (.seq (.region r175_1) k175_29) k175_30
def k175_32 : ACode := .seq (.region r175_0) k175_31
theorem fn175 : getFn Tryz.prog 175 = some (26, k175_32, [.tmp 2]) := by kernel_rfl
theorem ref06_IsWord_step (s : ByteArray) (r : Bool) (hw : ((decide (s = (⟨#[109, 101, 115, 115, 97, 103, 101]⟩ : ByteArray))) = true -> r = true) /\ ((decide (s = (⟨#[109, 101, 115, 115, 97, 103, 101]⟩ : ByteArray))) = false -> ((decide (s = (⟨#[101, 110, 117, 109]⟩ : ByteArray))) = true -> r = true) /\ ((decide (s = (⟨#[101, 110, 117, 109]⟩ : ByteArray))) = false -> ((decide (s = (⟨#[115, 101, 114, 118, 105, 99, 101]⟩ : ByteArray))) = true -> r = true) /\ ((decide (s = (⟨#[115, 101, 114, 118, 105, 99, 101]⟩ : ByteArray))) = false -> ((decide (s = (⟨#[117, 110, 105, 111, 110]⟩ : ByteArray))) = true -> r = true) /\ ((decide (s = (⟨#[117, 110, 105, 111, 110]⟩ : ByteArray))) = false -> ((decide (s = (⟨#[109, 97, 112]⟩ : ByteArray))) = true -> r = true) /\ ((decide (s = (⟨#[109, 97, 112]⟩ : ByteArray))) = false -> ((decide (s = (⟨#[108, 105, 115, 116]⟩ : ByteArray))) = true -> r = true) /\ ((decide (s = (⟨#[108, 105, 115, 116]⟩ : ByteArray))) = false -> ((decide (s = (⟨#[114, 101, 113, 117, 105, 114, 101, 100]⟩ : ByteArray))) = true -> r = true) /\ ((decide (s = (⟨#[114, 101, 113, 117, 105, 114, 101, 100]⟩ : ByteArray))) = false -> ((decide (s = (⟨#[111, 112, 116, 105, 111, 110, 97, 108]⟩ : ByteArray))) = true -> r = true) /\ ((decide (s = (⟨#[111, 112, 116, 105, 111, 110, 97, 108]⟩ : ByteArray))) = false -> ((decide (s = (⟨#[112, 108, 97, 105, 110]⟩ : ByteArray))) = true -> r = true) /\ ((decide (s = (⟨#[112, 108, 97, 105, 110]⟩ : ByteArray))) = false -> ((decide (s = (⟨#[100, 101, 102, 97, 117, 108, 116]⟩ : ByteArray))) = true -> r = true) /\ ((decide (s = (⟨#[100, 101, 102, 97, 117, 108, 116]⟩ : ByteArray))) = false -> ((decide (s = (⟨#[114, 101, 115, 101, 114, 118, 101, 100]⟩ : ByteArray))) = true -> r = true) /\ ((decide (s = (⟨#[114, 101, 115, 101, 114, 118, 101, 100]⟩ : ByteArray))) = false -> ((decide (s = (⟨#[105, 109, 112, 111, 114, 116]⟩ : ByteArray))) = true -> r = true) /\ ((decide (s = (⟨#[105, 109, 112, 111, 114, 116]⟩ : ByteArray))) = false -> ((decide (s = (⟨#[115, 112, 97, 99, 101]⟩ : ByteArray))) = true -> r = true) /\ ((decide (s = (⟨#[115, 112, 97, 99, 101]⟩ : ByteArray))) = false -> ((decide (s = (⟨#[114, 112, 99]⟩ : ByteArray))) = true -> r = true) /\ ((decide (s = (⟨#[114, 112, 99]⟩ : ByteArray))) = false -> ((decide (s = (⟨#[115, 116, 114, 101, 97, 109]⟩ : ByteArray))) = true -> r = true) /\ ((decide (s = (⟨#[115, 116, 114, 101, 97, 109]⟩ : ByteArray))) = false -> ((decide (s = (⟨#[114, 101, 116, 117, 114, 110, 115]⟩ : ByteArray))) = true -> r = true) /\ ((decide (s = (⟨#[114, 101, 116, 117, 114, 110, 115]⟩ : ByteArray))) = false -> ((decide (s = (⟨#[111, 112, 101, 110]⟩ : ByteArray))) = true -> r = true) /\ ((decide (s = (⟨#[111, 112, 101, 110]⟩ : ByteArray))) = false -> ((decide (s = (⟨#[116, 114, 117, 101]⟩ : ByteArray))) = true -> r = true) /\ ((decide (s = (⟨#[116, 114, 117, 101]⟩ : ByteArray))) = false -> ((decide (s = (⟨#[102, 97, 108, 115, 101]⟩ : ByteArray))) = true -> r = true) /\ ((decide (s = (⟨#[102, 97, 108, 115, 101]⟩ : ByteArray))) = false -> ((decide (s = (⟨#[110, 97, 110]⟩ : ByteArray))) = true -> r = true) /\ ((decide (s = (⟨#[110, 97, 110]⟩ : ByteArray))) = false -> ((decide (s = (⟨#[105, 110, 102]⟩ : ByteArray))) = true -> r = true) /\ ((decide (s = (⟨#[105, 110, 102]⟩ : ByteArray))) = false -> r = false)))))))))))))))))))))) : ref06_IsWord s r := by
 refine f_pureD fn175 nle rfl (ds (va 1 [] (ve (d_seqQ (ds (va 1 [(3, aS s)] (ve (d_blockQ (d_seqQ (ds (vo rfl (x_eqS s (⟨#[109, 101, 115, 115, 97, 103, 101]⟩ : ByteArray)) rfl (va 1 [(4, aB (decide (s = (⟨#[109, 101, 115, 115, 97, 103, 101]⟩ : ByteArray))))] (ve (dw hw (fun hb1 hw => ?_) (fun hb1 hw => ?_)))))))))))))))
 ·exact d_skip (dk (B := (decide (s = (⟨#[109, 101, 115, 115, 97, 103, 101]⟩ : ByteArray)))) hb1 (ds (va 1 [(2, aB true)] (ve (d_ret (rx hw (plr175 _)))))))
 refine ds (vo rfl (x_eqS s (⟨#[101, 110, 117, 109]⟩ : ByteArray)) rfl (va 1 [(4, aB (decide (s = (⟨#[101, 110, 117, 109]⟩ : ByteArray))))] (ve (dw hw (fun hb2 hw => ?_) (fun hb2 hw => ?_)))))
 ·exact d_skip (dk (B := (decide (s = (⟨#[101, 110, 117, 109]⟩ : ByteArray)))) hb2 (ds (va 1 [(2, aB true)] (ve (d_ret (rx hw (plr175 _)))))))
 refine ds (vo rfl (x_eqS s (⟨#[115, 101, 114, 118, 105, 99, 101]⟩ : ByteArray)) rfl (va 1 [(4, aB (decide (s = (⟨#[115, 101, 114, 118, 105, 99, 101]⟩ : ByteArray))))] (ve (dw hw (fun hb3 hw => ?_) (fun hb3 hw => ?_)))))
 ·exact d_skip (dk (B := (decide (s = (⟨#[115, 101, 114, 118, 105, 99, 101]⟩ : ByteArray)))) hb3 (ds (va 1 [(2, aB true)] (ve (d_ret (rx hw (plr175 _)))))))
 refine ds (vo rfl (x_eqS s (⟨#[117, 110, 105, 111, 110]⟩ : ByteArray)) rfl (va 1 [(4, aB (decide (s = (⟨#[117, 110, 105, 111, 110]⟩ : ByteArray))))] (ve (dw hw (fun hb4 hw => ?_) (fun hb4 hw => ?_)))))
 ·exact d_skip (dk (B := (decide (s = (⟨#[117, 110, 105, 111, 110]⟩ : ByteArray)))) hb4 (ds (va 1 [(2, aB true)] (ve (d_ret (rx hw (plr175 _)))))))
 refine ds (vo rfl (x_eqS s (⟨#[109, 97, 112]⟩ : ByteArray)) rfl (va 1 [(4, aB (decide (s = (⟨#[109, 97, 112]⟩ : ByteArray))))] (ve (dw hw (fun hb5 hw => ?_) (fun hb5 hw => ?_)))))
 ·exact d_skip (dk (B := (decide (s = (⟨#[109, 97, 112]⟩ : ByteArray)))) hb5 (ds (va 1 [(2, aB true)] (ve (d_ret (rx hw (plr175 _)))))))
 refine ds (vo rfl (x_eqS s (⟨#[108, 105, 115, 116]⟩ : ByteArray)) rfl (va 1 [(4, aB (decide (s = (⟨#[108, 105, 115, 116]⟩ : ByteArray))))] (ve (dw hw (fun hb6 hw => ?_) (fun hb6 hw => ?_)))))
 ·exact d_skip (dk (B := (decide (s = (⟨#[108, 105, 115, 116]⟩ : ByteArray)))) hb6 (ds (va 1 [(2, aB true)] (ve (d_ret (rx hw (plr175 _)))))))
 refine ds (vo rfl (x_eqS s (⟨#[114, 101, 113, 117, 105, 114, 101, 100]⟩ : ByteArray)) rfl (va 1 [(4, aB (decide (s = (⟨#[114, 101, 113, 117, 105, 114, 101, 100]⟩ : ByteArray))))] (ve (dw hw (fun hb7 hw => ?_) (fun hb7 hw => ?_)))))
 ·exact d_skip (dk (B := (decide (s = (⟨#[114, 101, 113, 117, 105, 114, 101, 100]⟩ : ByteArray)))) hb7 (ds (va 1 [(2, aB true)] (ve (d_ret (rx hw (plr175 _)))))))
 refine ds (vo rfl (x_eqS s (⟨#[111, 112, 116, 105, 111, 110, 97, 108]⟩ : ByteArray)) rfl (va 1 [(4, aB (decide (s = (⟨#[111, 112, 116, 105, 111, 110, 97, 108]⟩ : ByteArray))))] (ve (dw hw (fun hb8 hw => ?_) (fun hb8 hw => ?_)))))
 ·exact d_skip (dk (B := (decide (s = (⟨#[111, 112, 116, 105, 111, 110, 97, 108]⟩ : ByteArray)))) hb8 (ds (va 1 [(2, aB true)] (ve (d_ret (rx hw (plr175 _)))))))
 refine ds (vo rfl (x_eqS s (⟨#[112, 108, 97, 105, 110]⟩ : ByteArray)) rfl (va 1 [(4, aB (decide (s = (⟨#[112, 108, 97, 105, 110]⟩ : ByteArray))))] (ve (dw hw (fun hb9 hw => ?_) (fun hb9 hw => ?_)))))
 ·exact d_skip (dk (B := (decide (s = (⟨#[112, 108, 97, 105, 110]⟩ : ByteArray)))) hb9 (ds (va 1 [(2, aB true)] (ve (d_ret (rx hw (plr175 _)))))))
 refine ds (vo rfl (x_eqS s (⟨#[100, 101, 102, 97, 117, 108, 116]⟩ : ByteArray)) rfl (va 1 [(4, aB (decide (s = (⟨#[100, 101, 102, 97, 117, 108, 116]⟩ : ByteArray))))] (ve (dw hw (fun hb10 hw => ?_) (fun hb10 hw => ?_)))))
 ·exact d_skip (dk (B := (decide (s = (⟨#[100, 101, 102, 97, 117, 108, 116]⟩ : ByteArray)))) hb10 (ds (va 1 [(2, aB true)] (ve (d_ret (rx hw (plr175 _)))))))
 refine ds (vo rfl (x_eqS s (⟨#[114, 101, 115, 101, 114, 118, 101, 100]⟩ : ByteArray)) rfl (va 1 [(4, aB (decide (s = (⟨#[114, 101, 115, 101, 114, 118, 101, 100]⟩ : ByteArray))))] (ve (dw hw (fun hb11 hw => ?_) (fun hb11 hw => ?_)))))
 ·exact d_skip (dk (B := (decide (s = (⟨#[114, 101, 115, 101, 114, 118, 101, 100]⟩ : ByteArray)))) hb11 (ds (va 1 [(2, aB true)] (ve (d_ret (rx hw (plr175 _)))))))
 refine ds (vo rfl (x_eqS s (⟨#[105, 109, 112, 111, 114, 116]⟩ : ByteArray)) rfl (va 1 [(4, aB (decide (s = (⟨#[105, 109, 112, 111, 114, 116]⟩ : ByteArray))))] (ve (dw hw (fun hb12 hw => ?_) (fun hb12 hw => ?_)))))
 ·exact d_skip (dk (B := (decide (s = (⟨#[105, 109, 112, 111, 114, 116]⟩ : ByteArray)))) hb12 (ds (va 1 [(2, aB true)] (ve (d_ret (rx hw (plr175 _)))))))
 refine ds (vo rfl (x_eqS s (⟨#[115, 112, 97, 99, 101]⟩ : ByteArray)) rfl (va 1 [(4, aB (decide (s = (⟨#[115, 112, 97, 99, 101]⟩ : ByteArray))))] (ve (dw hw (fun hb13 hw => ?_) (fun hb13 hw => ?_)))))
 ·exact d_skip (dk (B := (decide (s = (⟨#[115, 112, 97, 99, 101]⟩ : ByteArray)))) hb13 (ds (va 1 [(2, aB true)] (ve (d_ret (rx hw (plr175 _)))))))
 refine ds (vo rfl (x_eqS s (⟨#[114, 112, 99]⟩ : ByteArray)) rfl (va 1 [(4, aB (decide (s = (⟨#[114, 112, 99]⟩ : ByteArray))))] (ve (dw hw (fun hb14 hw => ?_) (fun hb14 hw => ?_)))))
 ·exact d_skip (dk (B := (decide (s = (⟨#[114, 112, 99]⟩ : ByteArray)))) hb14 (ds (va 1 [(2, aB true)] (ve (d_ret (rx hw (plr175 _)))))))
 refine ds (vo rfl (x_eqS s (⟨#[115, 116, 114, 101, 97, 109]⟩ : ByteArray)) rfl (va 1 [(4, aB (decide (s = (⟨#[115, 116, 114, 101, 97, 109]⟩ : ByteArray))))] (ve (dw hw (fun hb15 hw => ?_) (fun hb15 hw => ?_)))))
 ·exact d_skip (dk (B := (decide (s = (⟨#[115, 116, 114, 101, 97, 109]⟩ : ByteArray)))) hb15 (ds (va 1 [(2, aB true)] (ve (d_ret (rx hw (plr175 _)))))))
 refine ds (vo rfl (x_eqS s (⟨#[114, 101, 116, 117, 114, 110, 115]⟩ : ByteArray)) rfl (va 1 [(4, aB (decide (s = (⟨#[114, 101, 116, 117, 114, 110, 115]⟩ : ByteArray))))] (ve (dw hw (fun hb16 hw => ?_) (fun hb16 hw => ?_)))))
 ·exact d_skip (dk (B := (decide (s = (⟨#[114, 101, 116, 117, 114, 110, 115]⟩ : ByteArray)))) hb16 (ds (va 1 [(2, aB true)] (ve (d_ret (rx hw (plr175 _)))))))
 refine ds (vo rfl (x_eqS s (⟨#[111, 112, 101, 110]⟩ : ByteArray)) rfl (va 1 [(4, aB (decide (s = (⟨#[111, 112, 101, 110]⟩ : ByteArray))))] (ve (dw hw (fun hb17 hw => ?_) (fun hb17 hw => ?_)))))
 ·exact d_skip (dk (B := (decide (s = (⟨#[111, 112, 101, 110]⟩ : ByteArray)))) hb17 (ds (va 1 [(2, aB true)] (ve (d_ret (rx hw (plr175 _)))))))
 refine ds (vo rfl (x_eqS s (⟨#[116, 114, 117, 101]⟩ : ByteArray)) rfl (va 1 [(4, aB (decide (s = (⟨#[116, 114, 117, 101]⟩ : ByteArray))))] (ve (dw hw (fun hb18 hw => ?_) (fun hb18 hw => ?_)))))
 ·exact d_skip (dk (B := (decide (s = (⟨#[116, 114, 117, 101]⟩ : ByteArray)))) hb18 (ds (va 1 [(2, aB true)] (ve (d_ret (rx hw (plr175 _)))))))
 refine ds (vo rfl (x_eqS s (⟨#[102, 97, 108, 115, 101]⟩ : ByteArray)) rfl (va 1 [(4, aB (decide (s = (⟨#[102, 97, 108, 115, 101]⟩ : ByteArray))))] (ve (dw hw (fun hb19 hw => ?_) (fun hb19 hw => ?_)))))
 ·exact d_skip (dk (B := (decide (s = (⟨#[102, 97, 108, 115, 101]⟩ : ByteArray)))) hb19 (ds (va 1 [(2, aB true)] (ve (d_ret (rx hw (plr175 _)))))))
 refine ds (vo rfl (x_eqS s (⟨#[110, 97, 110]⟩ : ByteArray)) rfl (va 1 [(4, aB (decide (s = (⟨#[110, 97, 110]⟩ : ByteArray))))] (ve (dw hw (fun hb20 hw => ?_) (fun hb20 hw => ?_)))))
 ·exact d_skip (dk (B := (decide (s = (⟨#[110, 97, 110]⟩ : ByteArray)))) hb20 (ds (va 1 [(2, aB true)] (ve (d_ret (rx hw (plr175 _)))))))
 refine dr (vo rfl (x_eqS s (⟨#[105, 110, 102]⟩ : ByteArray)) rfl (va 1 [(4, aB (decide (s = (⟨#[105, 110, 102]⟩ : ByteArray))))] (ve (dw hw (fun _ hw => ?_) (fun _ hw => ?_)))))
 ·exact ds (va 1 [(2, aB true)] (ve (d_ret (rx hw (plr175 _)))))
 exact d_skip (ds (va 1 [(2, aB false)] (ve (d_ret (rx hw (plr175 _))))))
theorem plr176 (r : Bool) : plain (e176 r) = true := rfl
def r176_0 : LO := [o 2 (mb false)]
def r176_1 : LO := [o 4 (mv 0), o 5 (.len true (T 4)), o 6 (.bin .eql (T 5) (ci 0)), o 7 (mv 6), og 8 (mv 0) 7 false, og 9 (.len true (T 8)) 7 false, og 10 (.bin .gtr (T 9) (ci 40)) 7 false, o 11 (.pick (T 7) (cb true) (T 10)), o 12 (mv 11), og 13 (mv 0) 12 false, og 14 (.idxS (T 13) (ci 0)) 12 false, og 15 (.call (cf 208) [(T 14)]) 12 false, og 16 (.un .not (T 15)) 12 false, og 17 (mv 16) 12 false, og 18 (mv 0) 17 true, og 19 (.idxS (T 18) (ci 0)) 17 true, og 20 (.call (cf 209) [(T 19)]) 17 true, og 21 (.un .not (T 20)) 17 true, og 22 (.pick (T 17) (T 21) (cb false)) 12 false, o 23 (.pick (T 12) (cb true) (T 22))]
def r176_2 : LO := [o 2 (mb false)]
def k176_1 : ACode := .cond (T 23) (.seq (.region r176_2) .ret) .skip
def k176_2 : ACode := .seq (.region r176_1) k176_1
def r176_8 : LO := [o 3 (mi 1)]
def r176_9 : LO := [o 24 (mv 3), o 25 (mv 0), o 26 (.len true (T 25)), o 27 (.bin .lss (T 24) (T 26))]
def k176_3 : ACode := .cond (T 27) .skip (.exit 0)
def r176_14 : LO := [o 30 (mv 0), o 31 (mv 3), o 32 (.idxS (T 30) (T 31)), o 33 (.call (cf 208) [(T 32)]), o 34 (.un .not (T 33)), o 35 (mv 34), og 36 (mv 0) 35 true, og 37 (mv 3) 35 true, og 38 (.idxS (T 36) (T 37)) 35 true, og 39 (.call (cf 209) [(T 38)]) 35 true, og 40 (.un .not (T 39)) 35 true, o 41 (.pick (T 35) (T 40) (cb false)), o 42 (mv 41), og 43 (mv 0) 42 true, og 44 (mv 3) 42 true, og 45 (.idxS (T 43) (T 44)) 42 true, og 46 (.bin .neq (T 45) (.c (aC 95))) 42 true, o 47 (.pick (T 42) (T 46) (cb false)), o 48 (mv 47), og 49 (mv 0) 48 true, og 50 (mv 3) 48 true, og 51 (.idxS (T 49) (T 50)) 48 true, og 52 (.bin .lss (T 51) (.c (aC 48))) 48 true, og 53 (mv 52) 48 true, og 54 (mv 0) 53 false, og 55 (mv 3) 53 false, og 56 (.idxS (T 54) (T 55)) 53 false, og 57 (.bin .gtr (T 56) (.c (aC 57))) 53 false, og 58 (.pick (T 53) (cb true) (T 57)) 48 true, o 59 (.pick (T 48) (T 58) (cb false))]
def r176_15 : LO := [o 2 (mb false)]
def k176_4 : ACode := .cond (T 59) (.seq (.region r176_15) .ret) .skip
def k176_5 : ACode := .seq (.region r176_14) k176_4
def r176_22 : LO := [o 28 (mv 3), o 29 (.bin .add (T 28) (ci 1)), o 3 (mv 29)]
def k176_6 : ACode := .seq (.block 1 k176_5) (.region r176_22)
def k176_7 : ACode := .seq (.seq (.region r176_9) k176_3) k176_6
def k176_8 : ACode := .block 0 (.loop k176_7)
def r176_28 : LO := [o 2 (mb true)]
def k176_9 : ACode := .seq (.region r176_28) .ret
def k176_10 : ACode := .seq (.seq (.region r176_8) k176_8) k176_9
def k176_11 : ACode := .seq k176_2 k176_10
def k176_12 : ACode := .seq (.region r176_0) k176_11
theorem fn176 : getFn Tryz.prog 176 = some (60, k176_12, [.tmp 2]) := by kernel_rfl
def q176_0 (r : Bool) : QP := qret [.tmp 2] (e176 r)
def q176_5 (r : Bool) : QP := tq Tryz.prog 60 k176_9 (q176_0 r)
def q176_7 (r : Bool) : QP := inBlockA 0 (q176_5 r)
def ref06_IsPart_j2 (ij1 : Int) (s : ByteArray) (r : Bool) : Prop := DL Tryz.prog 60 0 0 k176_7 (q176_7 r) [(3, aI ij1), (0, aS s)] ⟨[], [], []⟩
theorem ref06_IsPart_j2_step (ij1 : Int) (s : ByteArray) (r : Bool) (hw : ((decide (ij1 < (s.size : Int))) = true -> (0 <= ij1 /\ ij1 < (s.size : Int)) /\ (∃ y5, ref06_small (byteAt s ij1.toNat) y5 /\ (∃ R6 : Bool -> Prop, (∀ bz6 : Bool, R6 bz6 -> (∃ R7 : Bool -> Prop, (∀ bz7 : Bool, R7 bz7 -> ((bz7 = true -> (0 <= ij1 /\ ij1 < (s.size : Int)) /\ (∃ R8 : Bool -> Prop, (∀ bz8 : Bool, R8 bz8 -> ((bz8 = true -> r = false) /\ (bz8 = false -> ref06_IsPart_j2 (wI (ij1 + 1)) s r))) /\ (((decide ((byteAt s ij1.toNat) < 48)) = true -> R8 true) /\ ((decide ((byteAt s ij1.toNat) < 48)) = false -> (0 <= ij1 /\ ij1 < (s.size : Int)) /\ (R8 (decide (57 < (byteAt s ij1.toNat)))))))) /\ (bz7 = false -> ref06_IsPart_j2 (wI (ij1 + 1)) s r))) /\ ((bz6 = true -> (0 <= ij1 /\ ij1 < (s.size : Int)) /\ (R7 ((byteAt s ij1.toNat) != 95))) /\ (bz6 = false -> R7 false)))) /\ (((!y5) = true -> (0 <= ij1 /\ ij1 < (s.size : Int)) /\ (∃ y6, ref06_capital (byteAt s ij1.toNat) y6 /\ (R6 (!y6)))) /\ ((!y5) = false -> R6 false))))) /\ ((decide (ij1 < (s.size : Int))) = false -> r = true)) : ref06_IsPart_j2 ij1 s r := by
 refine dl_unroll (d_seqQ (ds (va 2 [(25, aS s), (24, aI ij1)] (vo rfl (x_lenS s) rfl (va 1 [(27, aB (decide (ij1 < (s.size : Int))))] (ve (dw hw (fun _ hw => ?_) (fun _ hw => ?_))))))))
 ·refine d_skip (d_seqQ (d_blockQ (ds (va 2 [(31, aI ij1), (30, aS s)] ?_))))
  obtain ⟨h0, hw⟩ := hw
  refine vo rfl (x_idxS h0) rfl ?_
  obtain ⟨y5, hy, hw⟩ := hw
  refine vo rfl (x_call hy pl208) rfl (va 2 [(35, aB (!y5))] ?_)
  obtain ⟨R6, hR, hw⟩ := hw
  refine vr 35 41 12 (!y5) R6 (fun bz6 => aB bz6) km_d (fun bz6 hz => ?_) (fun key => ⟨fun hb19 => ?_, fun hb19 => ?_⟩)
  ·have hw := hR bz6 hz
   refine va 1 [(42, aB bz6)] ?_
   obtain ⟨R7, hR, hw⟩ := hw
   refine vr 42 47 18 bz6 R7 (fun bz7 => aB bz7) km_d (fun bz7 hz => ?_) (fun key => ⟨fun hb21 => ?_, fun hb21 => ?_⟩)
   ·have hw := hR bz7 hz
    refine va 1 [(48, aB bz7)] (vw2 48 hw (fun _ hw => ?_) (fun _ hw => ?_))
    ·refine va 2 [(50, aI ij1), (49, aS s)] ?_
     obtain ⟨h0, hw⟩ := hw
     refine vo rfl (x_idxS h0) rfl (va 2 [(53, aB (decide ((byteAt s ij1.toNat) < 48)))] ?_)
     obtain ⟨R8, hR, hw⟩ := hw
     refine vr 53 58 29 (decide ((byteAt s ij1.toNat) < 48)) R8 (fun bz8 => aB bz8) km_d (fun bz8 hz => ?_) (fun key => ⟨fun hb25 => ?_, fun hb25 => ?_⟩)
     ·have hw := hR bz8 hz
      refine va 1 [(59, aB bz8)] (ve (dw hw (fun _ hw => ?_) (fun _ hw => ?_)))
      ·exact ds (va 1 [(2, aB false)] (ve (d_ret (rx hw (plr176 _)))))
      exact d_skip (dr (va 3 [(3, aI (wI (ij1 + 1)))] (ve (jl0 hw))))
     ·have hw := hw.1 hb25
      exact va 4 [(57, .tuple [])] (va 1 [(58, aB true)] (vle km_d (key _ hw)))
     ·have hw := hw.2 hb25
      refine va 2 [(55, aI ij1), (54, aS s)] ?_
      obtain ⟨h0, hw⟩ := hw
      exact vo rfl (x_idxS h0) rfl (va 1 [(57, aB (decide (57 < (byteAt s ij1.toNat))))] (va 1 [(58, aB (decide (57 < (byteAt s ij1.toNat))))] (vle km_d (key _ hw))))
    exact va 11 [(59, aB false)] (ve (df (d_skip (dr (va 3 [(3, aI (wI (ij1 + 1)))] (ve (jl0 hw)))))))
   ·have hw := hw.1 hb21
    refine va 2 [(44, aI ij1), (43, aS s)] ?_
    obtain ⟨h0, hw⟩ := hw
    exact vo rfl (x_idxS h0) rfl (va 1 [(46, aB ((byteAt s ij1.toNat) != 95))] (va 1 [(47, aB ((byteAt s ij1.toNat) != 95))] (vle km_d (key _ hw))))
   ·have hw := hw.2 hb21
    exact va 4 [(46, .tuple [])] (va 1 [(47, aB false)] (vle km_d (key _ hw)))
  ·have hw := hw.1 hb19
   refine va 2 [(37, aI ij1), (36, aS s)] ?_
   obtain ⟨h0, hw⟩ := hw
   refine vo rfl (x_idxS h0) rfl ?_
   obtain ⟨y6, hy, hw⟩ := hw
   exact vo rfl (x_call hy pl209) rfl (va 1 [(40, aB (!y6))] (va 1 [(41, aB (!y6))] (vle km_d (key _ hw))))
  ·have hw := hw.2 hb19
   exact va 5 [(40, .tuple [])] (va 1 [(41, aB false)] (vle km_d (key _ hw)))
 exact d_exit (ds (va 1 [(2, aB true)] (ve (d_ret (rx hw (plr176 _))))))
theorem ref06_IsPart_step (s : ByteArray) (r : Bool) (hw : ∃ R1 : Bool -> Prop, (∀ bz1 : Bool, R1 bz1 -> ((bz1 = true -> r = false) /\ (bz1 = false -> ref06_IsPart_j2 1 s r))) /\ (((((s.size : Int) == 0) || (decide (40 < (s.size : Int)))) = true -> R1 true) /\ ((((s.size : Int) == 0) || (decide (40 < (s.size : Int)))) = false -> (0 <= (0 : Int) /\ (0 : Int) < (s.size : Int)) /\ (∃ y1, ref06_small (byteAt s (0 : Int).toNat) y1 /\ (∃ R2 : Bool -> Prop, (∀ bz2 : Bool, R2 bz2 -> (R1 bz2)) /\ (((!y1) = true -> (0 <= (0 : Int) /\ (0 : Int) < (s.size : Int)) /\ (∃ y2, ref06_capital (byteAt s (0 : Int).toNat) y2 /\ (R2 (!y2)))) /\ ((!y1) = false -> R2 false))))))) : ref06_IsPart s r := by
 refine f_pureD fn176 nle rfl (ds (va 1 [] (ve (d_seqQ (ds (va 1 [(4, aS s)] (vo rfl (x_lenS s) rfl (va 2 [(7, aB ((s.size : Int) == 0))] (vj 7 11 8 ((s.size : Int) == 0) (fun z => aB (z || (decide (40 < (s.size : Int))))) km_d (fun _ key => ?_) (fun _ key => ?_) ?_)))))))))
 ·exact va 3 [(10, .tuple [])] (va 1 [(11, aB true)] (vle km_d key))
 ·exact va 1 [(8, aS s)] (vo rfl (x_lenS s) rfl (va 1 [(10, aB (decide (40 < (s.size : Int))))] (va 1 [(11, aB (decide (40 < (s.size : Int))))] (vle km_d key))))
 refine va 1 [(12, aB (((s.size : Int) == 0) || (decide (40 < (s.size : Int)))))] ?_
 obtain ⟨R1, hR, hw⟩ := hw
 refine vr 12 23 20 (((s.size : Int) == 0) || (decide (40 < (s.size : Int)))) R1 (fun bz1 => aB bz1) km_d (fun bz1 hz => ?_) (fun key => ⟨fun hb3 => ?_, fun hb3 => ?_⟩)
 ·have hw := hR bz1 hz
  refine ve (dw hw (fun _ hw => ?_) (fun _ hw => ?_))
  ·exact ds (va 1 [(2, aB false)] (ve (d_ret (rx hw (plr176 _)))))
  exact d_skip (d_seqQ (ds (va 1 [(3, aI 1)] (ve (d_blockQ (d_loopQ (jl0 hw)))))))
 ·have hw := hw.1 hb3
  exact va 10 [(22, .tuple [])] (va 1 [(23, aB true)] (vle km_d (key _ hw)))
 ·have hw := hw.2 hb3
  refine va 1 [(13, aS s)] ?_
  obtain ⟨h0, hw⟩ := hw
  refine vo rfl (x_idxS h0) rfl ?_
  obtain ⟨y1, hy, hw⟩ := hw
  refine vo rfl (x_call hy pl208) rfl (va 2 [(17, aB (!y1))] ?_)
  obtain ⟨R2, hR, hw⟩ := hw
  refine vr 17 22 19 (!y1) R2 (fun bz2 => aB bz2) km_d (fun bz2 hz => ?_) (fun key => ⟨fun hb5 => ?_, fun hb5 => ?_⟩)
  ·have hw := hR bz2 hz
   exact va 1 [(23, aB bz2)] (vle km_d (key _ hw))
  ·have hw := hw.1 hb5
   refine va 1 [(18, aS s)] ?_
   obtain ⟨h0, hw⟩ := hw
   refine vo rfl (x_idxS h0) rfl ?_
   obtain ⟨y2, hy, hw⟩ := hw
   exact vo rfl (x_call hy pl209) rfl (va 1 [(21, aB (!y2))] (va 1 [(22, aB (!y2))] (vle km_d (key _ hw))))
  ·have hw := hw.2 hb5
   exact va 4 [(21, .tuple [])] (va 1 [(22, aB false)] (vle km_d (key _ hw)))
theorem plr177 (r : Int) : plain (e177 r) = true := rfl
def r177_0 : LO := [o 2 (mi 0)]
def r177_1 : LO := [o 3 (mv 0)]
def r177_2 : LO := [o 5 (.bin .eql (T 3) (.c (aS ⟨#[100, 101, 112, 114, 101, 99, 97, 116, 101, 100]⟩))), o 4 (mv 5)]
def r177_4 : LO := [o 6 (.bin .eql (T 3) (.c (aS ⟨#[115, 101, 99, 114, 101, 116]⟩))), o 4 (mv 6)]
def r177_6 : LO := [o 7 (.bin .eql (T 3) (.c (aS ⟨#[105, 100, 101, 109, 112, 111, 116, 101, 110, 116]⟩))), o 4 (mv 7)]
def k177_1 : ACode := .cond (T 4) .skip (.region r177_6)
def k177_2 : ACode := .cond (T 4) .skip (.seq (.region r177_4) k177_1)
def r177_11 : LO := [o 2 (mi 1)]
def r177_14 : LO := [o 9 (.bin .eql (T 3) (.c (aS ⟨#[100, 111, 99]⟩))), o 8 (mv 9)]
def r177_16 : LO := [o 10 (.bin .eql (T 3) (.c (aS ⟨#[97, 108, 105, 97, 115]⟩))), o 8 (mv 10)]
def r177_18 : LO := [o 11 (.bin .eql (T 3) (.c (aS ⟨#[114, 111, 117, 116, 101]⟩))), o 8 (mv 11)]
def r177_20 : LO := [o 12 (.bin .eql (T 3) (.c (aS ⟨#[111, 119, 110, 101, 114]⟩))), o 8 (mv 12)]
def k177_3 : ACode := .cond (T 8) .skip (.region r177_20)
def k177_4 : ACode := .cond (T 8) .skip (.seq (.region r177_18) k177_3)
def k177_5 : ACode := .cond (T 8) .skip (.seq (.region r177_16) k177_4)
def k177_6 : ACode := .seq (.region r177_14) k177_5
def r177_27 : LO := [o 2 (mi 7)]
def r177_30 : LO := [o 14 (.bin .eql (T 3) (.c (aS ⟨#[115, 105, 110, 99, 101]⟩))), o 13 (mv 14)]
def r177_32 : LO := [o 15 (.bin .eql (T 3) (.c (aS ⟨#[117, 110, 116, 105, 108]⟩))), o 13 (mv 15)]
def r177_34 : LO := [o 16 (.bin .eql (T 3) (.c (aS ⟨#[108, 101, 110, 103, 116, 104]⟩))), o 13 (mv 16)]
def r177_36 : LO := [o 17 (.bin .eql (T 3) (.c (aS ⟨#[116, 105, 109, 101, 111, 117, 116]⟩))), o 13 (mv 17)]
def k177_7 : ACode := .cond (T 13) .skip (.region r177_36)
def k177_8 : ACode := .seq (.region r177_34) k177_7
def k177_9 : ACode := .cond (T 13) .skip k177_8
def k177_10 : ACode := .cond (T 13) .skip (.seq (.region r177_32) k177_9)
def r177_43 : LO := [o 2 (mi 4)]
def r177_46 : LO := [o 19 (.bin .eql (T 3) (.c (aS ⟨#[109, 105, 110]⟩))), o 18 (mv 19)]
def r177_48 : LO := [o 20 (.bin .eql (T 3) (.c (aS ⟨#[109, 97, 120]⟩))), o 18 (mv 20)]
def k177_11 : ACode := .cond (T 18) .skip (.region r177_48)
def k177_12 : ACode := .seq (.region r177_46) k177_11
def r177_51 : LO := [o 2 (mi 3)]
def k177_13 : ACode := .cond (T 18) (.seq (.region r177_51) .ret) .skip
def k177_14 : ACode := .seq k177_12 k177_13
def k177_15 : ACode := .cond (T 13) (.seq (.region r177_43) .ret) k177_14
def k177_16 : ACode := .seq (.seq (.region r177_30) k177_10) k177_15
def k177_17 : ACode := .cond (T 8) (.seq (.region r177_27) .ret) k177_16
def k177_18 : ACode := .seq k177_6 k177_17
def k177_19 : ACode := .cond (T 4) (.seq (.region r177_11) .ret) k177_18
def k177_20 : ACode := .seq (.seq (.region r177_2) k177_2) k177_19
def k177_21 : ACode := .block 0 k177_20
def r177_65 : LO := [o 2 (mi 0)]
def k177_22 : ACode := .seq (.region r177_65) .ret
def k177_23 : ACode := .seq (.seq (.region r177_1) k177_21) k177_22
def k177_24 : ACode := .seq (.region r177_0) k177_23
theorem fn177 : getFn Tryz.prog 177 = some (21, k177_24, [.tmp 2]) := by kernel_rfl
def q177_0 (r : Int) : QP := qret [.tmp 2] (e177 r)
def q177_2 (r : Int) : QP := tq Tryz.prog 21 k177_22 (q177_0 r)
def q177_4 (r : Int) : QP := inBlockA 0 (q177_2 r)
def ref08_Kind_j14 (bj7 : Bool) (name : ByteArray) (r : Int) : Prop := D Tryz.prog 21 0 0 k177_15 (q177_4 r) [(13, aB bj7), (3, aS name)] ⟨[], [], []⟩
def ref08_Kind_j12 (bj6 : Bool) (name : ByteArray) (r : Int) : Prop := D Tryz.prog 21 0 0 k177_17 (q177_4 r) [(8, aB bj6), (3, aS name)] ⟨[], [], []⟩
def ref08_Kind_j8 (bj4 : Bool) (name : ByteArray) (r : Int) : Prop := D Tryz.prog 21 0 0 k177_19 (q177_4 r) [(4, aB bj4), (3, aS name)] ⟨[], [], []⟩
theorem ref08_Kind_j14_step (bj7 : Bool) (name : ByteArray) (r : Int) (hw : (bj7 = true -> r = 4) /\ (bj7 = false -> ((decide (name = (⟨#[109, 105, 110]⟩ : ByteArray))) = true -> r = 3) /\ ((decide (name = (⟨#[109, 105, 110]⟩ : ByteArray))) = false -> ((decide (name = (⟨#[109, 97, 120]⟩ : ByteArray))) = true -> r = 3) /\ ((decide (name = (⟨#[109, 97, 120]⟩ : ByteArray))) = false -> r = 0)))) : ref08_Kind_j14 bj7 name r := by
 show D _ _ _ _ _ _ _ _
 refine dw hw (fun _ hw => ?_) (fun _ hw => ?_)
 ·exact ds (va 1 [(2, aI 4)] (ve (d_ret (rx hw (plr177 _)))))
 refine d_seqQ (ds (vo rfl (x_eqS name (⟨#[109, 105, 110]⟩ : ByteArray)) rfl (va 1 [(18, aB (decide (name = (⟨#[109, 105, 110]⟩ : ByteArray))))] (ve (dw hw (fun hb49 hw => ?_) (fun hb49 hw => ?_))))))
 ·exact d_skip (dk (B := (decide (name = (⟨#[109, 105, 110]⟩ : ByteArray)))) hb49 (ds (va 1 [(2, aI 3)] (ve (d_ret (rx hw (plr177 _)))))))
 refine dr (vo rfl (x_eqS name (⟨#[109, 97, 120]⟩ : ByteArray)) rfl (va 1 [(18, aB (decide (name = (⟨#[109, 97, 120]⟩ : ByteArray))))] (ve (dw hw (fun _ hw => ?_) (fun _ hw => ?_)))))
 ·exact ds (va 1 [(2, aI 3)] (ve (d_ret (rx hw (plr177 _)))))
 exact d_skip (ds (va 1 [(2, aI 0)] (ve (d_ret (rx hw (plr177 _))))))
theorem ref08_Kind_j12_step (bj6 : Bool) (name : ByteArray) (r : Int) (hw : (bj6 = true -> r = 7) /\ (bj6 = false -> ((decide (name = (⟨#[115, 105, 110, 99, 101]⟩ : ByteArray))) = true -> ref08_Kind_j14 (decide (name = (⟨#[115, 105, 110, 99, 101]⟩ : ByteArray))) name r) /\ ((decide (name = (⟨#[115, 105, 110, 99, 101]⟩ : ByteArray))) = false -> ((decide (name = (⟨#[117, 110, 116, 105, 108]⟩ : ByteArray))) = true -> ref08_Kind_j14 (decide (name = (⟨#[117, 110, 116, 105, 108]⟩ : ByteArray))) name r) /\ ((decide (name = (⟨#[117, 110, 116, 105, 108]⟩ : ByteArray))) = false -> ((decide (name = (⟨#[108, 101, 110, 103, 116, 104]⟩ : ByteArray))) = true -> ref08_Kind_j14 (decide (name = (⟨#[108, 101, 110, 103, 116, 104]⟩ : ByteArray))) name r) /\ ((decide (name = (⟨#[108, 101, 110, 103, 116, 104]⟩ : ByteArray))) = false -> ref08_Kind_j14 (decide (name = (⟨#[116, 105, 109, 101, 111, 117, 116]⟩ : ByteArray))) name r))))) : ref08_Kind_j12 bj6 name r := by
 show D _ _ _ _ _ _ _ _
 refine dw hw (fun _ hw => ?_) (fun _ hw => ?_)
 ·exact ds (va 1 [(2, aI 7)] (ve (d_ret (rx hw (plr177 _)))))
 refine d_seqQ (ds (vo rfl (x_eqS name (⟨#[115, 105, 110, 99, 101]⟩ : ByteArray)) rfl (va 1 [(13, aB (decide (name = (⟨#[115, 105, 110, 99, 101]⟩ : ByteArray))))] (ve (dw hw (fun _ hw => ?_) (fun _ hw => ?_))))))
 ·exact d_skip (jd0 hw)
 refine ds (vo rfl (x_eqS name (⟨#[117, 110, 116, 105, 108]⟩ : ByteArray)) rfl (va 1 [(13, aB (decide (name = (⟨#[117, 110, 116, 105, 108]⟩ : ByteArray))))] (ve (dw hw (fun _ hw => ?_) (fun _ hw => ?_)))))
 ·exact d_skip (jd0 hw)
 refine ds (vo rfl (x_eqS name (⟨#[108, 101, 110, 103, 116, 104]⟩ : ByteArray)) rfl (va 1 [(13, aB (decide (name = (⟨#[108, 101, 110, 103, 116, 104]⟩ : ByteArray))))] (ve (dw hw (fun _ hw => ?_) (fun _ hw => ?_)))))
 ·exact d_skip (jd0 hw)
 exact dr (vo rfl (x_eqS name (⟨#[116, 105, 109, 101, 111, 117, 116]⟩ : ByteArray)) rfl (va 1 [(13, aB (decide (name = (⟨#[116, 105, 109, 101, 111, 117, 116]⟩ : ByteArray))))] (ve (jd0 hw))))
theorem ref08_Kind_j8_step (bj4 : Bool) (name : ByteArray) (r : Int) (hw : (bj4 = true -> r = 1) /\ (bj4 = false -> ((decide (name = (⟨#[100, 111, 99]⟩ : ByteArray))) = true -> ref08_Kind_j12 (decide (name = (⟨#[100, 111, 99]⟩ : ByteArray))) name r) /\ ((decide (name = (⟨#[100, 111, 99]⟩ : ByteArray))) = false -> ((decide (name = (⟨#[97, 108, 105, 97, 115]⟩ : ByteArray))) = true -> ref08_Kind_j12 (decide (name = (⟨#[97, 108, 105, 97, 115]⟩ : ByteArray))) name r) /\ ((decide (name = (⟨#[97, 108, 105, 97, 115]⟩ : ByteArray))) = false -> ((decide (name = (⟨#[114, 111, 117, 116, 101]⟩ : ByteArray))) = true -> ref08_Kind_j12 (decide (name = (⟨#[114, 111, 117, 116, 101]⟩ : ByteArray))) name r) /\ ((decide (name = (⟨#[114, 111, 117, 116, 101]⟩ : ByteArray))) = false -> ref08_Kind_j12 (decide (name = (⟨#[111, 119, 110, 101, 114]⟩ : ByteArray))) name r))))) : ref08_Kind_j8 bj4 name r := by
 show D _ _ _ _ _ _ _ _
 refine dw hw (fun _ hw => ?_) (fun _ hw => ?_)
 ·exact ds (va 1 [(2, aI 1)] (ve (d_ret (rx hw (plr177 _)))))
 refine d_seqQ (ds (vo rfl (x_eqS name (⟨#[100, 111, 99]⟩ : ByteArray)) rfl (va 1 [(8, aB (decide (name = (⟨#[100, 111, 99]⟩ : ByteArray))))] (ve (dw hw (fun _ hw => ?_) (fun _ hw => ?_))))))
 ·exact d_skip (jd0 hw)
 refine ds (vo rfl (x_eqS name (⟨#[97, 108, 105, 97, 115]⟩ : ByteArray)) rfl (va 1 [(8, aB (decide (name = (⟨#[97, 108, 105, 97, 115]⟩ : ByteArray))))] (ve (dw hw (fun _ hw => ?_) (fun _ hw => ?_)))))
 ·exact d_skip (jd0 hw)
 refine ds (vo rfl (x_eqS name (⟨#[114, 111, 117, 116, 101]⟩ : ByteArray)) rfl (va 1 [(8, aB (decide (name = (⟨#[114, 111, 117, 116, 101]⟩ : ByteArray))))] (ve (dw hw (fun _ hw => ?_) (fun _ hw => ?_)))))
 ·exact d_skip (jd0 hw)
 exact dr (vo rfl (x_eqS name (⟨#[111, 119, 110, 101, 114]⟩ : ByteArray)) rfl (va 1 [(8, aB (decide (name = (⟨#[111, 119, 110, 101, 114]⟩ : ByteArray))))] (ve (jd0 hw))))
theorem ref08_Kind_step (name : ByteArray) (r : Int) (hw : ((decide (name = (⟨#[100, 101, 112, 114, 101, 99, 97, 116, 101, 100]⟩ : ByteArray))) = true -> ref08_Kind_j8 (decide (name = (⟨#[100, 101, 112, 114, 101, 99, 97, 116, 101, 100]⟩ : ByteArray))) name r) /\ ((decide (name = (⟨#[100, 101, 112, 114, 101, 99, 97, 116, 101, 100]⟩ : ByteArray))) = false -> ((decide (name = (⟨#[115, 101, 99, 114, 101, 116]⟩ : ByteArray))) = true -> ref08_Kind_j8 (decide (name = (⟨#[115, 101, 99, 114, 101, 116]⟩ : ByteArray))) name r) /\ ((decide (name = (⟨#[115, 101, 99, 114, 101, 116]⟩ : ByteArray))) = false -> ref08_Kind_j8 (decide (name = (⟨#[105, 100, 101, 109, 112, 111, 116, 101, 110, 116]⟩ : ByteArray))) name r))) : ref08_Kind name r := by
 refine f_pureD fn177 nle rfl (ds (va 1 [] (ve (d_seqQ (ds (va 1 [(3, aS name)] (ve (d_blockQ (d_seqQ (ds (vo rfl (x_eqS name (⟨#[100, 101, 112, 114, 101, 99, 97, 116, 101, 100]⟩ : ByteArray)) rfl (va 1 [(4, aB (decide (name = (⟨#[100, 101, 112, 114, 101, 99, 97, 116, 101, 100]⟩ : ByteArray))))] (ve (dw hw (fun _ hw => ?_) (fun _ hw => ?_)))))))))))))))
 ·exact d_skip (jd0 hw)
 refine ds (vo rfl (x_eqS name (⟨#[115, 101, 99, 114, 101, 116]⟩ : ByteArray)) rfl (va 1 [(4, aB (decide (name = (⟨#[115, 101, 99, 114, 101, 116]⟩ : ByteArray))))] (ve (dw hw (fun _ hw => ?_) (fun _ hw => ?_)))))
 ·exact d_skip (jd0 hw)
 exact dr (vo rfl (x_eqS name (⟨#[105, 100, 101, 109, 112, 111, 116, 101, 110, 116]⟩ : ByteArray)) rfl (va 1 [(4, aB (decide (name = (⟨#[105, 100, 101, 109, 112, 111, 116, 101, 110, 116]⟩ : ByteArray))))] (ve (jd0 hw))))
theorem plr178 (r : Bool) : plain (e178 r) = true := rfl
def r178_0 : LO := [o 4 (mb false)]
def r178_1 : LO := [o 5 (mv 0)]
def r178_2 : LO := [o 7 (.bin .eql (T 5) (.c (aS ⟨#[100, 101, 112, 114, 101, 99, 97, 116, 101, 100]⟩))), o 6 (mv 7)]
def r178_4 : LO := [o 8 (.bin .eql (T 5) (.c (aS ⟨#[100, 111, 99]⟩))), o 6 (mv 8)]
def k178_1 : ACode := .cond (T 6) .skip (.region r178_4)
def r178_7 : LO := [o 9 (mv 1), o 10 (.bin .geq (T 9) (ci 1)), o 11 (mv 10), og 12 (mv 1) 11 true, og 13 (.bin .leq (T 12) (ci 6)) 11 true, o 14 (.pick (T 11) (T 13) (cb false)), o 4 (mv 14)]
def r178_10 : LO := [o 16 (.bin .eql (T 5) (.c (aS ⟨#[97, 108, 105, 97, 115]⟩))), o 15 (mv 16)]
def r178_12 : LO := [o 17 (.bin .eql (T 5) (.c (aS ⟨#[115, 105, 110, 99, 101]⟩))), o 15 (mv 17)]
def r178_14 : LO := [o 18 (.bin .eql (T 5) (.c (aS ⟨#[117, 110, 116, 105, 108]⟩))), o 15 (mv 18)]
def k178_2 : ACode := .cond (T 15) .skip (.region r178_14)
def k178_3 : ACode := .seq (.region r178_12) k178_2
def k178_4 : ACode := .cond (T 15) .skip k178_3
def r178_19 : LO := [o 19 (mv 1), o 20 (.bin .eql (T 19) (ci 2)), o 21 (mv 20), og 22 (mv 1) 21 false, og 23 (.bin .eql (T 22) (ci 4)) 21 false, o 24 (.pick (T 21) (cb true) (T 23)), o 25 (mv 24), og 26 (mv 1) 25 false, og 27 (.bin .eql (T 26) (ci 6)) 25 false, o 28 (.pick (T 25) (cb true) (T 27)), o 4 (mv 28)]
def r178_22 : LO := [o 30 (.bin .eql (T 5) (.c (aS ⟨#[109, 105, 110]⟩))), o 29 (mv 30)]
def r178_24 : LO := [o 31 (.bin .eql (T 5) (.c (aS ⟨#[109, 97, 120]⟩))), o 29 (mv 31)]
def r178_26 : LO := [o 32 (.bin .eql (T 5) (.c (aS ⟨#[108, 101, 110, 103, 116, 104]⟩))), o 29 (mv 32)]
def r178_28 : LO := [o 33 (.bin .eql (T 5) (.c (aS ⟨#[115, 101, 99, 114, 101, 116]⟩))), o 29 (mv 33)]
def k178_5 : ACode := .cond (T 29) .skip (.region r178_28)
def k178_6 : ACode := .seq (.region r178_26) k178_5
def k178_7 : ACode := .cond (T 29) .skip k178_6
def k178_8 : ACode := .cond (T 29) .skip (.seq (.region r178_24) k178_7)
def r178_35 : LO := [o 34 (mv 1), o 35 (.bin .eql (T 34) (ci 2)), o 4 (mv 35)]
def r178_38 : LO := [o 37 (.bin .eql (T 5) (.c (aS ⟨#[105, 100, 101, 109, 112, 111, 116, 101, 110, 116]⟩))), o 36 (mv 37)]
def r178_40 : LO := [o 38 (.bin .eql (T 5) (.c (aS ⟨#[116, 105, 109, 101, 111, 117, 116]⟩))), o 36 (mv 38)]
def r178_42 : LO := [o 39 (.bin .eql (T 5) (.c (aS ⟨#[114, 111, 117, 116, 101]⟩))), o 36 (mv 39)]
def k178_9 : ACode := .cond (T 36) .skip (.region r178_42)
def k178_10 : ACode := .seq (.region r178_40) k178_9
def k178_11 : ACode := .cond (T 36) .skip k178_10
def r178_47 : LO := [o 40 (mv 1), o 41 (.bin .eql (T 40) (ci 6)), o 4 (mv 41)]
def k178_12 : ACode := .cond (T 36) (.seq (.region r178_47) .ret) .skip
def k178_13 : ACode := .seq (.seq (.region r178_38) k178_11) k178_12
def k178_14 : ACode := .cond (T 29) (.seq (.region r178_35) .ret) k178_13
def k178_15 : ACode := .seq (.seq (.region r178_22) k178_8) k178_14
def k178_16 : ACode := .cond (T 15) (.seq (.region r178_19) .ret) k178_15
def k178_17 : ACode := .seq (.seq (.region r178_10) k178_4) k178_16
def k178_18 : ACode := .cond (T 6) (.seq (.region r178_7) .ret) k178_17
def k178_19 : ACode := .seq (.seq (.region r178_2) k178_1) k178_18
def k178_20 : ACode := .block 0 k178_19
def r178_61 : LO := [o 42 (mv 1), o 43 (.bin .eql (T 42) (ci 1)), o 44 (mv 43), og 45 (mv 1) 44 false, og 46 (.bin .eql (T 45) (ci 5)) 44 false, o 47 (.pick (T 44) (cb true) (T 46)), o 4 (mv 47)]
def k178_21 : ACode := .seq (.region r178_61) .ret
def k178_22 : ACode := .seq (.seq (.region r178_1) k178_20) k178_21
def k178_23 : ACode := .seq (.region r178_0) k178_22
theorem fn178 : getFn Tryz.prog 178 = some (48, k178_23, [.tmp 4]) := by kernel_rfl
def q178_0 (r : Bool) : QP := qret [.tmp 4] (e178 r)
def q178_2 (r : Bool) : QP := tq Tryz.prog 48 k178_21 (q178_0 r)
def q178_4 (r : Bool) : QP := inBlockA 0 (q178_2 r)
def ref08_fits_j30 (bj15 : Bool) (target : Int) (r : Bool) : Prop := D Tryz.prog 48 0 0 k178_12 (q178_4 r) [(36, aB bj15), (1, aI target)] ⟨[], [], []⟩
def ref08_fits_j28 (bj14 : Bool) (name : ByteArray) (target : Int) (r : Bool) : Prop := D Tryz.prog 48 0 0 k178_14 (q178_4 r) [(29, aB bj14), (5, aS name), (1, aI target)] ⟨[], [], []⟩
def ref08_fits_j24 (bj12 : Bool) (name : ByteArray) (target : Int) (r : Bool) : Prop := D Tryz.prog 48 0 0 k178_16 (q178_4 r) [(15, aB bj12), (5, aS name), (1, aI target)] ⟨[], [], []⟩
def ref08_fits_j16 (bj8 : Bool) (name : ByteArray) (target : Int) (r : Bool) : Prop := D Tryz.prog 48 0 0 k178_18 (q178_4 r) [(6, aB bj8), (5, aS name), (1, aI target)] ⟨[], [], []⟩
theorem ref08_fits_j30_step (bj15 : Bool) (target : Int) (r : Bool) (hw : (bj15 = true -> r = (target == 6)) /\ (bj15 = false -> r = ((target == 1) || (target == 5)))) : ref08_fits_j30 bj15 target r := by
 show D _ _ _ _ _ _ _ _
 refine dw hw (fun _ hw => ?_) (fun _ hw => ?_)
 ·exact ds (va 3 [(4, aB (target == 6))] (ve (d_ret (rx hw (plr178 _)))))
 refine d_skip (ds (va 3 [(44, aB (target == 1))] (vj 44 47 6 (target == 1) (fun z => aB (z || (target == 5))) km_d (fun _ key => ?_) (fun _ key => ?_) ?_)))
 ·exact va 2 [(46, .tuple [])] (va 1 [(47, aB true)] (vle km_d key))
 ·exact va 2 [(46, aB (target == 5))] (va 1 [(47, aB (target == 5))] (vle km_d key))
 exact va 1 [(4, aB ((target == 1) || (target == 5)))] (ve (d_ret (rx hw (plr178 _))))
theorem ref08_fits_j28_step (bj14 : Bool) (name : ByteArray) (target : Int) (r : Bool) (hw : (bj14 = true -> r = (target == 2)) /\ (bj14 = false -> ((decide (name = (⟨#[105, 100, 101, 109, 112, 111, 116, 101, 110, 116]⟩ : ByteArray))) = true -> ref08_fits_j30 (decide (name = (⟨#[105, 100, 101, 109, 112, 111, 116, 101, 110, 116]⟩ : ByteArray))) target r) /\ ((decide (name = (⟨#[105, 100, 101, 109, 112, 111, 116, 101, 110, 116]⟩ : ByteArray))) = false -> ((decide (name = (⟨#[116, 105, 109, 101, 111, 117, 116]⟩ : ByteArray))) = true -> ref08_fits_j30 (decide (name = (⟨#[116, 105, 109, 101, 111, 117, 116]⟩ : ByteArray))) target r) /\ ((decide (name = (⟨#[116, 105, 109, 101, 111, 117, 116]⟩ : ByteArray))) = false -> ref08_fits_j30 (decide (name = (⟨#[114, 111, 117, 116, 101]⟩ : ByteArray))) target r)))) : ref08_fits_j28 bj14 name target r := by
 show D _ _ _ _ _ _ _ _
 refine dw hw (fun _ hw => ?_) (fun _ hw => ?_)
 ·exact ds (va 3 [(4, aB (target == 2))] (ve (d_ret (rx hw (plr178 _)))))
 refine d_seqQ (ds (vo rfl (x_eqS name (⟨#[105, 100, 101, 109, 112, 111, 116, 101, 110, 116]⟩ : ByteArray)) rfl (va 1 [(36, aB (decide (name = (⟨#[105, 100, 101, 109, 112, 111, 116, 101, 110, 116]⟩ : ByteArray))))] (ve (dw hw (fun _ hw => ?_) (fun _ hw => ?_))))))
 ·exact d_skip (jd0 hw)
 refine ds (vo rfl (x_eqS name (⟨#[116, 105, 109, 101, 111, 117, 116]⟩ : ByteArray)) rfl (va 1 [(36, aB (decide (name = (⟨#[116, 105, 109, 101, 111, 117, 116]⟩ : ByteArray))))] (ve (dw hw (fun _ hw => ?_) (fun _ hw => ?_)))))
 ·exact d_skip (jd0 hw)
 exact dr (vo rfl (x_eqS name (⟨#[114, 111, 117, 116, 101]⟩ : ByteArray)) rfl (va 1 [(36, aB (decide (name = (⟨#[114, 111, 117, 116, 101]⟩ : ByteArray))))] (ve (jd0 hw))))
theorem ref08_fits_j24_step (bj12 : Bool) (name : ByteArray) (target : Int) (r : Bool) (hw : (bj12 = true -> r = (((target == 2) || (target == 4)) || (target == 6))) /\ (bj12 = false -> ((decide (name = (⟨#[109, 105, 110]⟩ : ByteArray))) = true -> ref08_fits_j28 (decide (name = (⟨#[109, 105, 110]⟩ : ByteArray))) name target r) /\ ((decide (name = (⟨#[109, 105, 110]⟩ : ByteArray))) = false -> ((decide (name = (⟨#[109, 97, 120]⟩ : ByteArray))) = true -> ref08_fits_j28 (decide (name = (⟨#[109, 97, 120]⟩ : ByteArray))) name target r) /\ ((decide (name = (⟨#[109, 97, 120]⟩ : ByteArray))) = false -> ((decide (name = (⟨#[108, 101, 110, 103, 116, 104]⟩ : ByteArray))) = true -> ref08_fits_j28 (decide (name = (⟨#[108, 101, 110, 103, 116, 104]⟩ : ByteArray))) name target r) /\ ((decide (name = (⟨#[108, 101, 110, 103, 116, 104]⟩ : ByteArray))) = false -> ref08_fits_j28 (decide (name = (⟨#[115, 101, 99, 114, 101, 116]⟩ : ByteArray))) name target r))))) : ref08_fits_j24 bj12 name target r := by
 show D _ _ _ _ _ _ _ _
 refine dw hw (fun _ hw => ?_) (fun _ hw => ?_)
 ·refine ds (va 3 [(21, aB (target == 2))] (vj 21 24 6 (target == 2) (fun z => aB (z || (target == 4))) km_d (fun _ key => ?_) (fun _ key => ?_) ?_))
  ·exact va 2 [(23, .tuple [])] (va 1 [(24, aB true)] (vle km_d key))
  ·exact va 2 [(23, aB (target == 4))] (va 1 [(24, aB (target == 4))] (vle km_d key))
  refine va 1 [(25, aB ((target == 2) || (target == 4)))] (vj 25 28 10 ((target == 2) || (target == 4)) (fun z => aB (z || (target == 6))) km_d (fun _ key => ?_) (fun _ key => ?_) ?_)
  ·exact va 2 [(27, .tuple [])] (va 1 [(28, aB true)] (vle km_d key))
  ·exact va 2 [(27, aB (target == 6))] (va 1 [(28, aB (target == 6))] (vle km_d key))
  exact va 1 [(4, aB (((target == 2) || (target == 4)) || (target == 6)))] (ve (d_ret (rx hw (plr178 _))))
 refine d_seqQ (ds (vo rfl (x_eqS name (⟨#[109, 105, 110]⟩ : ByteArray)) rfl (va 1 [(29, aB (decide (name = (⟨#[109, 105, 110]⟩ : ByteArray))))] (ve (dw hw (fun _ hw => ?_) (fun _ hw => ?_))))))
 ·exact d_skip (jd0 hw)
 refine ds (vo rfl (x_eqS name (⟨#[109, 97, 120]⟩ : ByteArray)) rfl (va 1 [(29, aB (decide (name = (⟨#[109, 97, 120]⟩ : ByteArray))))] (ve (dw hw (fun _ hw => ?_) (fun _ hw => ?_)))))
 ·exact d_skip (jd0 hw)
 refine ds (vo rfl (x_eqS name (⟨#[108, 101, 110, 103, 116, 104]⟩ : ByteArray)) rfl (va 1 [(29, aB (decide (name = (⟨#[108, 101, 110, 103, 116, 104]⟩ : ByteArray))))] (ve (dw hw (fun _ hw => ?_) (fun _ hw => ?_)))))
 ·exact d_skip (jd0 hw)
 exact dr (vo rfl (x_eqS name (⟨#[115, 101, 99, 114, 101, 116]⟩ : ByteArray)) rfl (va 1 [(29, aB (decide (name = (⟨#[115, 101, 99, 114, 101, 116]⟩ : ByteArray))))] (ve (jd0 hw))))
theorem ref08_fits_j16_step (bj8 : Bool) (name : ByteArray) (target : Int) (r : Bool) (hw : (bj8 = true -> r = ((decide (1 <= target)) && (decide (target <= 6)))) /\ (bj8 = false -> ((decide (name = (⟨#[97, 108, 105, 97, 115]⟩ : ByteArray))) = true -> ref08_fits_j24 (decide (name = (⟨#[97, 108, 105, 97, 115]⟩ : ByteArray))) name target r) /\ ((decide (name = (⟨#[97, 108, 105, 97, 115]⟩ : ByteArray))) = false -> ((decide (name = (⟨#[115, 105, 110, 99, 101]⟩ : ByteArray))) = true -> ref08_fits_j24 (decide (name = (⟨#[115, 105, 110, 99, 101]⟩ : ByteArray))) name target r) /\ ((decide (name = (⟨#[115, 105, 110, 99, 101]⟩ : ByteArray))) = false -> ref08_fits_j24 (decide (name = (⟨#[117, 110, 116, 105, 108]⟩ : ByteArray))) name target r)))) : ref08_fits_j16 bj8 name target r := by
 show D _ _ _ _ _ _ _ _
 refine dw hw (fun _ hw => ?_) (fun _ hw => ?_)
 ·refine ds (va 3 [(11, aB (decide (1 <= target)))] (vj 11 14 6 (decide (1 <= target)) (fun z => aB (z && (decide (target <= 6)))) km_d (fun _ key => ?_) (fun _ key => ?_) ?_))
  ·exact va 2 [(13, aB (decide (target <= 6)))] (va 1 [(14, aB (decide (target <= 6)))] (vle km_d key))
  ·exact va 2 [(13, .tuple [])] (va 1 [(14, aB false)] (vle km_d key))
  exact va 1 [(4, aB ((decide (1 <= target)) && (decide (target <= 6))))] (ve (d_ret (rx hw (plr178 _))))
 refine d_seqQ (ds (vo rfl (x_eqS name (⟨#[97, 108, 105, 97, 115]⟩ : ByteArray)) rfl (va 1 [(15, aB (decide (name = (⟨#[97, 108, 105, 97, 115]⟩ : ByteArray))))] (ve (dw hw (fun _ hw => ?_) (fun _ hw => ?_))))))
 ·exact d_skip (jd0 hw)
 refine ds (vo rfl (x_eqS name (⟨#[115, 105, 110, 99, 101]⟩ : ByteArray)) rfl (va 1 [(15, aB (decide (name = (⟨#[115, 105, 110, 99, 101]⟩ : ByteArray))))] (ve (dw hw (fun _ hw => ?_) (fun _ hw => ?_)))))
 ·exact d_skip (jd0 hw)
 exact dr (vo rfl (x_eqS name (⟨#[117, 110, 116, 105, 108]⟩ : ByteArray)) rfl (va 1 [(15, aB (decide (name = (⟨#[117, 110, 116, 105, 108]⟩ : ByteArray))))] (ve (jd0 hw))))
theorem ref08_fits_step (name : ByteArray) (target : Int) (r : Bool) (hw : ((decide (name = (⟨#[100, 101, 112, 114, 101, 99, 97, 116, 101, 100]⟩ : ByteArray))) = true -> ref08_fits_j16 (decide (name = (⟨#[100, 101, 112, 114, 101, 99, 97, 116, 101, 100]⟩ : ByteArray))) name target r) /\ ((decide (name = (⟨#[100, 101, 112, 114, 101, 99, 97, 116, 101, 100]⟩ : ByteArray))) = false -> ref08_fits_j16 (decide (name = (⟨#[100, 111, 99]⟩ : ByteArray))) name target r)) : ref08_fits name target r := by
 refine f_pureD fn178 nle rfl (ds (va 1 [] (ve (d_seqQ (ds (va 1 [(5, aS name)] (ve (d_blockQ (d_seqQ (ds (vo rfl (x_eqS name (⟨#[100, 101, 112, 114, 101, 99, 97, 116, 101, 100]⟩ : ByteArray)) rfl (va 1 [(6, aB (decide (name = (⟨#[100, 101, 112, 114, 101, 99, 97, 116, 101, 100]⟩ : ByteArray))))] (ve (dw hw (fun _ hw => ?_) (fun _ hw => ?_)))))))))))))))
 ·exact d_skip (jd0 hw)
 exact dr (vo rfl (x_eqS name (⟨#[100, 111, 99]⟩ : ByteArray)) rfl (va 1 [(6, aB (decide (name = (⟨#[100, 111, 99]⟩ : ByteArray))))] (ve (jd0 hw))))
theorem plr179 (r : Bool) : plain (e179 r) = true := rfl
def r179_0 : LO := [o 1 (bx 0), o 2 (mb false)]
def r179_1 : LO := [o 4 (fa 0 1), o 5 (ld 4), o 6 (.call (cf 177) [(T 5)]), o 3 (mv 6)]
def r179_2 : LO := [o 7 (mv 3), o 8 (.bin .neq (T 7) (ci 0)), o 9 (mv 8), og 10 (fa 1 1) 9 true, og 11 (fa 0 10) 9 true, og 12 (ld 11) 9 true, og 13 (mv 3) 9 true, og 14 (.bin .eql (T 12) (T 13)) 9 true, o 15 (.pick (T 9) (T 14) (cb false)), o 16 (mv 15), og 17 (mv 3) 16 true, og 18 (fa 1 1) 16 true, og 19 (ln 7 18) 16 true, og 20 (.call (cf 45) [(T 17), (T 19)]) 16 true, o 21 (.pick (T 16) (T 20) (cb false)), o 2 (mv 21)]
def k179_1 : ACode := .seq (.region r179_2) .ret
def k179_2 : ACode := .seq (.region r179_1) k179_1
def k179_3 : ACode := .seq (.region r179_0) k179_2
theorem fn179 : getFn Tryz.prog 179 = some (22, k179_3, [.tmp 2]) := by kernel_rfl
theorem ref08_Right_step (n : GNote) (r : Bool) (hw : ∃ y1, ref08_Kind n.Name y1 /\ ((((y1 != 0) && (n.Val.Kind == y1)) = true -> ∃ y2, ref04_Fits y1 n.Val y2 /\ (r = y2)) /\ (((y1 != 0) && (n.Val.Kind == y1)) = false -> r = false))) : ref08_Right n r := by
 refine f_pureD fn179 nle rfl (ds (vg 2 [(1, .ptr 0 0)] [(eGNote n)] [] (ve (ds (va 2 [(5, aS n.Name)] ?_)))))
 obtain ⟨y1, hy, hw⟩ := hw
 refine vo rfl (x_call hy pl177) rfl (va 1 [(3, aI y1)] (ve (ds (va 3 [(9, aB (y1 != 0))] (vj 9 15 9 (y1 != 0) (fun z => aB (z && (n.Val.Kind == y1))) km_d (fun _ key => ?_) (fun _ key => ?_) ?_)))))
 ·exact va 5 [(14, aB (n.Val.Kind == y1))] (va 1 [(15, aB (n.Val.Kind == y1))] (vle km_d key))
 ·exact va 5 [(14, .tuple [])] (va 1 [(15, aB false)] (vle km_d key))
 refine va 1 [(16, aB ((y1 != 0) && (n.Val.Kind == y1)))] (vw2 16 hw (fun _ hw => ?_) (fun _ hw => ?_))
 ·refine va 3 [(19, .agg (eGValue n.Val)), (17, aI y1)] ?_
  obtain ⟨y2, hy, hw⟩ := hw
  exact vo rfl (x_call hy pl45) rfl (va 2 [(2, aB y2)] (ve (d_ret (rx hw (plr179 _)))))
 exact va 6 [(2, aB false)] (ve (d_ret (rx hw (plr179 _))))
theorem plr180 (r : Bool) : plain (e180 r) = true := rfl
def r180_0 : LO := [o 2 (bx 0), o 3 (bx 1), o 4 (mb false)]
def r180_1 : LO := [o 5 (fa 5 3), o 6 (ld 5)]
def r180_2 : LO := [o 8 (.bin .eql (T 6) (ci 10)), o 7 (mv 8)]
def r180_3 : LO := [o 9 (fa 6 3), o 10 (ld 9), o 11 (.bin .geq (T 10) (ci 0)), o 12 (mv 11), og 13 (fa 6 3) 12 true, og 14 (ld 13) 12 true, og 15 (fa 0 2) 12 true, og 16 (ld 15) 12 true, og 17 (.len false (T 16)) 12 true, og 18 (.bin .lss (T 14) (T 17)) 12 true, o 19 (.pick (T 12) (T 18) (cb false)), o 20 (mv 19), og 21 (fa 3 3) 20 true, og 22 (ld 21) 20 true, og 23 (.bin .neq (T 22) (ci 3)) 20 true, o 24 (.pick (T 20) (T 23) (cb false)), o 4 (mv 24)]
def r180_6 : LO := [o 26 (.bin .eql (T 6) (ci 9)), o 25 (mv 26)]
def r180_7 : LO := [o 27 (fa 6 3), o 28 (ld 27), o 29 (.bin .geq (T 28) (ci 0)), o 30 (mv 29), og 31 (fa 6 3) 30 true, og 32 (ld 31) 30 true, og 33 (fa 1 2) 30 true, og 34 (ld 33) 30 true, og 35 (.len false (T 34)) 30 true, og 36 (.bin .lss (T 32) (T 35)) 30 true, o 37 (.pick (T 30) (T 36) (cb false)), o 4 (mv 37)]
def k180_1 : ACode := .cond (T 25) (.seq (.region r180_7) .ret) .skip
def k180_2 : ACode := .seq (.region r180_6) k180_1
def k180_3 : ACode := .cond (T 7) (.seq (.region r180_3) .ret) k180_2
def k180_4 : ACode := .seq (.region r180_2) k180_3
def k180_5 : ACode := .block 0 k180_4
def r180_17 : LO := [o 38 (fa 6 3), o 39 (ld 38), o 40 (.bin .eql (T 39) (ci (-1))), o 4 (mv 40)]
def k180_6 : ACode := .seq (.region r180_17) .ret
def k180_7 : ACode := .seq (.seq (.region r180_1) k180_5) k180_6
def k180_8 : ACode := .seq (.region r180_0) k180_7
theorem fn180 : getFn Tryz.prog 180 = some (41, k180_8, [.tmp 4]) := by kernel_rfl
theorem ref22_target_step (p : GPlan) (o_ : GOp) (r : Bool) (hw : ((o_.Kind == 10) = true -> r = (((decide (0 <= o_.Target)) && (decide (o_.Target < (p.Progs.length : Int)))) && (o_.Card != 3))) /\ ((o_.Kind == 10) = false -> ((o_.Kind == 9) = true -> r = ((decide (0 <= o_.Target)) && (decide (o_.Target < (p.Enums.length : Int))))) /\ ((o_.Kind == 9) = false -> r = (o_.Target == (-1))))) : ref22_target p o_ r := by
 refine f_pureD fn180 nle rfl (ds (vg 3 [(3, .ptr 1 0), (2, .ptr 0 0)] [(eGPlan p), (eGOp o_)] [] (ve (d_seqQ (ds (va 2 [(6, aI o_.Kind)] (ve (d_blockQ (ds (va 2 [(7, aB (o_.Kind == 10))] (ve (dw hw (fun _ hw => ?_) (fun _ hw => ?_)))))))))))))
 ·refine ds (va 4 [(12, aB (decide (0 <= o_.Target)))] (vj 12 19 11 (decide (0 <= o_.Target)) (fun z => aB (z && (decide (o_.Target < (p.Progs.length : Int))))) km_d (fun _ key => ?_) (fun _ key => ?_) ?_))
  ·exact va 4 [(16, .sl (List.map eGProg p.Progs) .no), (14, aI o_.Target)] (vo rfl (x_len p.Progs eGProg) rfl (va 1 [(18, aB (decide (o_.Target < (p.Progs.length : Int))))] (va 1 [(19, aB (decide (o_.Target < (p.Progs.length : Int))))] (vle km_d key))))
  ·exact va 6 [(18, .tuple [])] (va 1 [(19, aB false)] (vle km_d key))
  refine va 1 [(20, aB ((decide (0 <= o_.Target)) && (decide (o_.Target < (p.Progs.length : Int)))))] (vj 20 24 16 ((decide (0 <= o_.Target)) && (decide (o_.Target < (p.Progs.length : Int)))) (fun z => aB (z && (o_.Card != 3))) km_d (fun _ key => ?_) (fun _ key => ?_) ?_)
  ·exact va 3 [(23, aB (o_.Card != 3))] (va 1 [(24, aB (o_.Card != 3))] (vle km_d key))
  ·exact va 3 [(23, .tuple [])] (va 1 [(24, aB false)] (vle km_d key))
  exact va 1 [(4, aB (((decide (0 <= o_.Target)) && (decide (o_.Target < (p.Progs.length : Int)))) && (o_.Card != 3)))] (ve (d_ret (rx hw (plr180 _))))
 refine ds (va 2 [(25, aB (o_.Kind == 9))] (ve (dw hw (fun _ hw => ?_) (fun _ hw => ?_))))
 ·refine ds (va 4 [(30, aB (decide (0 <= o_.Target)))] (vj 30 37 11 (decide (0 <= o_.Target)) (fun z => aB (z && (decide (o_.Target < (p.Enums.length : Int))))) km_d (fun _ key => ?_) (fun _ key => ?_) ?_))
  ·exact va 4 [(34, .sl (List.map eGEnum p.Enums) .no), (32, aI o_.Target)] (vo rfl (x_len p.Enums eGEnum) rfl (va 1 [(36, aB (decide (o_.Target < (p.Enums.length : Int))))] (va 1 [(37, aB (decide (o_.Target < (p.Enums.length : Int))))] (vle km_d key))))
  ·exact va 6 [(36, .tuple [])] (va 1 [(37, aB false)] (vle km_d key))
  exact va 1 [(4, aB ((decide (0 <= o_.Target)) && (decide (o_.Target < (p.Enums.length : Int)))))] (ve (d_ret (rx hw (plr180 _))))
 exact d_skip (ds (va 4 [(4, aB (o_.Target == (-1)))] (ve (d_ret (rx hw (plr180 _))))))
theorem plr181 (r : Bool) : plain (e181 r) = true := rfl
def r181_0 : LO := [o 6 (mb false)]
def r181_1 : LO := [o 7 (mv 2), o 8 (.bin .eql (T 7) (.c (.v (.int .i32 65533)))), o 9 (mv 8), og 10 (mv 0) 9 true, og 11 (mv 1) 9 true, og 12 (.sliceS (T 10) (some (T 11)) none) 9 true, og 13 (.call (cf 210) [(T 12), (.c (aS ⟨#[239, 191, 189]⟩))]) 9 true, og 14 (.un .not (T 13)) 9 true, o 15 (.pick (T 9) (T 14) (cb false)), o 6 (mv 15)]
def k181_1 : ACode := .seq (.region r181_1) .ret
def k181_2 : ACode := .seq (.region r181_0) k181_1
theorem fn181 : getFn Tryz.prog 181 = some (16, k181_2, [.tmp 6]) := by kernel_rfl
theorem utf_wrong_step (s : ByteArray) (at_ : Int) (c : Int) (r : Bool) (hw : ((c == 65533) = true -> (0 <= at_ /\ at_ <= (s.size : Int) /\ (s.size : Int) <= (s.size : Int)) /\ (∃ y1, strings_HasPrefix (s.extract at_.toNat (s.size : Int).toNat) (⟨#[239, 191, 189]⟩ : ByteArray) y1 /\ (r = (!y1)))) /\ ((c == 65533) = false -> r = false)) : utf_wrong s at_ c r := by
 refine f_pureD fn181 nle rfl (ds (va 1 [] (ve (ds (va 3 [(9, aB (c == 65533))] (vw2 9 hw (fun _ hw => ?_) (fun _ hw => ?_)))))))
 ·refine va 2 [(11, aI at_), (10, aS s)] ?_
  obtain ⟨h0, hw⟩ := hw
  refine vo rfl (x_sliceS h0) rfl ?_
  obtain ⟨y1, hy, hw⟩ := hw
  exact vo rfl (x_call hy pl210) rfl (va 3 [(6, aB (!y1))] (ve (d_ret (rx hw (plr181 _)))))
 exact va 7 [(6, aB false)] (ve (d_ret (rx hw (plr181 _))))
theorem plr182 (r : Int) : plain (e182 r) = true := rfl
def r182_0 : LO := [o 4 (mi 0)]
def r182_1 : LO := [o 6 (mv 0), o 7 (mv 1), o 8 (.idxS (T 6) (T 7)), o 5 (mv 8)]
def r182_2 : LO := [o 10 (mv 5), o 11 (.bin .lss (T 10) (.c (aC 128))), o 9 (mv 11)]
def r182_3 : LO := [o 4 (mi 1)]
def r182_6 : LO := [o 13 (mv 5), o 14 (.bin .geq (T 13) (.c (aC 194))), o 15 (mv 14), og 16 (mv 5) 15 true, og 17 (.bin .leq (T 16) (.c (aC 223))) 15 true, o 18 (.pick (T 15) (T 17) (cb false)), o 19 (mv 18), og 20 (mv 0) 19 true, og 21 (mv 1) 19 true, og 22 (.bin .add (T 21) (ci 1)) 19 true, og 23 (.call (cf 211) [(T 20), (T 22), (ci 1)]) 19 true, o 24 (.pick (T 19) (T 23) (cb false)), o 12 (mv 24)]
def r182_7 : LO := [o 4 (mi 2)]
def r182_10 : LO := [o 26 (mv 5), o 27 (.bin .eql (T 26) (.c (aC 224))), o 28 (mv 27), og 29 (mv 0) 28 true, og 30 (mv 1) 28 true, og 31 (.bin .add (T 30) (ci 1)) 28 true, og 32 (.call (cf 212) [(T 29), (T 31), (.c (aC 160)), (.c (aC 191))]) 28 true, o 33 (.pick (T 28) (T 32) (cb false)), o 34 (mv 33), og 35 (mv 0) 34 true, og 36 (mv 1) 34 true, og 37 (.bin .add (T 36) (ci 2)) 34 true, og 38 (.call (cf 211) [(T 35), (T 37), (ci 1)]) 34 true, o 39 (.pick (T 34) (T 38) (cb false)), o 25 (mv 39)]
def r182_11 : LO := [o 4 (mi 3)]
def r182_14 : LO := [o 41 (mv 5), o 42 (.bin .eql (T 41) (.c (aC 237))), o 43 (mv 42), og 44 (mv 0) 43 true, og 45 (mv 1) 43 true, og 46 (.bin .add (T 45) (ci 1)) 43 true, og 47 (.call (cf 212) [(T 44), (T 46), (.c (aC 128)), (.c (aC 159))]) 43 true, o 48 (.pick (T 43) (T 47) (cb false)), o 49 (mv 48), og 50 (mv 0) 49 true, og 51 (mv 1) 49 true, og 52 (.bin .add (T 51) (ci 2)) 49 true, og 53 (.call (cf 211) [(T 50), (T 52), (ci 1)]) 49 true, o 54 (.pick (T 49) (T 53) (cb false)), o 40 (mv 54)]
def r182_15 : LO := [o 4 (mi 3)]
def r182_18 : LO := [o 56 (mv 5), o 57 (.bin .geq (T 56) (.c (aC 225))), o 58 (mv 57), og 59 (mv 5) 58 true, og 60 (.bin .leq (T 59) (.c (aC 239))) 58 true, o 61 (.pick (T 58) (T 60) (cb false)), o 62 (mv 61), og 63 (mv 5) 62 true, og 64 (.bin .neq (T 63) (.c (aC 237))) 62 true, o 65 (.pick (T 62) (T 64) (cb false)), o 66 (mv 65), og 67 (mv 0) 66 true, og 68 (mv 1) 66 true, og 69 (.bin .add (T 68) (ci 1)) 66 true, og 70 (.call (cf 211) [(T 67), (T 69), (ci 2)]) 66 true, o 71 (.pick (T 66) (T 70) (cb false)), o 55 (mv 71)]
def r182_19 : LO := [o 4 (mi 3)]
def r182_22 : LO := [o 73 (mv 5), o 74 (.bin .eql (T 73) (.c (aC 240))), o 75 (mv 74), og 76 (mv 0) 75 true, og 77 (mv 1) 75 true, og 78 (.bin .add (T 77) (ci 1)) 75 true, og 79 (.call (cf 212) [(T 76), (T 78), (.c (aC 144)), (.c (aC 191))]) 75 true, o 80 (.pick (T 75) (T 79) (cb false)), o 81 (mv 80), og 82 (mv 0) 81 true, og 83 (mv 1) 81 true, og 84 (.bin .add (T 83) (ci 2)) 81 true, og 85 (.call (cf 211) [(T 82), (T 84), (ci 2)]) 81 true, o 86 (.pick (T 81) (T 85) (cb false)), o 72 (mv 86)]
def r182_23 : LO := [o 4 (mi 4)]
def r182_26 : LO := [o 88 (mv 5), o 89 (.bin .geq (T 88) (.c (aC 241))), o 90 (mv 89), og 91 (mv 5) 90 true, og 92 (.bin .leq (T 91) (.c (aC 243))) 90 true, o 93 (.pick (T 90) (T 92) (cb false)), o 94 (mv 93), og 95 (mv 0) 94 true, og 96 (mv 1) 94 true, og 97 (.bin .add (T 96) (ci 1)) 94 true, og 98 (.call (cf 211) [(T 95), (T 97), (ci 3)]) 94 true, o 99 (.pick (T 94) (T 98) (cb false)), o 87 (mv 99)]
def r182_27 : LO := [o 4 (mi 4)]
def r182_30 : LO := [o 101 (mv 5), o 102 (.bin .eql (T 101) (.c (aC 244))), o 103 (mv 102), og 104 (mv 0) 103 true, og 105 (mv 1) 103 true, og 106 (.bin .add (T 105) (ci 1)) 103 true, og 107 (.call (cf 212) [(T 104), (T 106), (.c (aC 128)), (.c (aC 143))]) 103 true, o 108 (.pick (T 103) (T 107) (cb false)), o 109 (mv 108), og 110 (mv 0) 109 true, og 111 (mv 1) 109 true, og 112 (.bin .add (T 111) (ci 2)) 109 true, og 113 (.call (cf 211) [(T 110), (T 112), (ci 2)]) 109 true, o 114 (.pick (T 109) (T 113) (cb false)), o 100 (mv 114)]
def r182_31 : LO := [o 4 (mi 4)]
def k182_1 : ACode := .cond (T 100) (.seq (.region r182_31) .ret) .skip
def k182_2 : ACode := .seq (.region r182_30) k182_1
def k182_3 : ACode := .cond (T 87) (.seq (.region r182_27) .ret) k182_2
def k182_4 : ACode := .seq (.region r182_26) k182_3
def k182_5 : ACode := .cond (T 72) (.seq (.region r182_23) .ret) k182_4
def k182_6 : ACode := .seq (.region r182_22) k182_5
def k182_7 : ACode := .cond (T 55) (.seq (.region r182_19) .ret) k182_6
def k182_8 : ACode := .seq (.region r182_18) k182_7
def k182_9 : ACode := .cond (T 40) (.seq (.region r182_15) .ret) k182_8
def k182_10 : ACode := .seq (.region r182_14) k182_9
def k182_11 : ACode := .cond (T 25) (.seq (.region r182_11) .ret) k182_10
def k182_12 : ACode := .seq (.region r182_10) k182_11
def k182_13 : ACode := .cond (T 12) (.seq (.region r182_7) .ret) k182_12
def k182_14 : ACode := .seq (.region r182_6) k182_13
def k182_15 : ACode := .cond (T 9) (.seq (.region r182_3) .ret) k182_14
def k182_16 : ACode := .seq (.region r182_2) k182_15
def r182_52 : LO := [o 4 (mi 0)]
def k182_17 : ACode := .seq (.region r182_52) .ret
def k182_18 : ACode := .seq (.block 0 k182_16) k182_17
def k182_19 : ACode := .seq (.region r182_1) k182_18
def k182_20 : ACode := .seq (.region r182_0) k182_19
theorem fn182 : getFn Tryz.prog 182 = some (115, k182_20, [.tmp 4]) := by kernel_rfl
theorem ref03_Size_step (s : ByteArray) (i : Int) (r : Int) (hw : (0 <= i /\ i < (s.size : Int)) /\ (((decide ((byteAt s i.toNat) < 128)) = true -> r = 1) /\ ((decide ((byteAt s i.toNat) < 128)) = false -> ∃ R1 : Bool -> Prop, (∀ bz1 : Bool, R1 bz1 -> ((bz1 = true -> r = 2) /\ (bz1 = false -> ∃ R2 : Bool -> Prop, (∀ bz2 : Bool, R2 bz2 -> (∃ R3 : Bool -> Prop, (∀ bz3 : Bool, R3 bz3 -> ((bz3 = true -> r = 3) /\ (bz3 = false -> ∃ R4 : Bool -> Prop, (∀ bz4 : Bool, R4 bz4 -> (∃ R5 : Bool -> Prop, (∀ bz5 : Bool, R5 bz5 -> ((bz5 = true -> r = 3) /\ (bz5 = false -> ∃ R6 : Bool -> Prop, (∀ bz6 : Bool, R6 bz6 -> ((bz6 = true -> r = 3) /\ (bz6 = false -> ∃ R7 : Bool -> Prop, (∀ bz7 : Bool, R7 bz7 -> (∃ R8 : Bool -> Prop, (∀ bz8 : Bool, R8 bz8 -> ((bz8 = true -> r = 4) /\ (bz8 = false -> ∃ R9 : Bool -> Prop, (∀ bz9 : Bool, R9 bz9 -> ((bz9 = true -> r = 4) /\ (bz9 = false -> ∃ R10 : Bool -> Prop, (∀ bz10 : Bool, R10 bz10 -> ((bz10 = true -> ∃ y11, ref03_tail s (wI (i + 2)) 2 y11 /\ ((y11 = true -> r = 4) /\ (y11 = false -> r = 0))) /\ (bz10 = false -> r = 0))) /\ ((((byteAt s i.toNat) == 244) = true -> ∃ y10, ref03_between s (wI (i + 1)) 128 143 y10 /\ (R10 y10)) /\ (((byteAt s i.toNat) == 244) = false -> R10 false))))) /\ ((((decide (241 <= (byteAt s i.toNat))) && (decide ((byteAt s i.toNat) <= 243))) = true -> ∃ y9, ref03_tail s (wI (i + 1)) 3 y9 /\ (R9 y9)) /\ (((decide (241 <= (byteAt s i.toNat))) && (decide ((byteAt s i.toNat) <= 243))) = false -> R9 false))))) /\ ((bz7 = true -> ∃ y8, ref03_tail s (wI (i + 2)) 2 y8 /\ (R8 y8)) /\ (bz7 = false -> R8 false)))) /\ ((((byteAt s i.toNat) == 240) = true -> ∃ y7, ref03_between s (wI (i + 1)) 144 191 y7 /\ (R7 y7)) /\ (((byteAt s i.toNat) == 240) = false -> R7 false))))) /\ (((((decide (225 <= (byteAt s i.toNat))) && (decide ((byteAt s i.toNat) <= 239))) && ((byteAt s i.toNat) != 237)) = true -> ∃ y6, ref03_tail s (wI (i + 1)) 2 y6 /\ (R6 y6)) /\ ((((decide (225 <= (byteAt s i.toNat))) && (decide ((byteAt s i.toNat) <= 239))) && ((byteAt s i.toNat) != 237)) = false -> R6 false))))) /\ ((bz4 = true -> ∃ y5, ref03_tail s (wI (i + 2)) 1 y5 /\ (R5 y5)) /\ (bz4 = false -> R5 false)))) /\ ((((byteAt s i.toNat) == 237) = true -> ∃ y4, ref03_between s (wI (i + 1)) 128 159 y4 /\ (R4 y4)) /\ (((byteAt s i.toNat) == 237) = false -> R4 false))))) /\ ((bz2 = true -> ∃ y3, ref03_tail s (wI (i + 2)) 1 y3 /\ (R3 y3)) /\ (bz2 = false -> R3 false)))) /\ ((((byteAt s i.toNat) == 224) = true -> ∃ y2, ref03_between s (wI (i + 1)) 160 191 y2 /\ (R2 y2)) /\ (((byteAt s i.toNat) == 224) = false -> R2 false))))) /\ ((((decide (194 <= (byteAt s i.toNat))) && (decide ((byteAt s i.toNat) <= 223))) = true -> ∃ y1, ref03_tail s (wI (i + 1)) 1 y1 /\ (R1 y1)) /\ (((decide (194 <= (byteAt s i.toNat))) && (decide ((byteAt s i.toNat) <= 223))) = false -> R1 false))))) : ref03_Size s i r := by
 refine f_pureD fn182 nle rfl (ds (va 1 [] (ve (ds (va 2 [(7, aI i), (6, aS s)] ?_)))))
 obtain ⟨h0, hw⟩ := hw
 refine vo rfl (x_idxS h0) rfl (va 1 [(5, aC (byteAt s i.toNat))] (ve (d_seqQ (d_blockQ (ds (va 3 [(9, aB (decide ((byteAt s i.toNat) < 128)))] (ve (dw hw (fun _ hw => ?_) (fun _ hw => ?_)))))))))
 ·exact ds (va 1 [(4, aI 1)] (ve (d_ret (rx hw (plr182 _)))))
 refine ds (va 3 [(15, aB (decide (194 <= (byteAt s i.toNat))))] (vj 15 18 6 (decide (194 <= (byteAt s i.toNat))) (fun z => aB (z && (decide ((byteAt s i.toNat) <= 223)))) km_d (fun _ key => ?_) (fun _ key => ?_) ?_))
 ·exact va 2 [(17, aB (decide ((byteAt s i.toNat) <= 223)))] (va 1 [(18, aB (decide ((byteAt s i.toNat) <= 223)))] (vle km_d key))
 ·exact va 2 [(17, .tuple [])] (va 1 [(18, aB false)] (vle km_d key))
 refine va 1 [(19, aB ((decide (194 <= (byteAt s i.toNat))) && (decide ((byteAt s i.toNat) <= 223))))] ?_
 obtain ⟨R1, hR, hw⟩ := hw
 refine vr 19 24 12 ((decide (194 <= (byteAt s i.toNat))) && (decide ((byteAt s i.toNat) <= 223))) R1 (fun bz1 => aB bz1) km_d (fun bz1 hz => ?_) (fun key => ⟨fun hb4 => ?_, fun hb4 => ?_⟩)
 ·have hw := hR bz1 hz
  refine va 1 [(12, aB bz1)] (ve (dw hw (fun _ hw => ?_) (fun _ hw => ?_)))
  ·exact ds (va 1 [(4, aI 2)] (ve (d_ret (rx hw (plr182 _)))))
  refine ds (va 3 [(28, aB ((byteAt s i.toNat) == 224))] ?_)
  obtain ⟨R2, hR, hw⟩ := hw
  refine vr 28 33 8 ((byteAt s i.toNat) == 224) R2 (fun bz2 => aB bz2) km_d (fun bz2 hz => ?_) (fun key => ⟨fun hb7 => ?_, fun hb7 => ?_⟩)
  ·have hw := hR bz2 hz
   refine va 1 [(34, aB bz2)] ?_
   obtain ⟨R3, hR, hw⟩ := hw
   refine vr 34 39 14 bz2 R3 (fun bz3 => aB bz3) km_d (fun bz3 hz => ?_) (fun key => ⟨fun hb9 => ?_, fun hb9 => ?_⟩)
   ·have hw := hR bz3 hz
    refine va 1 [(25, aB bz3)] (ve (dw hw (fun _ hw => ?_) (fun _ hw => ?_)))
    ·exact ds (va 1 [(4, aI 3)] (ve (d_ret (rx hw (plr182 _)))))
    refine ds (va 3 [(43, aB ((byteAt s i.toNat) == 237))] ?_)
    obtain ⟨R4, hR, hw⟩ := hw
    refine vr 43 48 8 ((byteAt s i.toNat) == 237) R4 (fun bz4 => aB bz4) km_d (fun bz4 hz => ?_) (fun key => ⟨fun hb12 => ?_, fun hb12 => ?_⟩)
    ·have hw := hR bz4 hz
     refine va 1 [(49, aB bz4)] ?_
     obtain ⟨R5, hR, hw⟩ := hw
     refine vr 49 54 14 bz4 R5 (fun bz5 => aB bz5) km_d (fun bz5 hz => ?_) (fun key => ⟨fun hb14 => ?_, fun hb14 => ?_⟩)
     ·have hw := hR bz5 hz
      refine va 1 [(40, aB bz5)] (ve (dw hw (fun _ hw => ?_) (fun _ hw => ?_)))
      ·exact ds (va 1 [(4, aI 3)] (ve (d_ret (rx hw (plr182 _)))))
      refine ds (va 3 [(58, aB (decide (225 <= (byteAt s i.toNat))))] (vj 58 61 6 (decide (225 <= (byteAt s i.toNat))) (fun z => aB (z && (decide ((byteAt s i.toNat) <= 239)))) km_d (fun _ key => ?_) (fun _ key => ?_) ?_))
      ·exact va 2 [(60, aB (decide ((byteAt s i.toNat) <= 239)))] (va 1 [(61, aB (decide ((byteAt s i.toNat) <= 239)))] (vle km_d key))
      ·exact va 2 [(60, .tuple [])] (va 1 [(61, aB false)] (vle km_d key))
      refine va 1 [(62, aB ((decide (225 <= (byteAt s i.toNat))) && (decide ((byteAt s i.toNat) <= 239))))] (vj 62 65 10 ((decide (225 <= (byteAt s i.toNat))) && (decide ((byteAt s i.toNat) <= 239))) (fun z => aB (z && ((byteAt s i.toNat) != 237))) km_d (fun _ key => ?_) (fun _ key => ?_) ?_)
      ·exact va 2 [(64, aB ((byteAt s i.toNat) != 237))] (va 1 [(65, aB ((byteAt s i.toNat) != 237))] (vle km_d key))
      ·exact va 2 [(64, .tuple [])] (va 1 [(65, aB false)] (vle km_d key))
      refine va 1 [(66, aB (((decide (225 <= (byteAt s i.toNat))) && (decide ((byteAt s i.toNat) <= 239))) && ((byteAt s i.toNat) != 237)))] ?_
      obtain ⟨R6, hR, hw⟩ := hw
      refine vr 66 71 16 (((decide (225 <= (byteAt s i.toNat))) && (decide ((byteAt s i.toNat) <= 239))) && ((byteAt s i.toNat) != 237)) R6 (fun bz6 => aB bz6) km_d (fun bz6 hz => ?_) (fun key => ⟨fun hb19 => ?_, fun hb19 => ?_⟩)
      ·have hw := hR bz6 hz
       refine va 1 [(55, aB bz6)] (ve (dw hw (fun _ hw => ?_) (fun _ hw => ?_)))
       ·exact ds (va 1 [(4, aI 3)] (ve (d_ret (rx hw (plr182 _)))))
       refine ds (va 3 [(75, aB ((byteAt s i.toNat) == 240))] ?_)
       obtain ⟨R7, hR, hw⟩ := hw
       refine vr 75 80 8 ((byteAt s i.toNat) == 240) R7 (fun bz7 => aB bz7) km_d (fun bz7 hz => ?_) (fun key => ⟨fun hb22 => ?_, fun hb22 => ?_⟩)
       ·have hw := hR bz7 hz
        refine va 1 [(81, aB bz7)] ?_
        obtain ⟨R8, hR, hw⟩ := hw
        refine vr 81 86 14 bz7 R8 (fun bz8 => aB bz8) km_d (fun bz8 hz => ?_) (fun key => ⟨fun hb24 => ?_, fun hb24 => ?_⟩)
        ·have hw := hR bz8 hz
         refine va 1 [(72, aB bz8)] (ve (dw hw (fun _ hw => ?_) (fun _ hw => ?_)))
         ·exact ds (va 1 [(4, aI 4)] (ve (d_ret (rx hw (plr182 _)))))
         refine ds (va 3 [(90, aB (decide (241 <= (byteAt s i.toNat))))] (vj 90 93 6 (decide (241 <= (byteAt s i.toNat))) (fun z => aB (z && (decide ((byteAt s i.toNat) <= 243)))) km_d (fun _ key => ?_) (fun _ key => ?_) ?_))
         ·exact va 2 [(92, aB (decide ((byteAt s i.toNat) <= 243)))] (va 1 [(93, aB (decide ((byteAt s i.toNat) <= 243)))] (vle km_d key))
         ·exact va 2 [(92, .tuple [])] (va 1 [(93, aB false)] (vle km_d key))
         refine va 1 [(94, aB ((decide (241 <= (byteAt s i.toNat))) && (decide ((byteAt s i.toNat) <= 243))))] ?_
         obtain ⟨R9, hR, hw⟩ := hw
         refine vr 94 99 12 ((decide (241 <= (byteAt s i.toNat))) && (decide ((byteAt s i.toNat) <= 243))) R9 (fun bz9 => aB bz9) km_d (fun bz9 hz => ?_) (fun key => ⟨fun hb28 => ?_, fun hb28 => ?_⟩)
         ·have hw := hR bz9 hz
          refine va 1 [(87, aB bz9)] (ve (dw hw (fun _ hw => ?_) (fun _ hw => ?_)))
          ·exact ds (va 1 [(4, aI 4)] (ve (d_ret (rx hw (plr182 _)))))
          refine ds (va 3 [(103, aB ((byteAt s i.toNat) == 244))] ?_)
          obtain ⟨R10, hR, hw⟩ := hw
          refine vr 103 108 8 ((byteAt s i.toNat) == 244) R10 (fun bz10 => aB bz10) km_d (fun bz10 hz => ?_) (fun key => ⟨fun hb31 => ?_, fun hb31 => ?_⟩)
          ·have hw := hR bz10 hz
           refine va 1 [(109, aB bz10)] (vw2 109 hw (fun _ hw => ?_) (fun _ hw => ?_))
           ·refine va 3 [(112, aI (wI (i + 2))), (110, aS s)] ?_
            obtain ⟨y11, hy, hw⟩ := hw
            refine vo rfl (x_call hy pl211) rfl (va 2 [(100, aB y11)] (ve (dw hw (fun _ hw => ?_) (fun _ hw => ?_))))
            ·exact ds (va 1 [(4, aI 4)] (ve (d_ret (rx hw (plr182 _)))))
            exact d_skip (ds (va 1 [(4, aI 0)] (ve (d_ret (rx hw (plr182 _))))))
           exact va 6 [(100, aB false)] (ve (df (d_skip (ds (va 1 [(4, aI 0)] (ve (d_ret (rx hw (plr182 _)))))))))
          ·have hw := hw.1 hb31
           refine va 3 [(106, aI (wI (i + 1))), (104, aS s)] ?_
           obtain ⟨y10, hy, hw⟩ := hw
           exact vo rfl (x_call hy pl212) rfl (va 1 [(108, aB y10)] (vle km_d (key _ hw)))
          ·have hw := hw.2 hb31
           exact va 4 [(107, .tuple [])] (va 1 [(108, aB false)] (vle km_d (key _ hw)))
         ·have hw := hw.1 hb28
          refine va 3 [(97, aI (wI (i + 1))), (95, aS s)] ?_
          obtain ⟨y9, hy, hw⟩ := hw
          exact vo rfl (x_call hy pl211) rfl (va 1 [(99, aB y9)] (vle km_d (key _ hw)))
         ·have hw := hw.2 hb28
          exact va 4 [(98, .tuple [])] (va 1 [(99, aB false)] (vle km_d (key _ hw)))
        ·have hw := hw.1 hb24
         refine va 3 [(84, aI (wI (i + 2))), (82, aS s)] ?_
         obtain ⟨y8, hy, hw⟩ := hw
         exact vo rfl (x_call hy pl211) rfl (va 1 [(86, aB y8)] (vle km_d (key _ hw)))
        ·have hw := hw.2 hb24
         exact va 4 [(85, .tuple [])] (va 1 [(86, aB false)] (vle km_d (key _ hw)))
       ·have hw := hw.1 hb22
        refine va 3 [(78, aI (wI (i + 1))), (76, aS s)] ?_
        obtain ⟨y7, hy, hw⟩ := hw
        exact vo rfl (x_call hy pl212) rfl (va 1 [(80, aB y7)] (vle km_d (key _ hw)))
       ·have hw := hw.2 hb22
        exact va 4 [(79, .tuple [])] (va 1 [(80, aB false)] (vle km_d (key _ hw)))
      ·have hw := hw.1 hb19
       refine va 3 [(69, aI (wI (i + 1))), (67, aS s)] ?_
       obtain ⟨y6, hy, hw⟩ := hw
       exact vo rfl (x_call hy pl211) rfl (va 1 [(71, aB y6)] (vle km_d (key _ hw)))
      ·have hw := hw.2 hb19
       exact va 4 [(70, .tuple [])] (va 1 [(71, aB false)] (vle km_d (key _ hw)))
     ·have hw := hw.1 hb14
      refine va 3 [(52, aI (wI (i + 2))), (50, aS s)] ?_
      obtain ⟨y5, hy, hw⟩ := hw
      exact vo rfl (x_call hy pl211) rfl (va 1 [(54, aB y5)] (vle km_d (key _ hw)))
     ·have hw := hw.2 hb14
      exact va 4 [(53, .tuple [])] (va 1 [(54, aB false)] (vle km_d (key _ hw)))
    ·have hw := hw.1 hb12
     refine va 3 [(46, aI (wI (i + 1))), (44, aS s)] ?_
     obtain ⟨y4, hy, hw⟩ := hw
     exact vo rfl (x_call hy pl212) rfl (va 1 [(48, aB y4)] (vle km_d (key _ hw)))
    ·have hw := hw.2 hb12
     exact va 4 [(47, .tuple [])] (va 1 [(48, aB false)] (vle km_d (key _ hw)))
   ·have hw := hw.1 hb9
    refine va 3 [(37, aI (wI (i + 2))), (35, aS s)] ?_
    obtain ⟨y3, hy, hw⟩ := hw
    exact vo rfl (x_call hy pl211) rfl (va 1 [(39, aB y3)] (vle km_d (key _ hw)))
   ·have hw := hw.2 hb9
    exact va 4 [(38, .tuple [])] (va 1 [(39, aB false)] (vle km_d (key _ hw)))
  ·have hw := hw.1 hb7
   refine va 3 [(31, aI (wI (i + 1))), (29, aS s)] ?_
   obtain ⟨y2, hy, hw⟩ := hw
   exact vo rfl (x_call hy pl212) rfl (va 1 [(33, aB y2)] (vle km_d (key _ hw)))
  ·have hw := hw.2 hb7
   exact va 4 [(32, .tuple [])] (va 1 [(33, aB false)] (vle km_d (key _ hw)))
 ·have hw := hw.1 hb4
  refine va 3 [(22, aI (wI (i + 1))), (20, aS s)] ?_
  obtain ⟨y1, hy, hw⟩ := hw
  exact vo rfl (x_call hy pl211) rfl (va 1 [(24, aB y1)] (vle km_d (key _ hw)))
 ·have hw := hw.2 hb4
  exact va 4 [(23, .tuple [])] (va 1 [(24, aB false)] (vle km_d (key _ hw)))
end
end Go.Proofs.YtidmmngcijapcaaGreat.Lift
