/- Part 6 of the texts that prove OrderSortsEnd. -/
import Derived.Test.YtkcbmobdpenngaaDoorOrderSortsEndP3
import Derived.Test.YtkcbmobdpenngaaDoorOrderSortsEndP4
import Derived.Test.YtkcbmobdpenngaaDoorOrderSortsEndP2
import Derived.Shelf.Strings.Builder1
import Derived.Shelf.Strings.Builder2
import Derived.Shelf.Strings.Search1
import Derived.Shelf.Strings.Search2
import Derived.Shelf.Strings.Search3
import Derived.Shelf.Strings.Count
import Derived.Shelf.LaysM
import Derived.Shelf.Strings.Shaped
import Derived.Shelf.Strings.Prefix
import Derived.Shelf.Strings.Split
import Derived.Shelf.Strings.Replace
import Derived.Shelf.Strings.SplitShaped
import Derived.Shelf.Unicode.DecodeSlow
import Derived.Test.YtkcbmobdpenngaaDoorProg
namespace Go.Proofs.YtkcbmobdpenngaaDoor.Lift
open Go.RowKit
set_option linter.unusedVariables false
set_option linter.unusedSimpArgs false
set_option linter.unnecessarySimpa false
set_option linter.unusedSectionVars false
set_option maxRecDepth 100000
section
attribute [-simp] List.map_take List.map_drop List.map_append List.map_set List.map_replicate List.map_cons List.map_map
attribute [local simp] plain plainL lowE lowB keepB low lowL lowLL plm_I_i8 plm_I_i16 plm_I_i32 plm_I_i64 plm_I_u8 plm_I_u16 plm_I_u32 plm_I_u64 plm_Bool plm_Str gfn_fi gfn_cap plm_Fn pl_GRaw plm_GRaw pl_GValue plm_GValue pl_GPair plm_GPair pl_GSlot plm_GSlot pl_Gparts plm_Gparts pl_Any eI_i8 eI_i16 eI_i32 eI_i64 eI_u8 eI_u16 eI_u32 eI_u64 eBool eStr eFn gfn_lfi gfn_lcap lwm_GRaw lwm_GValue lwm_GPair lwm_GSlot
def r66_0 : LO := [o 25 (mv 2), o 26 (mv 1), o 27 (.bin .sub (T 25) (T 26)), o 28 (.bin .eql (T 27) (ci 1))]
def r66_1 : LO := [o 29 (mv 2), o 10 (mv 29)]
def r66_2 : LO := [o 30 (mv 3), o 11 (mv 30)]
def r66_3 : LO := [o 31 (mv 10), o 32 (mv 11), o 33 (.bin .lss (T 31) (T 32))]
def k66_1 : ACode := .cond (T 33) .skip (.exit 0)
def r66_8 : LO := [o 34 (mv 10), o 35 (mv 11), o 36 (.bin .add (T 34) (T 35)), o 37 (.conv (.num .u64) (T 36)), o 38 (.bin .shr (T 37) (.c (aU 1))), o 39 (.conv (.num .i64) (T 38)), o 12 (mv 39)]
def r66_9 : LO := [o 40 (mv 4), o 41 (mv 0), o 42 (mv 12), o 43 (.idxSl 8 (T 41) (T 42)), o 44 (ln 8 43), o 45 (mv 0), o 46 (mv 1), o 47 (.idxSl 8 (T 45) (T 46)), o 48 (ln 8 47), o 49 (.call (T 40) [(T 44), (T 48)]), o 50 (.bin .lss (T 49) (ci 0))]
def r66_9t : LO := []
def r66_9o : LN := [[], [], [], [1, 2], [3], [], [], [5, 6], [7], [0, 4, 8], [9]]
def r66_10 : LO := [o 51 (mv 12), o 52 (.bin .add (T 51) (ci 1)), o 10 (mv 52)]
def r66_11 : LO := [o 53 (mv 12), o 11 (mv 53)]
def k66_2 : ACode := .cond (T 50) (.region r66_10) (.region r66_11)
def k66_3 : ACode := .seq (.drawn r66_9o r66_9 r66_9t) k66_2
def k66_4 : ACode := .block 1 (.seq (.region r66_8) k66_3)
def k66_5 : ACode := .seq (.seq (.region r66_3) k66_1) k66_4
def r66_19 : LO := [o 54 (mv 1), o 13 (mv 54)]
def r66_20 : LO := [o 55 (mv 13), o 56 (mv 10), o 57 (.bin .sub (T 56) (ci 1)), o 58 (.bin .lss (T 55) (T 57))]
def k66_6 : ACode := .cond (T 58) .skip (.exit 2)
def r66_25 : LO := [o 61 (mv 0), o 62 (mv 13), o 63 (mv 0), o 64 (mv 13), o 65 (.bin .add (T 64) (ci 1)), o 66 (mv 0), o 67 (mv 13), o 68 (.bin .add (T 67) (ci 1)), o 69 (.idxSl 8 (T 66) (T 68)), o 70 (ln 8 69), o 71 (mv 0), o 72 (mv 13), o 73 (.idxSl 8 (T 71) (T 72)), o 74 (ln 8 73), o 75 (.idxSl 8 (T 61) (T 62)), on (st 8 75 70)]
def r66_25t : LO := [o 76 (.idxSl 8 (T 63) (T 65)), on (st 8 76 74)]
def r66_25o : LN := [[], [], [], [], [3], [], [], [6], [5, 7], [8], [], [], [10, 11], [12], [0, 1, 5, 6, 7, 8, 9, 13], [0, 1, 5, 6, 7, 8, 9, 13, 14]]
def r66_27 : LO := [o 59 (mv 13), o 60 (.bin .add (T 59) (ci 1)), o 13 (mv 60)]
def k66_7 : ACode := .seq (.block 3 (.drawn r66_25o r66_25 r66_25t)) (.region r66_27)
def k66_8 : ACode := .seq (.seq (.region r66_20) k66_6) k66_7
def k66_9 : ACode := .block 2 (.loop k66_8)
def k66_10 : ACode := .seq (.seq (.region r66_19) k66_9) .ret
def k66_11 : ACode := .seq (.block 0 (.loop k66_5)) k66_10
def k66_12 : ACode := .seq (.region r66_2) k66_11
def k66_13 : ACode := .cond (T 28) (.seq (.region r66_1) k66_12) .skip
def r66_41 : LO := [o 77 (mv 3), o 78 (mv 2), o 79 (.bin .sub (T 77) (T 78)), o 80 (.bin .eql (T 79) (ci 1))]
def r66_42 : LO := [o 81 (mv 1), o 14 (mv 81)]
def r66_43 : LO := [o 82 (mv 2), o 15 (mv 82)]
def r66_44 : LO := [o 83 (mv 14), o 84 (mv 15), o 85 (.bin .lss (T 83) (T 84))]
def k66_14 : ACode := .cond (T 85) .skip (.exit 4)
def r66_49 : LO := [o 86 (mv 14), o 87 (mv 15), o 88 (.bin .add (T 86) (T 87)), o 89 (.conv (.num .u64) (T 88)), o 90 (.bin .shr (T 89) (.c (aU 1))), o 91 (.conv (.num .i64) (T 90)), o 16 (mv 91)]
def r66_50 : LO := [o 92 (mv 4), o 93 (mv 0), o 94 (mv 2), o 95 (.idxSl 8 (T 93) (T 94)), o 96 (ln 8 95), o 97 (mv 0), o 98 (mv 16), o 99 (.idxSl 8 (T 97) (T 98)), o 100 (ln 8 99), o 101 (.call (T 92) [(T 96), (T 100)]), o 102 (.bin .lss (T 101) (ci 0)), o 103 (.un .not (T 102))]
def r66_50t : LO := []
def r66_50o : LN := [[], [], [], [1, 2], [3], [], [], [5, 6], [7], [0, 4, 8], [9], [10]]
def r66_51 : LO := [o 104 (mv 16), o 105 (.bin .add (T 104) (ci 1)), o 14 (mv 105)]
def r66_52 : LO := [o 106 (mv 16), o 15 (mv 106)]
def k66_15 : ACode := .cond (T 103) (.region r66_51) (.region r66_52)
def k66_16 : ACode := .seq (.drawn r66_50o r66_50 r66_50t) k66_15
def k66_17 : ACode := .block 5 (.seq (.region r66_49) k66_16)
def k66_18 : ACode := .seq (.seq (.region r66_44) k66_14) k66_17
def r66_60 : LO := [o 107 (mv 2), o 17 (mv 107)]
def r66_61 : LO := [o 108 (mv 17), o 109 (mv 14), o 110 (.bin .gtr (T 108) (T 109))]
def k66_19 : ACode := .cond (T 110) .skip (.exit 6)
def r66_66 : LO := [o 113 (mv 0), o 114 (mv 17), o 115 (mv 0), o 116 (mv 17), o 117 (.bin .sub (T 116) (ci 1)), o 118 (mv 0), o 119 (mv 17), o 120 (.bin .sub (T 119) (ci 1)), o 121 (.idxSl 8 (T 118) (T 120)), o 122 (ln 8 121), o 123 (mv 0), o 124 (mv 17), o 125 (.idxSl 8 (T 123) (T 124)), o 126 (ln 8 125), o 127 (.idxSl 8 (T 113) (T 114)), on (st 8 127 122)]
def r66_66t : LO := [o 128 (.idxSl 8 (T 115) (T 117)), on (st 8 128 126)]
def r66_66o : LN := [[], [], [], [], [3], [], [], [6], [5, 7], [8], [], [], [10, 11], [12], [0, 1, 5, 6, 7, 8, 9, 13], [0, 1, 5, 6, 7, 8, 9, 13, 14]]
def r66_68 : LO := [o 111 (mv 17), o 112 (.bin .sub (T 111) (ci 1)), o 17 (mv 112)]
def k66_20 : ACode := .seq (.block 7 (.drawn r66_66o r66_66 r66_66t)) (.region r66_68)
def k66_21 : ACode := .seq (.seq (.region r66_61) k66_19) k66_20
def k66_22 : ACode := .block 6 (.loop k66_21)
def k66_23 : ACode := .seq (.seq (.region r66_60) k66_22) .ret
def k66_24 : ACode := .seq (.block 4 (.loop k66_18)) k66_23
def k66_25 : ACode := .seq (.region r66_43) k66_24
def k66_26 : ACode := .cond (T 80) (.seq (.region r66_42) k66_25) .skip
def r66_82 : LO := [o 129 (mv 1), o 130 (mv 3), o 131 (.bin .add (T 129) (T 130)), o 132 (.conv (.num .u64) (T 131)), o 133 (.bin .shr (T 132) (.c (aU 1))), o 134 (.conv (.num .i64) (T 133)), o 18 (mv 134)]
def r66_83 : LO := [o 135 (mv 18), o 136 (mv 2), o 137 (.bin .add (T 135) (T 136)), o 19 (mv 137)]
def r66_84 : LO := [o 20 (mi 0), o 21 (mi 0)]
def r66_85 : LO := [o 138 (mv 2), o 139 (mv 18), o 140 (.bin .gtr (T 138) (T 139))]
def r66_86 : LO := [o 141 (mv 19), o 142 (mv 3), o 143 (.bin .sub (T 141) (T 142)), o 20 (mv 143)]
def r66_87 : LO := [o 144 (mv 18), o 21 (mv 144)]
def r66_89 : LO := [o 145 (mv 1), o 20 (mv 145)]
def r66_90 : LO := [o 146 (mv 2), o 21 (mv 146)]
def k66_27 : ACode := .cond (T 140) (.seq (.region r66_86) (.region r66_87)) (.seq (.region r66_89) (.region r66_90))
def r66_94 : LO := [o 147 (mv 19), o 148 (.bin .sub (T 147) (ci 1)), o 22 (mv 148)]
def r66_95 : LO := [o 149 (mv 20), o 150 (mv 21), o 151 (.bin .lss (T 149) (T 150))]
def k66_28 : ACode := .cond (T 151) .skip (.exit 8)
def r66_100 : LO := [o 152 (mv 20), o 153 (mv 21), o 154 (.bin .add (T 152) (T 153)), o 155 (.conv (.num .u64) (T 154)), o 156 (.bin .shr (T 155) (.c (aU 1))), o 157 (.conv (.num .i64) (T 156)), o 23 (mv 157)]
def r66_101 : LO := [o 158 (mv 4), o 159 (mv 0), o 160 (mv 22), o 161 (mv 23), o 162 (.bin .sub (T 160) (T 161)), o 163 (.idxSl 8 (T 159) (T 162)), o 164 (ln 8 163), o 165 (mv 0), o 166 (mv 23), o 167 (.idxSl 8 (T 165) (T 166)), o 168 (ln 8 167), o 169 (.call (T 158) [(T 164), (T 168)]), o 170 (.bin .lss (T 169) (ci 0)), o 171 (.un .not (T 170))]
def r66_101t : LO := []
def r66_101o : LN := [[], [], [], [], [2, 3], [1, 4], [5], [], [], [7, 8], [9], [0, 6, 10], [11], [12]]
def r66_102 : LO := [o 172 (mv 23), o 173 (.bin .add (T 172) (ci 1)), o 20 (mv 173)]
def r66_103 : LO := [o 174 (mv 23), o 21 (mv 174)]
def k66_29 : ACode := .cond (T 171) (.region r66_102) (.region r66_103)
def k66_30 : ACode := .seq (.drawn r66_101o r66_101 r66_101t) k66_29
def k66_31 : ACode := .block 9 (.seq (.region r66_100) k66_30)
def k66_32 : ACode := .seq (.seq (.region r66_95) k66_28) k66_31
def r66_111 : LO := [o 175 (mv 19), o 176 (mv 20), o 177 (.bin .sub (T 175) (T 176)), o 24 (mv 177)]
def r66_112 : LO := [o 178 (mv 20), o 179 (mv 2), o 180 (.bin .lss (T 178) (T 179)), o 181 (mv 180), og 182 (mv 2) 181 true, og 183 (mv 24) 181 true, og 184 (.bin .lss (T 182) (T 183)) 181 true, o 185 (.pick (T 181) (T 184) (cb false))]
def r66_113 : LO := [o 186 (mv 0), o 187 (mv 20), o 188 (mv 2), o 189 (mv 24), o 190 (mv 4), o 191 (.call (cf 77) [(T 186), (T 187), (T 188), (T 189), (T 190)])]
def k66_33 : ACode := .cond (T 185) (.region r66_113) .skip
def k66_34 : ACode := .seq (.region r66_112) k66_33
def r66_117 : LO := [o 192 (mv 1), o 193 (mv 20), o 194 (.bin .lss (T 192) (T 193)), o 195 (mv 194), og 196 (mv 20) 195 true, og 197 (mv 18) 195 true, og 198 (.bin .lss (T 196) (T 197)) 195 true, o 199 (.pick (T 195) (T 198) (cb false))]
def r66_118 : LO := [o 200 (mv 0), o 201 (mv 1), o 202 (mv 20), o 203 (mv 18), o 204 (mv 4), o 205 (.call (cf 66) [(T 200), (T 201), (T 202), (T 203), (T 204)])]
def k66_35 : ACode := .cond (T 199) (.region r66_118) .skip
def k66_36 : ACode := .seq (.region r66_117) k66_35
def r66_122 : LO := [o 206 (mv 18), o 207 (mv 24), o 208 (.bin .lss (T 206) (T 207)), o 209 (mv 208), og 210 (mv 24) 209 true, og 211 (mv 3) 209 true, og 212 (.bin .lss (T 210) (T 211)) 209 true, o 213 (.pick (T 209) (T 212) (cb false))]
def r66_123 : LO := [o 214 (mv 0), o 215 (mv 18), o 216 (mv 24), o 217 (mv 3), o 218 (mv 4), o 219 (.call (cf 66) [(T 214), (T 215), (T 216), (T 217), (T 218)])]
def k66_37 : ACode := .cond (T 213) (.region r66_123) .skip
def k66_38 : ACode := .seq (.region r66_122) k66_37
def k66_39 : ACode := .seq k66_36 k66_38
def k66_40 : ACode := .seq k66_34 k66_39
def k66_41 : ACode := .seq (.region r66_111) k66_40
def k66_42 : ACode := .seq (.block 8 (.loop k66_32)) k66_41
def k66_43 : ACode := .seq (.region r66_94) k66_42
def k66_44 : ACode := .seq (.seq (.region r66_85) k66_27) k66_43
def k66_45 : ACode := .seq (.region r66_84) k66_44
def k66_46 : ACode := .seq (.region r66_83) k66_45
def k66_47 : ACode := .seq (.region r66_82) k66_46
def k66_48 : ACode := .seq (.seq (.region r66_41) k66_26) k66_47
def k66_49 : ACode := .seq (.seq (.region r66_0) k66_13) k66_48
theorem fn66 : getFn Tryd.prog 66 = some (220, k66_49, []) := by kernel_rfl
def q66_0 (r : (List (Int × GValue))) : QP := qio 0 [] (.tuple []) (cellsOf eGSlot' r) []
def q66_1 (r : (List (Int × GValue))) : QP := tqi 0 Tryd.prog 220 k66_48 (q66_0 r)
def q66_10 (r : (List (Int × GValue))) : QP := tqi 0 Tryd.prog 220 .ret (q66_1 r)
def q66_12 (r : (List (Int × GValue))) : QP := inBlockA 2 (q66_10 r)
def slices_symMergeCmpFunc_Slot_j6 (ij5 : Int) (ij3 : Int) (n0 : Nat) (lj6 : (List (Int × GValue))) (r : (List (Int × GValue))) : Prop := DL Tryd.prog 220 1 0 k66_8 (q66_12 r) [(13, aI ij5), (10, aI ij3), (0, .row 0 0 8 n0 n0)] ⟨[some (cellsOf eGSlot' lj6)], [], []⟩
def q66_5 (r : (List (Int × GValue))) : QP := tqi 0 Tryd.prog 220 k66_10 (q66_1 r)
def q66_6 (r : (List (Int × GValue))) : QP := inBlockA 0 (q66_5 r)
def slices_symMergeCmpFunc_Slot_j4 (ij4 : Int) (ij3 : Int) (n0 : Nat) (a : Int) (cmp : GFn) (data : (List (Int × GValue))) (r : (List (Int × GValue))) : Prop := DL Tryd.prog 220 1 0 k66_5 (q66_6 r) [(11, aI ij4), (10, aI ij3), (0, .row 0 0 8 n0 n0), (1, aI a), (4, .clo (.func cmp.fn) cmp.fi cmp.cap)] ⟨[some (cellsOf eGSlot' data)], [], []⟩
def q66_21 (r : (List (Int × GValue))) : QP := tqi 0 Tryd.prog 220 k66_47 (q66_0 r)
def q66_30 (r : (List (Int × GValue))) : QP := tqi 0 Tryd.prog 220 .ret (q66_21 r)
def q66_32 (r : (List (Int × GValue))) : QP := inBlockA 6 (q66_30 r)
def slices_symMergeCmpFunc_Slot_j12 (ij11 : Int) (ij9 : Int) (n0 : Nat) (lj12 : (List (Int × GValue))) (r : (List (Int × GValue))) : Prop := DL Tryd.prog 220 1 0 k66_21 (q66_32 r) [(17, aI ij11), (14, aI ij9), (0, .row 0 0 8 n0 n0)] ⟨[some (cellsOf eGSlot' lj12)], [], []⟩
def q66_25 (r : (List (Int × GValue))) : QP := tqi 0 Tryd.prog 220 k66_23 (q66_21 r)
def q66_26 (r : (List (Int × GValue))) : QP := inBlockA 4 (q66_25 r)
def slices_symMergeCmpFunc_Slot_j10 (ij10 : Int) (ij9 : Int) (n0 : Nat) (m : Int) (cmp : GFn) (data : (List (Int × GValue))) (r : (List (Int × GValue))) : Prop := DL Tryd.prog 220 1 0 k66_18 (q66_26 r) [(15, aI ij10), (14, aI ij9), (0, .row 0 0 8 n0 n0), (2, aI m), (4, .clo (.func cmp.fn) cmp.fi cmp.cap)] ⟨[some (cellsOf eGSlot' data)], [], []⟩
def slices_symMergeCmpFunc_Slot_j42 (a : Int) (b : Int) (m : Int) (ij26 : Int) (n0 : Nat) (cmp : GFn) (lj30 : (List (Int × GValue))) (r : (List (Int × GValue))) : Prop := D Tryd.prog 220 1 0 k66_38 (q66_0 r) [(24, aI (wI ((wI ((wI ((wU (wI (a + b))).fdiv (2 ^ min (1 : Int).toNat IntKind.u64.bits))) + m)) - ij26))), (18, aI (wI ((wU (wI (a + b))).fdiv (2 ^ min (1 : Int).toNat IntKind.u64.bits)))), (0, .row 0 0 8 n0 n0), (3, aI b), (4, .clo (.func cmp.fn) cmp.fi cmp.cap)] ⟨[some (cellsOf eGSlot' lj30)], [], []⟩
def slices_symMergeCmpFunc_Slot_j40 (a : Int) (b : Int) (m : Int) (ij26 : Int) (n0 : Nat) (cmp : GFn) (lj29 : (List (Int × GValue))) (r : (List (Int × GValue))) : Prop := D Tryd.prog 220 1 0 k66_39 (q66_0 r) [(24, aI (wI ((wI ((wI ((wU (wI (a + b))).fdiv (2 ^ min (1 : Int).toNat IntKind.u64.bits))) + m)) - ij26))), (20, aI ij26), (18, aI (wI ((wU (wI (a + b))).fdiv (2 ^ min (1 : Int).toNat IntKind.u64.bits)))), (0, .row 0 0 8 n0 n0), (1, aI a), (3, aI b), (4, .clo (.func cmp.fn) cmp.fi cmp.cap)] ⟨[some (cellsOf eGSlot' lj29)], [], []⟩
def q66_49 (r : (List (Int × GValue))) : QP := tqi 0 Tryd.prog 220 k66_41 (q66_0 r)
def q66_50 (r : (List (Int × GValue))) : QP := inBlockA 8 (q66_49 r)
def slices_symMergeCmpFunc_Slot_j36 (a : Int) (b : Int) (m : Int) (ij27 : Int) (ij26 : Int) (n0 : Nat) (cmp : GFn) (data : (List (Int × GValue))) (r : (List (Int × GValue))) : Prop := DL Tryd.prog 220 1 0 k66_32 (q66_50 r) [(22, aI (wI ((wI ((wI ((wU (wI (a + b))).fdiv (2 ^ min (1 : Int).toNat IntKind.u64.bits))) + m)) - 1))), (21, aI ij27), (20, aI ij26), (19, aI (wI ((wI ((wU (wI (a + b))).fdiv (2 ^ min (1 : Int).toNat IntKind.u64.bits))) + m))), (18, aI (wI ((wU (wI (a + b))).fdiv (2 ^ min (1 : Int).toNat IntKind.u64.bits)))), (0, .row 0 0 8 n0 n0), (1, aI a), (2, aI m), (3, aI b), (4, .clo (.func cmp.fn) cmp.fi cmp.cap)] ⟨[some (cellsOf eGSlot' data)], [], []⟩
def slices_symMergeCmpFunc_Slot_j28 (ij21 : Int) (ij22 : Int) (a : Int) (b : Int) (m : Int) (n0 : Nat) (cmp : GFn) (data : (List (Int × GValue))) (r : (List (Int × GValue))) : Prop := D Tryd.prog 220 1 0 k66_43 (q66_0 r) [(21, aI ij21), (20, aI ij22), (19, aI (wI ((wI ((wU (wI (a + b))).fdiv (2 ^ min (1 : Int).toNat IntKind.u64.bits))) + m))), (18, aI (wI ((wU (wI (a + b))).fdiv (2 ^ min (1 : Int).toNat IntKind.u64.bits)))), (0, .row 0 0 8 n0 n0), (1, aI a), (2, aI m), (3, aI b), (4, .clo (.func cmp.fn) cmp.fi cmp.cap)] ⟨[some (cellsOf eGSlot' data)], [], []⟩
theorem slices_symMergeCmpFunc_Slot_j6_step (ij5 : Int) (ij3 : Int) (n0 : Nat) (lj6 : (List (Int × GValue))) (r : (List (Int × GValue))) (hw : ((decide (ij5 < (wI (ij3 - 1)))) = true -> (0 <= (wI (ij5 + 1)) /\ (wI (ij5 + 1)) < (n0 : Int)) /\ (∃ y10, lj6[(wI (ij5 + 1)).toNat]? = some y10 /\ ((0 <= ij5 /\ ij5 < (n0 : Int)) /\ (∃ y11, lj6[ij5.toNat]? = some y11 /\ ((0 <= ij5 /\ ij5 < (n0 : Int)) /\ (ij5.toNat < lj6.length /\ ((0 <= (wI (ij5 + 1)) /\ (wI (ij5 + 1)) < (n0 : Int)) /\ ((wI (ij5 + 1)).toNat < (lj6.set ij5.toNat y10).length /\ (slices_symMergeCmpFunc_Slot_j6 (wI (ij5 + 1)) ij3 n0 ((lj6.set ij5.toNat y10).set (wI (ij5 + 1)).toNat y11) r))))))))) /\ ((decide (ij5 < (wI (ij3 - 1)))) = false -> lj6 ≠ [] /\ r = lj6)) : slices_symMergeCmpFunc_Slot_j6 ij5 ij3 n0 lj6 r := by
 refine dl_unroll (d_seqQ (ds (va 4 [(58, aB (decide (ij5 < (wI (ij3 - 1)))))] (ve (dw hw (fun _ hw => ?_) (fun _ hw => ?_))))))
 ·refine d_skip (d_seqQ (d_blockQ (dL 15 [(0, (cellsOf eGSlot' lj6))] rfl (sa 1 8 [(68, aI (wI (ij5 + 1))), (66, .row 0 0 8 n0 n0), (65, aI (wI (ij5 + 1))), (63, .row 0 0 8 n0 n0), (62, aI ij5), (61, .row 0 0 8 n0 n0)] (hK := (km_L km_d)) ?_))))
  obtain ⟨h0, hw⟩ := hw
  refine sq rfl (fun _ _ => x_ridx 0 n0 n0 h0) rfl ?_
  obtain ⟨y10, hy, hw⟩ := hw
  refine sq rfl (y_rldn (sz := 8) (r := 0) (e := eGSlot') (i := (wI (ij5 + 1)).toNat) (cs := (eGSlot y10)) (off := (0 + (wI (ij5 + 1)).toNat * 8)) (fun _ => by rw [eGSlot'_eq]; rfl) (fun _ => by rw [eGSlot'_eq]; rfl) hy (eGSlot'_eq _) (by omega) (List.mem_of_getElem? (i := 0) rfl)) rfl (sa 1 2 [(72, aI ij5), (71, .row 0 0 8 n0 n0)] (hK := (km_L km_d)) ?_)
  obtain ⟨h0, hw⟩ := hw
  refine sq rfl (fun _ _ => x_ridx 0 n0 n0 h0) rfl ?_
  obtain ⟨y11, hy, hw⟩ := hw
  refine sq rfl (y_rldn (sz := 8) (r := 0) (e := eGSlot') (i := ij5.toNat) (cs := (eGSlot y11)) (off := (0 + ij5.toNat * 8)) (fun _ => by rw [eGSlot'_eq]; rfl) (fun _ => by rw [eGSlot'_eq]; rfl) hy (eGSlot'_eq _) (by omega) (List.mem_of_getElem? (i := 0) rfl)) rfl ?_
  obtain ⟨h0, hw⟩ := hw
  refine sq rfl (fun _ _ => x_ridx 0 n0 n0 h0) rfl (send ?_)
  obtain ⟨h0, hw⟩ := hw
  refine ⟨_, _, (x_rst (sz := 8) (r := 0) (e := eGSlot') (i := ij5.toNat) (off := (0 + ij5.toNat * 8)) (l := lj6) (av := .agg (eGSlot y10)) y10 (fun _ => by rw [eGSlot'_eq]; rfl) (fun _ => by rw [eGSlot'_eq]; rfl) h0 (eGSlot'_eq _) (by omega)), ?_⟩
  obtain ⟨h0, hw⟩ := hw
  refine vo rfl (x_ridx 0 n0 n0 h0) rfl ?_
  obtain ⟨h0, hw⟩ := hw
  exact vw rfl (x_rst (sz := 8) (r := 0) (e := eGSlot') (i := (wI (ij5 + 1)).toNat) (off := (0 + (wI (ij5 + 1)).toNat * 8)) (l := (lj6.set ij5.toNat y10)) (av := .agg (eGSlot y11)) y11 (fun _ => by rw [eGSlot'_eq]; rfl) (fun _ => by rw [eGSlot'_eq]; rfl) h0 (eGSlot'_eq _) (by omega)) (ve (dr (va 3 [(13, aI (wI (ij5 + 1)))] (ve (jl0 hw)))))
 exact d_exit (d_ret (rior rowE_GSlot hw))
theorem slices_symMergeCmpFunc_Slot_j4_step (ij4 : Int) (ij3 : Int) (n0 : Nat) (a : Int) (cmp : GFn) (data : (List (Int × GValue))) (r : (List (Int × GValue))) (hw : ((decide (ij3 < ij4)) = true -> (0 <= (wI ((wU (wI (ij3 + ij4))).fdiv (2 ^ min (1 : Int).toNat IntKind.u64.bits))) /\ (wI ((wU (wI (ij3 + ij4))).fdiv (2 ^ min (1 : Int).toNat IntKind.u64.bits))) < (n0 : Int)) /\ (∃ y12, data[(wI ((wU (wI (ij3 + ij4))).fdiv (2 ^ min (1 : Int).toNat IntKind.u64.bits))).toNat]? = some y12 /\ ((0 <= a /\ a < (n0 : Int)) /\ (∃ y13, data[a.toNat]? = some y13 /\ (∃ y14, FCall Tryd.prog [] (.clo (.func cmp.fn) cmp.fi cmp.cap) [.agg (eGSlot y12), .agg (eGSlot y13)] (aI y14) /\ (((decide (y14 < 0)) = true -> slices_symMergeCmpFunc_Slot_j4 ij4 (wI ((wI ((wU (wI (ij3 + ij4))).fdiv (2 ^ min (1 : Int).toNat IntKind.u64.bits))) + 1)) n0 a cmp data r) /\ ((decide (y14 < 0)) = false -> slices_symMergeCmpFunc_Slot_j4 (wI ((wU (wI (ij3 + ij4))).fdiv (2 ^ min (1 : Int).toNat IntKind.u64.bits))) ij3 n0 a cmp data r))))))) /\ ((decide (ij3 < ij4)) = false -> slices_symMergeCmpFunc_Slot_j6 a ij3 n0 data r)) : slices_symMergeCmpFunc_Slot_j4 ij4 ij3 n0 a cmp data r := by
 refine dl_unroll (d_seqQ (ds (va 3 [(33, aB (decide (ij3 < ij4)))] (ve (dw hw (fun _ hw => ?_) (fun _ hw => ?_))))))
 ·refine d_skip (d_blockQ (ds (va 7 [(12, aI (wI ((wU (wI (ij3 + ij4))).fdiv (2 ^ min (1 : Int).toNat IntKind.u64.bits))))] (ve (d_seqQ (dS [(0, (cellsOf eGSlot' data))] (sa 1 3 [(42, aI (wI ((wU (wI (ij3 + ij4))).fdiv (2 ^ min (1 : Int).toNat IntKind.u64.bits)))), (41, .row 0 0 8 n0 n0), (40, .clo (.func cmp.fn) cmp.fi cmp.cap)] ?_)))))))
  obtain ⟨h0, hw⟩ := hw
  refine sq rfl (fun _ _ => x_ridx 0 n0 n0 h0) rfl ?_
  obtain ⟨y12, hy, hw⟩ := hw
  refine sq rfl (y_rldn (sz := 8) (r := 0) (e := eGSlot') (i := (wI ((wU (wI (ij3 + ij4))).fdiv (2 ^ min (1 : Int).toNat IntKind.u64.bits))).toNat) (cs := (eGSlot y12)) (off := (0 + (wI ((wU (wI (ij3 + ij4))).fdiv (2 ^ min (1 : Int).toNat IntKind.u64.bits))).toNat * 8)) (fun _ => by rw [eGSlot'_eq]; rfl) (fun _ => by rw [eGSlot'_eq]; rfl) hy (eGSlot'_eq _) (by omega) (List.mem_of_getElem? (i := 0) rfl)) rfl (sa 1 2 [(46, aI a), (45, .row 0 0 8 n0 n0)] ?_)
  obtain ⟨h0, hw⟩ := hw
  refine sq rfl (fun _ _ => x_ridx 0 n0 n0 h0) rfl ?_
  obtain ⟨y13, hy, hw⟩ := hw
  refine sq rfl (y_rldn (sz := 8) (r := 0) (e := eGSlot') (i := a.toNat) (cs := (eGSlot y13)) (off := (0 + a.toNat * 8)) (fun _ => by rw [eGSlot'_eq]; rfl) (fun _ => by rw [eGSlot'_eq]; rfl) hy (eGSlot'_eq _) (by omega) (List.mem_of_getElem? (i := 0) rfl)) rfl ?_
  obtain ⟨y14, hy, hw⟩ := hw
  refine sq rfl (y_fcall hy) rfl (sa 1 1 [(50, aB (decide (y14 < 0)))] (send (vp_start' (ve (dw hw (fun _ hw => ?_) (fun _ hw => ?_))))))
  ·exact dr (va 3 [(10, aI (wI ((wI ((wU (wI (ij3 + ij4))).fdiv (2 ^ min (1 : Int).toNat IntKind.u64.bits))) + 1)))] (ve (jl0 hw)))
  exact dr (va 2 [(11, aI (wI ((wU (wI (ij3 + ij4))).fdiv (2 ^ min (1 : Int).toNat IntKind.u64.bits))))] (ve (jl0 hw)))
 exact d_exit (d_seqQ (ds (va 2 [(13, aI a)] (ve (d_blockQ (d_loopQ (jl0 hw)))))))
theorem slices_symMergeCmpFunc_Slot_j12_step (ij11 : Int) (ij9 : Int) (n0 : Nat) (lj12 : (List (Int × GValue))) (r : (List (Int × GValue))) (hw : ((decide (ij9 < ij11)) = true -> (0 <= (wI (ij11 - 1)) /\ (wI (ij11 - 1)) < (n0 : Int)) /\ (∃ y24, lj12[(wI (ij11 - 1)).toNat]? = some y24 /\ ((0 <= ij11 /\ ij11 < (n0 : Int)) /\ (∃ y25, lj12[ij11.toNat]? = some y25 /\ ((0 <= ij11 /\ ij11 < (n0 : Int)) /\ (ij11.toNat < lj12.length /\ ((0 <= (wI (ij11 - 1)) /\ (wI (ij11 - 1)) < (n0 : Int)) /\ ((wI (ij11 - 1)).toNat < (lj12.set ij11.toNat y24).length /\ (slices_symMergeCmpFunc_Slot_j12 (wI (ij11 - 1)) ij9 n0 ((lj12.set ij11.toNat y24).set (wI (ij11 - 1)).toNat y25) r))))))))) /\ ((decide (ij9 < ij11)) = false -> lj12 ≠ [] /\ r = lj12)) : slices_symMergeCmpFunc_Slot_j12 ij11 ij9 n0 lj12 r := by
 refine dl_unroll (d_seqQ (ds (va 3 [(110, aB (decide (ij9 < ij11)))] (ve (dw hw (fun _ hw => ?_) (fun _ hw => ?_))))))
 ·refine d_skip (d_seqQ (d_blockQ (dL 15 [(0, (cellsOf eGSlot' lj12))] rfl (sa 1 8 [(120, aI (wI (ij11 - 1))), (118, .row 0 0 8 n0 n0), (117, aI (wI (ij11 - 1))), (115, .row 0 0 8 n0 n0), (114, aI ij11), (113, .row 0 0 8 n0 n0)] (hK := (km_L km_d)) ?_))))
  obtain ⟨h0, hw⟩ := hw
  refine sq rfl (fun _ _ => x_ridx 0 n0 n0 h0) rfl ?_
  obtain ⟨y24, hy, hw⟩ := hw
  refine sq rfl (y_rldn (sz := 8) (r := 0) (e := eGSlot') (i := (wI (ij11 - 1)).toNat) (cs := (eGSlot y24)) (off := (0 + (wI (ij11 - 1)).toNat * 8)) (fun _ => by rw [eGSlot'_eq]; rfl) (fun _ => by rw [eGSlot'_eq]; rfl) hy (eGSlot'_eq _) (by omega) (List.mem_of_getElem? (i := 0) rfl)) rfl (sa 1 2 [(124, aI ij11), (123, .row 0 0 8 n0 n0)] (hK := (km_L km_d)) ?_)
  obtain ⟨h0, hw⟩ := hw
  refine sq rfl (fun _ _ => x_ridx 0 n0 n0 h0) rfl ?_
  obtain ⟨y25, hy, hw⟩ := hw
  refine sq rfl (y_rldn (sz := 8) (r := 0) (e := eGSlot') (i := ij11.toNat) (cs := (eGSlot y25)) (off := (0 + ij11.toNat * 8)) (fun _ => by rw [eGSlot'_eq]; rfl) (fun _ => by rw [eGSlot'_eq]; rfl) hy (eGSlot'_eq _) (by omega) (List.mem_of_getElem? (i := 0) rfl)) rfl ?_
  obtain ⟨h0, hw⟩ := hw
  refine sq rfl (fun _ _ => x_ridx 0 n0 n0 h0) rfl (send ?_)
  obtain ⟨h0, hw⟩ := hw
  refine ⟨_, _, (x_rst (sz := 8) (r := 0) (e := eGSlot') (i := ij11.toNat) (off := (0 + ij11.toNat * 8)) (l := lj12) (av := .agg (eGSlot y24)) y24 (fun _ => by rw [eGSlot'_eq]; rfl) (fun _ => by rw [eGSlot'_eq]; rfl) h0 (eGSlot'_eq _) (by omega)), ?_⟩
  obtain ⟨h0, hw⟩ := hw
  refine vo rfl (x_ridx 0 n0 n0 h0) rfl ?_
  obtain ⟨h0, hw⟩ := hw
  exact vw rfl (x_rst (sz := 8) (r := 0) (e := eGSlot') (i := (wI (ij11 - 1)).toNat) (off := (0 + (wI (ij11 - 1)).toNat * 8)) (l := (lj12.set ij11.toNat y24)) (av := .agg (eGSlot y25)) y25 (fun _ => by rw [eGSlot'_eq]; rfl) (fun _ => by rw [eGSlot'_eq]; rfl) h0 (eGSlot'_eq _) (by omega)) (ve (dr (va 3 [(17, aI (wI (ij11 - 1)))] (ve (jl0 hw)))))
 exact d_exit (d_ret (rior rowE_GSlot hw))
theorem slices_symMergeCmpFunc_Slot_j10_step (ij10 : Int) (ij9 : Int) (n0 : Nat) (m : Int) (cmp : GFn) (data : (List (Int × GValue))) (r : (List (Int × GValue))) (hw : ((decide (ij9 < ij10)) = true -> (0 <= m /\ m < (n0 : Int)) /\ (∃ y26, data[m.toNat]? = some y26 /\ ((0 <= (wI ((wU (wI (ij9 + ij10))).fdiv (2 ^ min (1 : Int).toNat IntKind.u64.bits))) /\ (wI ((wU (wI (ij9 + ij10))).fdiv (2 ^ min (1 : Int).toNat IntKind.u64.bits))) < (n0 : Int)) /\ (∃ y27, data[(wI ((wU (wI (ij9 + ij10))).fdiv (2 ^ min (1 : Int).toNat IntKind.u64.bits))).toNat]? = some y27 /\ (∃ y28, FCall Tryd.prog [] (.clo (.func cmp.fn) cmp.fi cmp.cap) [.agg (eGSlot y26), .agg (eGSlot y27)] (aI y28) /\ (((!(decide (y28 < 0))) = true -> slices_symMergeCmpFunc_Slot_j10 ij10 (wI ((wI ((wU (wI (ij9 + ij10))).fdiv (2 ^ min (1 : Int).toNat IntKind.u64.bits))) + 1)) n0 m cmp data r) /\ ((!(decide (y28 < 0))) = false -> slices_symMergeCmpFunc_Slot_j10 (wI ((wU (wI (ij9 + ij10))).fdiv (2 ^ min (1 : Int).toNat IntKind.u64.bits))) ij9 n0 m cmp data r))))))) /\ ((decide (ij9 < ij10)) = false -> slices_symMergeCmpFunc_Slot_j12 m ij9 n0 data r)) : slices_symMergeCmpFunc_Slot_j10 ij10 ij9 n0 m cmp data r := by
 refine dl_unroll (d_seqQ (ds (va 3 [(85, aB (decide (ij9 < ij10)))] (ve (dw hw (fun _ hw => ?_) (fun _ hw => ?_))))))
 ·refine d_skip (d_blockQ (ds (va 7 [(16, aI (wI ((wU (wI (ij9 + ij10))).fdiv (2 ^ min (1 : Int).toNat IntKind.u64.bits))))] (ve (d_seqQ (dS [(0, (cellsOf eGSlot' data))] (sa 1 3 [(94, aI m), (93, .row 0 0 8 n0 n0), (92, .clo (.func cmp.fn) cmp.fi cmp.cap)] ?_)))))))
  obtain ⟨h0, hw⟩ := hw
  refine sq rfl (fun _ _ => x_ridx 0 n0 n0 h0) rfl ?_
  obtain ⟨y26, hy, hw⟩ := hw
  refine sq rfl (y_rldn (sz := 8) (r := 0) (e := eGSlot') (i := m.toNat) (cs := (eGSlot y26)) (off := (0 + m.toNat * 8)) (fun _ => by rw [eGSlot'_eq]; rfl) (fun _ => by rw [eGSlot'_eq]; rfl) hy (eGSlot'_eq _) (by omega) (List.mem_of_getElem? (i := 0) rfl)) rfl (sa 1 2 [(98, aI (wI ((wU (wI (ij9 + ij10))).fdiv (2 ^ min (1 : Int).toNat IntKind.u64.bits)))), (97, .row 0 0 8 n0 n0)] ?_)
  obtain ⟨h0, hw⟩ := hw
  refine sq rfl (fun _ _ => x_ridx 0 n0 n0 h0) rfl ?_
  obtain ⟨y27, hy, hw⟩ := hw
  refine sq rfl (y_rldn (sz := 8) (r := 0) (e := eGSlot') (i := (wI ((wU (wI (ij9 + ij10))).fdiv (2 ^ min (1 : Int).toNat IntKind.u64.bits))).toNat) (cs := (eGSlot y27)) (off := (0 + (wI ((wU (wI (ij9 + ij10))).fdiv (2 ^ min (1 : Int).toNat IntKind.u64.bits))).toNat * 8)) (fun _ => by rw [eGSlot'_eq]; rfl) (fun _ => by rw [eGSlot'_eq]; rfl) hy (eGSlot'_eq _) (by omega) (List.mem_of_getElem? (i := 0) rfl)) rfl ?_
  obtain ⟨y28, hy, hw⟩ := hw
  refine sq rfl (y_fcall hy) rfl (sa 1 2 [(103, aB (!(decide (y28 < 0))))] (send (vp_start' (ve (dw hw (fun _ hw => ?_) (fun _ hw => ?_))))))
  ·exact dr (va 3 [(14, aI (wI ((wI ((wU (wI (ij9 + ij10))).fdiv (2 ^ min (1 : Int).toNat IntKind.u64.bits))) + 1)))] (ve (jl0 hw)))
  exact dr (va 2 [(15, aI (wI ((wU (wI (ij9 + ij10))).fdiv (2 ^ min (1 : Int).toNat IntKind.u64.bits))))] (ve (jl0 hw)))
 exact d_exit (d_seqQ (ds (va 2 [(17, aI m)] (ve (d_blockQ (d_loopQ (jl0 hw)))))))
theorem slices_symMergeCmpFunc_Slot_j42_step (a : Int) (b : Int) (m : Int) (ij26 : Int) (n0 : Nat) (cmp : GFn) (lj30 : (List (Int × GValue))) (r : (List (Int × GValue))) (hw : (((decide ((wI ((wU (wI (a + b))).fdiv (2 ^ min (1 : Int).toNat IntKind.u64.bits))) < (wI ((wI ((wI ((wU (wI (a + b))).fdiv (2 ^ min (1 : Int).toNat IntKind.u64.bits))) + m)) - ij26)))) && (decide ((wI ((wI ((wI ((wU (wI (a + b))).fdiv (2 ^ min (1 : Int).toNat IntKind.u64.bits))) + m)) - ij26)) < b))) = true -> ∃ y65, slices_symMergeCmpFunc_Slot n0 lj30 (wI ((wU (wI (a + b))).fdiv (2 ^ min (1 : Int).toNat IntKind.u64.bits))) (wI ((wI ((wI ((wU (wI (a + b))).fdiv (2 ^ min (1 : Int).toNat IntKind.u64.bits))) + m)) - ij26)) b cmp y65 /\ (lj30 ≠ [] /\ y65 ≠ []) /\ (y65 ≠ [] /\ r = y65)) /\ (((decide ((wI ((wU (wI (a + b))).fdiv (2 ^ min (1 : Int).toNat IntKind.u64.bits))) < (wI ((wI ((wI ((wU (wI (a + b))).fdiv (2 ^ min (1 : Int).toNat IntKind.u64.bits))) + m)) - ij26)))) && (decide ((wI ((wI ((wI ((wU (wI (a + b))).fdiv (2 ^ min (1 : Int).toNat IntKind.u64.bits))) + m)) - ij26)) < b))) = false -> lj30 ≠ [] /\ r = lj30)) : slices_symMergeCmpFunc_Slot_j42 a b m ij26 n0 cmp lj30 r := by
 show D _ _ _ _ _ _ _ _
 refine ds (va 4 [(209, aB (decide ((wI ((wU (wI (a + b))).fdiv (2 ^ min (1 : Int).toNat IntKind.u64.bits))) < (wI ((wI ((wI ((wU (wI (a + b))).fdiv (2 ^ min (1 : Int).toNat IntKind.u64.bits))) + m)) - ij26)))))] (vj 209 213 8 (decide ((wI ((wU (wI (a + b))).fdiv (2 ^ min (1 : Int).toNat IntKind.u64.bits))) < (wI ((wI ((wI ((wU (wI (a + b))).fdiv (2 ^ min (1 : Int).toNat IntKind.u64.bits))) + m)) - ij26)))) (fun z => aB (z && (decide ((wI ((wI ((wI ((wU (wI (a + b))).fdiv (2 ^ min (1 : Int).toNat IntKind.u64.bits))) + m)) - ij26)) < b)))) km_d (fun _ key => ?_) (fun _ key => ?_) ?_))
 ·exact va 3 [(212, aB (decide ((wI ((wI ((wI ((wU (wI (a + b))).fdiv (2 ^ min (1 : Int).toNat IntKind.u64.bits))) + m)) - ij26)) < b)))] (va 1 [(213, aB (decide ((wI ((wI ((wI ((wU (wI (a + b))).fdiv (2 ^ min (1 : Int).toNat IntKind.u64.bits))) + m)) - ij26)) < b)))] (vle km_d key))
 ·exact va 3 [(212, .tuple [])] (va 1 [(213, aB false)] (vle km_d key))
 refine ve (dw hw (fun _ hw => ?_) (fun _ hw => ?_))
 ·refine dr (va 5 [(218, .clo (.func cmp.fn) cmp.fi cmp.cap), (217, aI b), (216, aI (wI ((wI ((wI ((wU (wI (a + b))).fdiv (2 ^ min (1 : Int).toNat IntKind.u64.bits))) + m)) - ij26))), (215, aI (wI ((wU (wI (a + b))).fdiv (2 ^ min (1 : Int).toNat IntKind.u64.bits)))), (214, .row 0 0 8 n0 n0)] (hK := km_io) ?_)
  obtain ⟨y65, hy, h0, hw⟩ := hw
  exact vo rfl (x_rio 0 [.row 0 0 8 n0 n0, aI (wI ((wU (wI (a + b))).fdiv (2 ^ min (1 : Int).toNat IntKind.u64.bits))), aI (wI ((wI ((wI ((wU (wI (a + b))).fdiv (2 ^ min (1 : Int).toNat IntKind.u64.bits))) + m)) - ij26)), aI b, .clo (.func cmp.fn) cmp.fi cmp.cap] rowE_GSlot hy h0 pio66) rfl (ve (riorn rowE_GSlot hw))
 exact d_skip (riorn rowE_GSlot hw)
theorem slices_symMergeCmpFunc_Slot_j40_step (a : Int) (b : Int) (m : Int) (ij26 : Int) (n0 : Nat) (cmp : GFn) (lj29 : (List (Int × GValue))) (r : (List (Int × GValue))) (hw : (((decide (a < ij26)) && (decide (ij26 < (wI ((wU (wI (a + b))).fdiv (2 ^ min (1 : Int).toNat IntKind.u64.bits)))))) = true -> ∃ y63, slices_symMergeCmpFunc_Slot n0 lj29 a ij26 (wI ((wU (wI (a + b))).fdiv (2 ^ min (1 : Int).toNat IntKind.u64.bits))) cmp y63 /\ (lj29 ≠ [] /\ y63 ≠ []) /\ (slices_symMergeCmpFunc_Slot_j42 a b m ij26 n0 cmp y63 r)) /\ (((decide (a < ij26)) && (decide (ij26 < (wI ((wU (wI (a + b))).fdiv (2 ^ min (1 : Int).toNat IntKind.u64.bits)))))) = false -> slices_symMergeCmpFunc_Slot_j42 a b m ij26 n0 cmp lj29 r)) : slices_symMergeCmpFunc_Slot_j40 a b m ij26 n0 cmp lj29 r := by
 show D _ _ _ _ _ _ _ _
 refine d_seqQ (ds (va 4 [(195, aB (decide (a < ij26)))] (vj 195 199 8 (decide (a < ij26)) (fun z => aB (z && (decide (ij26 < (wI ((wU (wI (a + b))).fdiv (2 ^ min (1 : Int).toNat IntKind.u64.bits))))))) km_d (fun _ key => ?_) (fun _ key => ?_) ?_)))
 ·exact va 3 [(198, aB (decide (ij26 < (wI ((wU (wI (a + b))).fdiv (2 ^ min (1 : Int).toNat IntKind.u64.bits))))))] (va 1 [(199, aB (decide (ij26 < (wI ((wU (wI (a + b))).fdiv (2 ^ min (1 : Int).toNat IntKind.u64.bits))))))] (vle km_d key))
 ·exact va 3 [(198, .tuple [])] (va 1 [(199, aB false)] (vle km_d key))
 refine ve (dw hw (fun _ hw => ?_) (fun _ hw => ?_))
 ·refine dr (va 5 [(204, .clo (.func cmp.fn) cmp.fi cmp.cap), (203, aI (wI ((wU (wI (a + b))).fdiv (2 ^ min (1 : Int).toNat IntKind.u64.bits)))), (202, aI ij26), (201, aI a), (200, .row 0 0 8 n0 n0)] ?_)
  obtain ⟨y63, hy, h0, hw⟩ := hw
  exact vo rfl (x_rio 0 [.row 0 0 8 n0 n0, aI a, aI ij26, aI (wI ((wU (wI (a + b))).fdiv (2 ^ min (1 : Int).toNat IntKind.u64.bits))), .clo (.func cmp.fn) cmp.fi cmp.cap] rowE_GSlot hy h0 pio66) rfl (ve (jd0 hw))
 exact d_skip (jd0 hw)
theorem slices_symMergeCmpFunc_Slot_j36_step (a : Int) (b : Int) (m : Int) (ij27 : Int) (ij26 : Int) (n0 : Nat) (cmp : GFn) (data : (List (Int × GValue))) (r : (List (Int × GValue))) (hw : ((decide (ij26 < ij27)) = true -> (0 <= (wI ((wI ((wI ((wI ((wU (wI (a + b))).fdiv (2 ^ min (1 : Int).toNat IntKind.u64.bits))) + m)) - 1)) - (wI ((wU (wI (ij26 + ij27))).fdiv (2 ^ min (1 : Int).toNat IntKind.u64.bits))))) /\ (wI ((wI ((wI ((wI ((wU (wI (a + b))).fdiv (2 ^ min (1 : Int).toNat IntKind.u64.bits))) + m)) - 1)) - (wI ((wU (wI (ij26 + ij27))).fdiv (2 ^ min (1 : Int).toNat IntKind.u64.bits))))) < (n0 : Int)) /\ (∃ y66, data[(wI ((wI ((wI ((wI ((wU (wI (a + b))).fdiv (2 ^ min (1 : Int).toNat IntKind.u64.bits))) + m)) - 1)) - (wI ((wU (wI (ij26 + ij27))).fdiv (2 ^ min (1 : Int).toNat IntKind.u64.bits))))).toNat]? = some y66 /\ ((0 <= (wI ((wU (wI (ij26 + ij27))).fdiv (2 ^ min (1 : Int).toNat IntKind.u64.bits))) /\ (wI ((wU (wI (ij26 + ij27))).fdiv (2 ^ min (1 : Int).toNat IntKind.u64.bits))) < (n0 : Int)) /\ (∃ y67, data[(wI ((wU (wI (ij26 + ij27))).fdiv (2 ^ min (1 : Int).toNat IntKind.u64.bits))).toNat]? = some y67 /\ (∃ y68, FCall Tryd.prog [] (.clo (.func cmp.fn) cmp.fi cmp.cap) [.agg (eGSlot y66), .agg (eGSlot y67)] (aI y68) /\ (((!(decide (y68 < 0))) = true -> slices_symMergeCmpFunc_Slot_j36 a b m ij27 (wI ((wI ((wU (wI (ij26 + ij27))).fdiv (2 ^ min (1 : Int).toNat IntKind.u64.bits))) + 1)) n0 cmp data r) /\ ((!(decide (y68 < 0))) = false -> slices_symMergeCmpFunc_Slot_j36 a b m (wI ((wU (wI (ij26 + ij27))).fdiv (2 ^ min (1 : Int).toNat IntKind.u64.bits))) ij26 n0 cmp data r))))))) /\ ((decide (ij26 < ij27)) = false -> (((decide (ij26 < m)) && (decide (m < (wI ((wI ((wI ((wU (wI (a + b))).fdiv (2 ^ min (1 : Int).toNat IntKind.u64.bits))) + m)) - ij26))))) = true -> ∃ y59, slices_rotateCmpFunc_Slot n0 data ij26 m (wI ((wI ((wI ((wU (wI (a + b))).fdiv (2 ^ min (1 : Int).toNat IntKind.u64.bits))) + m)) - ij26)) cmp y59 /\ (data ≠ [] /\ y59 ≠ []) /\ (slices_symMergeCmpFunc_Slot_j40 a b m ij26 n0 cmp y59 r)) /\ (((decide (ij26 < m)) && (decide (m < (wI ((wI ((wI ((wU (wI (a + b))).fdiv (2 ^ min (1 : Int).toNat IntKind.u64.bits))) + m)) - ij26))))) = false -> slices_symMergeCmpFunc_Slot_j40 a b m ij26 n0 cmp data r))) : slices_symMergeCmpFunc_Slot_j36 a b m ij27 ij26 n0 cmp data r := by
 refine dl_unroll (d_seqQ (ds (va 3 [(151, aB (decide (ij26 < ij27)))] (ve (dw hw (fun _ hw => ?_) (fun _ hw => ?_))))))
 ·refine d_skip (d_blockQ (ds (va 7 [(23, aI (wI ((wU (wI (ij26 + ij27))).fdiv (2 ^ min (1 : Int).toNat IntKind.u64.bits))))] (ve (d_seqQ (dS [(0, (cellsOf eGSlot' data))] (sa 1 5 [(162, aI (wI ((wI ((wI ((wI ((wU (wI (a + b))).fdiv (2 ^ min (1 : Int).toNat IntKind.u64.bits))) + m)) - 1)) - (wI ((wU (wI (ij26 + ij27))).fdiv (2 ^ min (1 : Int).toNat IntKind.u64.bits)))))), (159, .row 0 0 8 n0 n0), (158, .clo (.func cmp.fn) cmp.fi cmp.cap)] ?_)))))))
  obtain ⟨h0, hw⟩ := hw
  refine sq rfl (fun _ _ => x_ridx 0 n0 n0 h0) rfl ?_
  obtain ⟨y66, hy, hw⟩ := hw
  refine sq rfl (y_rldn (sz := 8) (r := 0) (e := eGSlot') (i := (wI ((wI ((wI ((wI ((wU (wI (a + b))).fdiv (2 ^ min (1 : Int).toNat IntKind.u64.bits))) + m)) - 1)) - (wI ((wU (wI (ij26 + ij27))).fdiv (2 ^ min (1 : Int).toNat IntKind.u64.bits))))).toNat) (cs := (eGSlot y66)) (off := (0 + (wI ((wI ((wI ((wI ((wU (wI (a + b))).fdiv (2 ^ min (1 : Int).toNat IntKind.u64.bits))) + m)) - 1)) - (wI ((wU (wI (ij26 + ij27))).fdiv (2 ^ min (1 : Int).toNat IntKind.u64.bits))))).toNat * 8)) (fun _ => by rw [eGSlot'_eq]; rfl) (fun _ => by rw [eGSlot'_eq]; rfl) hy (eGSlot'_eq _) (by omega) (List.mem_of_getElem? (i := 0) rfl)) rfl (sa 1 2 [(166, aI (wI ((wU (wI (ij26 + ij27))).fdiv (2 ^ min (1 : Int).toNat IntKind.u64.bits)))), (165, .row 0 0 8 n0 n0)] ?_)
  obtain ⟨h0, hw⟩ := hw
  refine sq rfl (fun _ _ => x_ridx 0 n0 n0 h0) rfl ?_
  obtain ⟨y67, hy, hw⟩ := hw
  refine sq rfl (y_rldn (sz := 8) (r := 0) (e := eGSlot') (i := (wI ((wU (wI (ij26 + ij27))).fdiv (2 ^ min (1 : Int).toNat IntKind.u64.bits))).toNat) (cs := (eGSlot y67)) (off := (0 + (wI ((wU (wI (ij26 + ij27))).fdiv (2 ^ min (1 : Int).toNat IntKind.u64.bits))).toNat * 8)) (fun _ => by rw [eGSlot'_eq]; rfl) (fun _ => by rw [eGSlot'_eq]; rfl) hy (eGSlot'_eq _) (by omega) (List.mem_of_getElem? (i := 0) rfl)) rfl ?_
  obtain ⟨y68, hy, hw⟩ := hw
  refine sq rfl (y_fcall hy) rfl (sa 1 2 [(171, aB (!(decide (y68 < 0))))] (send (vp_start' (ve (dw hw (fun _ hw => ?_) (fun _ hw => ?_))))))
  ·exact dr (va 3 [(20, aI (wI ((wI ((wU (wI (ij26 + ij27))).fdiv (2 ^ min (1 : Int).toNat IntKind.u64.bits))) + 1)))] (ve (jl0 hw)))
  exact dr (va 2 [(21, aI (wI ((wU (wI (ij26 + ij27))).fdiv (2 ^ min (1 : Int).toNat IntKind.u64.bits))))] (ve (jl0 hw)))
 refine d_exit (ds (va 4 [(24, aI (wI ((wI ((wI ((wU (wI (a + b))).fdiv (2 ^ min (1 : Int).toNat IntKind.u64.bits))) + m)) - ij26)))] (ve (d_seqQ (ds (va 4 [(181, aB (decide (ij26 < m)))] (vj 181 185 8 (decide (ij26 < m)) (fun z => aB (z && (decide (m < (wI ((wI ((wI ((wU (wI (a + b))).fdiv (2 ^ min (1 : Int).toNat IntKind.u64.bits))) + m)) - ij26)))))) km_d (fun _ key => ?_) (fun _ key => ?_) ?_)))))))
 ·exact va 3 [(184, aB (decide (m < (wI ((wI ((wI ((wU (wI (a + b))).fdiv (2 ^ min (1 : Int).toNat IntKind.u64.bits))) + m)) - ij26)))))] (va 1 [(185, aB (decide (m < (wI ((wI ((wI ((wU (wI (a + b))).fdiv (2 ^ min (1 : Int).toNat IntKind.u64.bits))) + m)) - ij26)))))] (vle km_d key))
 ·exact va 3 [(184, .tuple [])] (va 1 [(185, aB false)] (vle km_d key))
 refine ve (dw hw (fun _ hw => ?_) (fun _ hw => ?_))
 ·refine dr (va 5 [(190, .clo (.func cmp.fn) cmp.fi cmp.cap), (189, aI (wI ((wI ((wI ((wU (wI (a + b))).fdiv (2 ^ min (1 : Int).toNat IntKind.u64.bits))) + m)) - ij26))), (188, aI m), (187, aI ij26), (186, .row 0 0 8 n0 n0)] ?_)
  obtain ⟨y59, hy, h0, hw⟩ := hw
  exact vo rfl (x_rio 0 [.row 0 0 8 n0 n0, aI ij26, aI m, aI (wI ((wI ((wI ((wU (wI (a + b))).fdiv (2 ^ min (1 : Int).toNat IntKind.u64.bits))) + m)) - ij26)), .clo (.func cmp.fn) cmp.fi cmp.cap] rowE_GSlot hy h0 pio77) rfl (ve (jd0 hw))
 exact d_skip (jd0 hw)
theorem slices_symMergeCmpFunc_Slot_j28_step (ij21 : Int) (ij22 : Int) (a : Int) (b : Int) (m : Int) (n0 : Nat) (cmp : GFn) (data : (List (Int × GValue))) (r : (List (Int × GValue))) (hw : slices_symMergeCmpFunc_Slot_j36 a b m ij21 ij22 n0 cmp data r) : slices_symMergeCmpFunc_Slot_j28 ij21 ij22 a b m n0 cmp data r := by
 show D _ _ _ _ _ _ _ _
 exact ds (va 3 [(22, aI (wI ((wI ((wI ((wU (wI (a + b))).fdiv (2 ^ min (1 : Int).toNat IntKind.u64.bits))) + m)) - 1)))] (ve (d_seqQ (d_blockQ (d_loopQ (jl0 hw))))))
theorem slices_symMergeCmpFunc_Slot_step (n0 : Nat) (data : (List (Int × GValue))) (a : Int) (m : Int) (b : Int) (cmp : GFn) (r : (List (Int × GValue))) (hw : (((wI (m - a)) == 1) = true -> slices_symMergeCmpFunc_Slot_j4 b m n0 a cmp data r) /\ (((wI (m - a)) == 1) = false -> (((wI (b - m)) == 1) = true -> slices_symMergeCmpFunc_Slot_j10 m a n0 m cmp data r) /\ (((wI (b - m)) == 1) = false -> ((decide ((wI ((wU (wI (a + b))).fdiv (2 ^ min (1 : Int).toNat IntKind.u64.bits))) < m)) = true -> slices_symMergeCmpFunc_Slot_j28 (wI ((wU (wI (a + b))).fdiv (2 ^ min (1 : Int).toNat IntKind.u64.bits))) (wI ((wI ((wI ((wU (wI (a + b))).fdiv (2 ^ min (1 : Int).toNat IntKind.u64.bits))) + m)) - b)) a b m n0 cmp data r) /\ ((decide ((wI ((wU (wI (a + b))).fdiv (2 ^ min (1 : Int).toNat IntKind.u64.bits))) < m)) = false -> slices_symMergeCmpFunc_Slot_j28 m a a b m n0 cmp data r)))) : slices_symMergeCmpFunc_Slot n0 data a m b cmp r := by
 refine f_rio fn66 nle rfl (d_seqQ (ds (va 4 [(28, aB ((wI (m - a)) == 1))] (ve (dw hw (fun _ hw => ?_) (fun _ hw => ?_))))))
 ·exact ds (va 2 [(10, aI m)] (ve (ds (va 2 [(11, aI b)] (ve (d_seqQ (d_blockQ (d_loopQ (jl0 hw)))))))))
 refine d_skip (d_seqQ (ds (va 4 [(80, aB ((wI (b - m)) == 1))] (ve (dw hw (fun _ hw => ?_) (fun _ hw => ?_))))))
 ·exact ds (va 2 [(14, aI a)] (ve (ds (va 2 [(15, aI m)] (ve (d_seqQ (d_blockQ (d_loopQ (jl0 hw)))))))))
 refine d_skip (ds (va 7 [(18, aI (wI ((wU (wI (a + b))).fdiv (2 ^ min (1 : Int).toNat IntKind.u64.bits))))] (ve (ds (va 4 [(19, aI (wI ((wI ((wU (wI (a + b))).fdiv (2 ^ min (1 : Int).toNat IntKind.u64.bits))) + m)))] (ve (ds (va 2 [] (ve (d_seqQ (ds (va 3 [(140, aB (decide ((wI ((wU (wI (a + b))).fdiv (2 ^ min (1 : Int).toNat IntKind.u64.bits))) < m)))] (ve (dw hw (fun _ hw => ?_) (fun _ hw => ?_)))))))))))))))
 ·exact ds (va 4 [(20, aI (wI ((wI ((wI ((wU (wI (a + b))).fdiv (2 ^ min (1 : Int).toNat IntKind.u64.bits))) + m)) - b)))] (ve (dr (va 2 [(21, aI (wI ((wU (wI (a + b))).fdiv (2 ^ min (1 : Int).toNat IntKind.u64.bits))))] (ve (jd0 hw))))))
 exact ds (va 2 [(20, aI a)] (ve (dr (va 2 [(21, aI m)] (ve (jd0 hw))))))
def r67_0 : LO := [o 12 (mv 2), o 13 (mv 1), o 14 (.bin .sub (T 12) (T 13)), o 10 (mv 14)]
def r67_1 : LO := [o 15 (mv 3), o 16 (mv 2), o 17 (.bin .sub (T 15) (T 16)), o 11 (mv 17)]
def r67_2 : LO := [o 18 (mv 10), o 19 (mv 11), o 20 (.bin .neq (T 18) (T 19))]
def k67_1 : ACode := .cond (T 20) .skip (.exit 0)
def r67_7 : LO := [o 21 (mv 10), o 22 (mv 11), o 23 (.bin .gtr (T 21) (T 22))]
def r67_8 : LO := [o 24 (mv 0), o 25 (mv 2), o 26 (mv 10), o 27 (.bin .sub (T 25) (T 26)), o 28 (mv 2), o 29 (mv 11), o 30 (mv 4), o 31 (.call (cf 78) [(T 24), (T 27), (T 28), (T 29), (T 30)])]
def r67_9 : LO := [o 32 (mv 10), o 33 (mv 11), o 34 (.bin .sub (T 32) (T 33)), o 10 (mv 34)]
def r67_11 : LO := [o 35 (mv 0), o 36 (mv 2), o 37 (mv 10), o 38 (.bin .sub (T 36) (T 37)), o 39 (mv 2), o 40 (mv 11), o 41 (.bin .add (T 39) (T 40)), o 42 (mv 10), o 43 (.bin .sub (T 41) (T 42)), o 44 (mv 10), o 45 (mv 4), o 46 (.call (cf 78) [(T 35), (T 38), (T 43), (T 44), (T 45)])]
def r67_12 : LO := [o 47 (mv 11), o 48 (mv 10), o 49 (.bin .sub (T 47) (T 48)), o 11 (mv 49)]
def k67_2 : ACode := .cond (T 23) (.seq (.region r67_8) (.region r67_9)) (.seq (.region r67_11) (.region r67_12))
def k67_3 : ACode := .block 1 (.seq (.region r67_7) k67_2)
def k67_4 : ACode := .seq (.seq (.region r67_2) k67_1) k67_3
def r67_20 : LO := [o 50 (mv 0), o 51 (mv 2), o 52 (mv 10), o 53 (.bin .sub (T 51) (T 52)), o 54 (mv 2), o 55 (mv 10), o 56 (mv 4), o 57 (.call (cf 78) [(T 50), (T 53), (T 54), (T 55), (T 56)])]
def k67_5 : ACode := .seq (.block 0 (.loop k67_4)) (.region r67_20)
def k67_6 : ACode := .seq (.region r67_1) k67_5
def k67_7 : ACode := .seq (.region r67_0) k67_6
theorem fn67 : getFn Tryd.prog 67 = some (58, k67_7, []) := by kernel_rfl
def q67_0 (r : (List (GValue × GValue))) : QP := qio 0 [] (.tuple []) (cellsOf eGPair' r) []
def q67_3 (r : (List (GValue × GValue))) : QP := tqi 0 Tryd.prog 58 (.region r67_20) (q67_0 r)
def q67_4 (r : (List (GValue × GValue))) : QP := inBlockA 0 (q67_3 r)
def slices_rotateCmpFunc_Pair_j2 (ij3 : Int) (ij1 : Int) (n0 : Nat) (m : Int) (cmp : GFn) (lj2 : (List (GValue × GValue))) (r : (List (GValue × GValue))) : Prop := DL Tryd.prog 58 1 0 k67_4 (q67_4 r) [(11, aI ij3), (10, aI ij1), (0, .row 0 0 14 n0 n0), (2, aI m), (4, .clo (.func cmp.fn) cmp.fi cmp.cap)] ⟨[some (cellsOf eGPair' lj2)], [], []⟩
theorem slices_rotateCmpFunc_Pair_j2_step (ij3 : Int) (ij1 : Int) (n0 : Nat) (m : Int) (cmp : GFn) (lj2 : (List (GValue × GValue))) (r : (List (GValue × GValue))) (hw : ((ij1 != ij3) = true -> ((decide (ij3 < ij1)) = true -> ∃ y5, slices_swapRangeCmpFunc_Pair n0 lj2 (wI (m - ij1)) m ij3 cmp y5 /\ (lj2 ≠ [] /\ y5 ≠ []) /\ (slices_rotateCmpFunc_Pair_j2 ij3 (wI (ij1 - ij3)) n0 m cmp y5 r)) /\ ((decide (ij3 < ij1)) = false -> ∃ y6, slices_swapRangeCmpFunc_Pair n0 lj2 (wI (m - ij1)) (wI ((wI (m + ij3)) - ij1)) ij1 cmp y6 /\ (lj2 ≠ [] /\ y6 ≠ []) /\ (slices_rotateCmpFunc_Pair_j2 (wI (ij3 - ij1)) ij1 n0 m cmp y6 r))) /\ ((ij1 != ij3) = false -> ∃ y4, slices_swapRangeCmpFunc_Pair n0 lj2 (wI (m - ij1)) m ij1 cmp y4 /\ (lj2 ≠ [] /\ y4 ≠ []) /\ (y4 ≠ [] /\ r = y4))) : slices_rotateCmpFunc_Pair_j2 ij3 ij1 n0 m cmp lj2 r := by
 refine dl_unroll (d_seqQ (ds (va 3 [(20, aB (ij1 != ij3))] (ve (dw hw (fun _ hw => ?_) (fun _ hw => ?_))))))
 ·refine d_skip (d_blockQ (ds (va 3 [(23, aB (decide (ij3 < ij1)))] (ve (dw hw (fun _ hw => ?_) (fun _ hw => ?_))))))
  ·refine ds (va 7 [(30, .clo (.func cmp.fn) cmp.fi cmp.cap), (29, aI ij3), (28, aI m), (27, aI (wI (m - ij1))), (24, .row 0 0 14 n0 n0)] ?_)
   obtain ⟨y5, hy, h0, hw⟩ := hw
   exact vo rfl (x_rio 0 [.row 0 0 14 n0 n0, aI (wI (m - ij1)), aI m, aI ij3, .clo (.func cmp.fn) cmp.fi cmp.cap] rowE_GPair hy h0 pio78) rfl (ve (dr (va 4 [(10, aI (wI (ij1 - ij3)))] (ve (jl0 hw)))))
  refine ds (va 11 [(45, .clo (.func cmp.fn) cmp.fi cmp.cap), (44, aI ij1), (43, aI (wI ((wI (m + ij3)) - ij1))), (38, aI (wI (m - ij1))), (35, .row 0 0 14 n0 n0)] ?_)
  obtain ⟨y6, hy, h0, hw⟩ := hw
  exact vo rfl (x_rio 0 [.row 0 0 14 n0 n0, aI (wI (m - ij1)), aI (wI ((wI (m + ij3)) - ij1)), aI ij1, .clo (.func cmp.fn) cmp.fi cmp.cap] rowE_GPair hy h0 pio78) rfl (ve (dr (va 4 [(11, aI (wI (ij3 - ij1)))] (ve (jl0 hw)))))
 refine d_exit (dr (va 7 [(56, .clo (.func cmp.fn) cmp.fi cmp.cap), (55, aI ij1), (54, aI m), (53, aI (wI (m - ij1))), (50, .row 0 0 14 n0 n0)] (hK := km_io) ?_))
 obtain ⟨y4, hy, h0, hw⟩ := hw
 exact vo rfl (x_rio 0 [.row 0 0 14 n0 n0, aI (wI (m - ij1)), aI m, aI ij1, .clo (.func cmp.fn) cmp.fi cmp.cap] rowE_GPair hy h0 pio78) rfl (ve (riorn rowE_GPair hw))
theorem slices_rotateCmpFunc_Pair_step (n0 : Nat) (data : (List (GValue × GValue))) (a : Int) (m : Int) (b : Int) (cmp : GFn) (r : (List (GValue × GValue))) (hw : slices_rotateCmpFunc_Pair_j2 (wI (b - m)) (wI (m - a)) n0 m cmp data r) : slices_rotateCmpFunc_Pair n0 data a m b cmp r := by
 exact f_rio fn67 nle rfl (ds (va 4 [(10, aI (wI (m - a)))] (ve (ds (va 4 [(11, aI (wI (b - m)))] (ve (d_seqQ (d_blockQ (d_loopQ (jl0 hw))))))))))
theorem plr68 (r : Bool) : plain (e68 r) = true := rfl
def r68_0 : LO := [o 2 (mb false)]
def r68_1 : LO := [o 3 (mv 0), o 4 (.bin .eql (T 3) (ci 2)), o 5 (mv 4), og 6 (mv 0) 5 false, og 7 (.bin .eql (T 6) (ci 3)) 5 false, o 8 (.pick (T 5) (cb true) (T 7)), o 2 (mv 8)]
def k68_1 : ACode := .seq (.region r68_1) .ret
def k68_2 : ACode := .seq (.region r68_0) k68_1
theorem fn68 : getFn Tryd.prog 68 = some (9, k68_2, [.tmp 2]) := by kernel_rfl
theorem ref04_signed_step (kind : Int) (r : Bool) (hw : r = ((kind == 2) || (kind == 3))) : ref04_signed kind r := by
 refine f_pureD fn68 nle rfl (ds (va 1 [] (ve (ds (va 3 [(5, aB (kind == 2))] (vj 5 8 6 (kind == 2) (fun z => aB (z || (kind == 3))) km_d (fun _ key => ?_) (fun _ key => ?_) ?_))))))
 ·exact va 2 [(7, .tuple [])] (va 1 [(8, aB true)] (vle km_d key))
 ·exact va 2 [(7, aB (kind == 3))] (va 1 [(8, aB (kind == 3))] (vle km_d key))
 exact va 1 [(2, aB ((kind == 2) || (kind == 3)))] (ve (d_ret (rx hw (plr68 _))))
theorem plr69 (r : Int) : plain (e69 r) = true := rfl
def r69_0 : LO := [o 2 (mi 0)]
def r69_1 : LO := [o 4 (mv 0), o 5 (.bin .rem (T 4) (.c (aU 9223372036854775808))), o 3 (mv 5)]
def r69_2 : LO := [o 7 (mv 3), o 8 (.bin .gtr (T 7) (.c (aU 9218868437227405312))), o 6 (mv 8)]
def r69_3 : LO := [o 2 (mi 0)]
def r69_6 : LO := [o 10 (mv 3), o 11 (.bin .eql (T 10) (.c (aU 9218868437227405312))), o 9 (mv 11)]
def r69_7 : LO := [o 2 (mi 1)]
def r69_10 : LO := [o 13 (mv 3), o 14 (.bin .eql (T 13) (.c (aU 0))), o 12 (mv 14)]
def r69_11 : LO := [o 2 (mi 2)]
def r69_14 : LO := [o 16 (mv 3), o 17 (.bin .lss (T 16) (.c (aU 4503599627370496))), o 15 (mv 17)]
def r69_15 : LO := [o 2 (mi 3)]
def k69_1 : ACode := .cond (T 15) (.seq (.region r69_15) .ret) .skip
def k69_2 : ACode := .seq (.region r69_14) k69_1
def k69_3 : ACode := .cond (T 12) (.seq (.region r69_11) .ret) k69_2
def k69_4 : ACode := .seq (.region r69_10) k69_3
def k69_5 : ACode := .cond (T 9) (.seq (.region r69_7) .ret) k69_4
def k69_6 : ACode := .seq (.region r69_6) k69_5
def k69_7 : ACode := .cond (T 6) (.seq (.region r69_3) .ret) k69_6
def k69_8 : ACode := .seq (.region r69_2) k69_7
def r69_28 : LO := [o 2 (mi 4)]
def k69_9 : ACode := .seq (.region r69_28) .ret
def k69_10 : ACode := .seq (.block 0 k69_8) k69_9
def k69_11 : ACode := .seq (.region r69_1) k69_10
def k69_12 : ACode := .seq (.region r69_0) k69_11
theorem fn69 : getFn Tryd.prog 69 = some (18, k69_12, [.tmp 2]) := by kernel_rfl
theorem ref04_Class_step (bits : Int) (r : Int) (hw : ((decide (9218868437227405312 < (bits.tmod 9223372036854775808))) = true -> r = 0) /\ ((decide (9218868437227405312 < (bits.tmod 9223372036854775808))) = false -> (((bits.tmod 9223372036854775808) == 9218868437227405312) = true -> r = 1) /\ (((bits.tmod 9223372036854775808) == 9218868437227405312) = false -> (((bits.tmod 9223372036854775808) == 0) = true -> r = 2) /\ (((bits.tmod 9223372036854775808) == 0) = false -> ((decide ((bits.tmod 9223372036854775808) < 4503599627370496)) = true -> r = 3) /\ ((decide ((bits.tmod 9223372036854775808) < 4503599627370496)) = false -> r = 4))))) : ref04_Class bits r := by
 refine f_pureD fn69 nle rfl (ds (va 1 [] (ve (ds (va 3 [(3, aU (bits.tmod 9223372036854775808))] (ve (d_seqQ (d_blockQ (ds (va 3 [(6, aB (decide (9218868437227405312 < (bits.tmod 9223372036854775808))))] (ve (dw hw (fun _ hw => ?_) (fun _ hw => ?_)))))))))))))
 ·exact ds (va 1 [(2, aI 0)] (ve (d_ret (rx hw (plr69 _)))))
 refine ds (va 3 [(9, aB ((bits.tmod 9223372036854775808) == 9218868437227405312))] (ve (dw hw (fun _ hw => ?_) (fun _ hw => ?_))))
 ·exact ds (va 1 [(2, aI 1)] (ve (d_ret (rx hw (plr69 _)))))
 refine ds (va 3 [(12, aB ((bits.tmod 9223372036854775808) == 0))] (ve (dw hw (fun _ hw => ?_) (fun _ hw => ?_))))
 ·exact ds (va 1 [(2, aI 2)] (ve (d_ret (rx hw (plr69 _)))))
 refine ds (va 3 [(15, aB (decide ((bits.tmod 9223372036854775808) < 4503599627370496)))] (ve (dw hw (fun _ hw => ?_) (fun _ hw => ?_))))
 ·exact ds (va 1 [(2, aI 3)] (ve (d_ret (rx hw (plr69 _)))))
 exact d_skip (ds (va 1 [(2, aI 4)] (ve (d_ret (rx hw (plr69 _))))))
def r70_0 : LO := [o 2 (mi 0)]
def r70_1 : LO := [o 5 (mv 0), o 6 (.range (T 5))]
def r70_2 : LO := [o 7 (.next (T 6)), o 8 (.extract 0 (T 7))]
def r70_6 : LO := [o 9 (.extract 1 (T 7)), o 10 (.extract 2 (T 7)), o 3 (mv 9), o 4 (mv 10)]
def r70_7 : LO := [o 11 (mv 0), o 12 (mv 3), o 13 (mv 4), o 14 (.call (cf 79) [(T 11), (T 12), (T 13)])]
def r70_8 : LO := [o 15 (mv 3), o 2 (mv 15)]
def k70_1 : ACode := .cond (T 14) (.seq (.region r70_8) .ret) .skip
def k70_2 : ACode := .seq (.region r70_7) k70_1
def k70_3 : ACode := .block 1 (.seq (.region r70_6) k70_2)
def k70_4 : ACode := .seq (.cond (T 8) .skip (.exit 0)) k70_3
def k70_5 : ACode := .seq (.region r70_2) k70_4
def k70_6 : ACode := .block 0 (.loop k70_5)
def r70_21 : LO := [o 2 (mi (-1))]
def k70_7 : ACode := .seq (.region r70_21) .ret
def k70_8 : ACode := .seq (.seq (.region r70_1) k70_6) k70_7
def k70_9 : ACode := .seq (.region r70_0) k70_8
theorem fn70 : getFn Tryd.prog 70 = some (16, k70_9, [.tmp 2]) := by kernel_rfl
def r77_0 : LO := [o 12 (mv 2), o 13 (mv 1), o 14 (.bin .sub (T 12) (T 13)), o 10 (mv 14)]
def r77_1 : LO := [o 15 (mv 3), o 16 (mv 2), o 17 (.bin .sub (T 15) (T 16)), o 11 (mv 17)]
def r77_2 : LO := [o 18 (mv 10), o 19 (mv 11), o 20 (.bin .neq (T 18) (T 19))]
def k77_1 : ACode := .cond (T 20) .skip (.exit 0)
def r77_7 : LO := [o 21 (mv 10), o 22 (mv 11), o 23 (.bin .gtr (T 21) (T 22))]
def r77_8 : LO := [o 24 (mv 0), o 25 (mv 2), o 26 (mv 10), o 27 (.bin .sub (T 25) (T 26)), o 28 (mv 2), o 29 (mv 11), o 30 (mv 4), o 31 (.call (cf 86) [(T 24), (T 27), (T 28), (T 29), (T 30)])]
def r77_9 : LO := [o 32 (mv 10), o 33 (mv 11), o 34 (.bin .sub (T 32) (T 33)), o 10 (mv 34)]
def r77_11 : LO := [o 35 (mv 0), o 36 (mv 2), o 37 (mv 10), o 38 (.bin .sub (T 36) (T 37)), o 39 (mv 2), o 40 (mv 11), o 41 (.bin .add (T 39) (T 40)), o 42 (mv 10), o 43 (.bin .sub (T 41) (T 42)), o 44 (mv 10), o 45 (mv 4), o 46 (.call (cf 86) [(T 35), (T 38), (T 43), (T 44), (T 45)])]
def r77_12 : LO := [o 47 (mv 11), o 48 (mv 10), o 49 (.bin .sub (T 47) (T 48)), o 11 (mv 49)]
def k77_2 : ACode := .cond (T 23) (.seq (.region r77_8) (.region r77_9)) (.seq (.region r77_11) (.region r77_12))
def k77_3 : ACode := .block 1 (.seq (.region r77_7) k77_2)
def k77_4 : ACode := .seq (.seq (.region r77_2) k77_1) k77_3
def r77_20 : LO := [o 50 (mv 0), o 51 (mv 2), o 52 (mv 10), o 53 (.bin .sub (T 51) (T 52)), o 54 (mv 2), o 55 (mv 10), o 56 (mv 4), o 57 (.call (cf 86) [(T 50), (T 53), (T 54), (T 55), (T 56)])]
def k77_5 : ACode := .seq (.block 0 (.loop k77_4)) (.region r77_20)
def k77_6 : ACode := .seq (.region r77_1) k77_5
def k77_7 : ACode := .seq (.region r77_0) k77_6
theorem fn77 : getFn Tryd.prog 77 = some (58, k77_7, []) := by kernel_rfl
def q77_0 (r : (List (Int × GValue))) : QP := qio 0 [] (.tuple []) (cellsOf eGSlot' r) []
def q77_3 (r : (List (Int × GValue))) : QP := tqi 0 Tryd.prog 58 (.region r77_20) (q77_0 r)
def q77_4 (r : (List (Int × GValue))) : QP := inBlockA 0 (q77_3 r)
def slices_rotateCmpFunc_Slot_j2 (ij3 : Int) (ij1 : Int) (n0 : Nat) (m : Int) (cmp : GFn) (lj2 : (List (Int × GValue))) (r : (List (Int × GValue))) : Prop := DL Tryd.prog 58 1 0 k77_4 (q77_4 r) [(11, aI ij3), (10, aI ij1), (0, .row 0 0 8 n0 n0), (2, aI m), (4, .clo (.func cmp.fn) cmp.fi cmp.cap)] ⟨[some (cellsOf eGSlot' lj2)], [], []⟩
theorem slices_rotateCmpFunc_Slot_j2_step (ij3 : Int) (ij1 : Int) (n0 : Nat) (m : Int) (cmp : GFn) (lj2 : (List (Int × GValue))) (r : (List (Int × GValue))) (hw : ((ij1 != ij3) = true -> ((decide (ij3 < ij1)) = true -> ∃ y5, slices_swapRangeCmpFunc_Slot n0 lj2 (wI (m - ij1)) m ij3 cmp y5 /\ (lj2 ≠ [] /\ y5 ≠ []) /\ (slices_rotateCmpFunc_Slot_j2 ij3 (wI (ij1 - ij3)) n0 m cmp y5 r)) /\ ((decide (ij3 < ij1)) = false -> ∃ y6, slices_swapRangeCmpFunc_Slot n0 lj2 (wI (m - ij1)) (wI ((wI (m + ij3)) - ij1)) ij1 cmp y6 /\ (lj2 ≠ [] /\ y6 ≠ []) /\ (slices_rotateCmpFunc_Slot_j2 (wI (ij3 - ij1)) ij1 n0 m cmp y6 r))) /\ ((ij1 != ij3) = false -> ∃ y4, slices_swapRangeCmpFunc_Slot n0 lj2 (wI (m - ij1)) m ij1 cmp y4 /\ (lj2 ≠ [] /\ y4 ≠ []) /\ (y4 ≠ [] /\ r = y4))) : slices_rotateCmpFunc_Slot_j2 ij3 ij1 n0 m cmp lj2 r := by
 refine dl_unroll (d_seqQ (ds (va 3 [(20, aB (ij1 != ij3))] (ve (dw hw (fun _ hw => ?_) (fun _ hw => ?_))))))
 ·refine d_skip (d_blockQ (ds (va 3 [(23, aB (decide (ij3 < ij1)))] (ve (dw hw (fun _ hw => ?_) (fun _ hw => ?_))))))
  ·refine ds (va 7 [(30, .clo (.func cmp.fn) cmp.fi cmp.cap), (29, aI ij3), (28, aI m), (27, aI (wI (m - ij1))), (24, .row 0 0 8 n0 n0)] ?_)
   obtain ⟨y5, hy, h0, hw⟩ := hw
   exact vo rfl (x_rio 0 [.row 0 0 8 n0 n0, aI (wI (m - ij1)), aI m, aI ij3, .clo (.func cmp.fn) cmp.fi cmp.cap] rowE_GSlot hy h0 pio86) rfl (ve (dr (va 4 [(10, aI (wI (ij1 - ij3)))] (ve (jl0 hw)))))
  refine ds (va 11 [(45, .clo (.func cmp.fn) cmp.fi cmp.cap), (44, aI ij1), (43, aI (wI ((wI (m + ij3)) - ij1))), (38, aI (wI (m - ij1))), (35, .row 0 0 8 n0 n0)] ?_)
  obtain ⟨y6, hy, h0, hw⟩ := hw
  exact vo rfl (x_rio 0 [.row 0 0 8 n0 n0, aI (wI (m - ij1)), aI (wI ((wI (m + ij3)) - ij1)), aI ij1, .clo (.func cmp.fn) cmp.fi cmp.cap] rowE_GSlot hy h0 pio86) rfl (ve (dr (va 4 [(11, aI (wI (ij3 - ij1)))] (ve (jl0 hw)))))
 refine d_exit (dr (va 7 [(56, .clo (.func cmp.fn) cmp.fi cmp.cap), (55, aI ij1), (54, aI m), (53, aI (wI (m - ij1))), (50, .row 0 0 8 n0 n0)] (hK := km_io) ?_))
 obtain ⟨y4, hy, h0, hw⟩ := hw
 exact vo rfl (x_rio 0 [.row 0 0 8 n0 n0, aI (wI (m - ij1)), aI m, aI ij1, .clo (.func cmp.fn) cmp.fi cmp.cap] rowE_GSlot hy h0 pio86) rfl (ve (riorn rowE_GSlot hw))
theorem slices_rotateCmpFunc_Slot_step (n0 : Nat) (data : (List (Int × GValue))) (a : Int) (m : Int) (b : Int) (cmp : GFn) (r : (List (Int × GValue))) (hw : slices_rotateCmpFunc_Slot_j2 (wI (b - m)) (wI (m - a)) n0 m cmp data r) : slices_rotateCmpFunc_Slot n0 data a m b cmp r := by
 exact f_rio fn77 nle rfl (ds (va 4 [(10, aI (wI (m - a)))] (ve (ds (va 4 [(11, aI (wI (b - m)))] (ve (d_seqQ (d_blockQ (d_loopQ (jl0 hw))))))))))
def r78_0 : LO := [o 10 (mi 0)]
def r78_1 : LO := [o 11 (mv 10), o 12 (mv 3), o 13 (.bin .lss (T 11) (T 12))]
def k78_1 : ACode := .cond (T 13) .skip (.exit 0)
def r78_6 : LO := [o 16 (mv 0), o 17 (mv 1), o 18 (mv 10), o 19 (.bin .add (T 17) (T 18)), o 20 (mv 0), o 21 (mv 2), o 22 (mv 10), o 23 (.bin .add (T 21) (T 22)), o 24 (mv 0), o 25 (mv 2), o 26 (mv 10), o 27 (.bin .add (T 25) (T 26)), o 28 (.idxSl 14 (T 24) (T 27)), o 29 (ln 14 28), o 30 (mv 0), o 31 (mv 1), o 32 (mv 10), o 33 (.bin .add (T 31) (T 32)), o 34 (.idxSl 14 (T 30) (T 33)), o 35 (ln 14 34), o 36 (.idxSl 14 (T 16) (T 19)), on (st 14 36 29)]
def r78_6t : LO := [o 37 (.idxSl 14 (T 20) (T 23)), on (st 14 37 35)]
def r78_6o : LN := [[], [], [], [1, 2], [], [], [], [5, 6], [], [], [], [9, 10], [8, 11], [12], [], [], [], [15, 16], [14, 17], [18], [0, 1, 2, 3, 8, 9, 10, 11, 12, 13, 19], [0, 1, 2, 3, 8, 9, 10, 11, 12, 13, 19, 20]]
def r78_8 : LO := [o 14 (mv 10), o 15 (.bin .add (T 14) (ci 1)), o 10 (mv 15)]
def k78_2 : ACode := .seq (.block 1 (.drawn r78_6o r78_6 r78_6t)) (.region r78_8)
def k78_3 : ACode := .seq (.seq (.region r78_1) k78_1) k78_2
def k78_4 : ACode := .block 0 (.loop k78_3)
def k78_5 : ACode := .seq (.region r78_0) k78_4
theorem fn78 : getFn Tryd.prog 78 = some (38, k78_5, []) := by kernel_rfl
def q78_0 (r : (List (GValue × GValue))) : QP := qio 0 [] (.tuple []) (cellsOf eGPair' r) []
def q78_2 (r : (List (GValue × GValue))) : QP := inBlockA 0 (q78_0 r)
def slices_swapRangeCmpFunc_Pair_j2 (ij1 : Int) (n0 : Nat) (a : Int) (b : Int) (n : Int) (lj2 : (List (GValue × GValue))) (r : (List (GValue × GValue))) : Prop := DL Tryd.prog 38 1 0 k78_3 (q78_2 r) [(10, aI ij1), (0, .row 0 0 14 n0 n0), (1, aI a), (2, aI b), (3, aI n)] ⟨[some (cellsOf eGPair' lj2)], [], []⟩
theorem slices_swapRangeCmpFunc_Pair_j2_step (ij1 : Int) (n0 : Nat) (a : Int) (b : Int) (n : Int) (lj2 : (List (GValue × GValue))) (r : (List (GValue × GValue))) (hw : ((decide (ij1 < n)) = true -> (0 <= (wI (b + ij1)) /\ (wI (b + ij1)) < (n0 : Int)) /\ (∃ y3, lj2[(wI (b + ij1)).toNat]? = some y3 /\ ((0 <= (wI (a + ij1)) /\ (wI (a + ij1)) < (n0 : Int)) /\ (∃ y4, lj2[(wI (a + ij1)).toNat]? = some y4 /\ ((0 <= (wI (a + ij1)) /\ (wI (a + ij1)) < (n0 : Int)) /\ ((wI (a + ij1)).toNat < lj2.length /\ ((0 <= (wI (b + ij1)) /\ (wI (b + ij1)) < (n0 : Int)) /\ ((wI (b + ij1)).toNat < (lj2.set (wI (a + ij1)).toNat y3).length /\ (slices_swapRangeCmpFunc_Pair_j2 (wI (ij1 + 1)) n0 a b n ((lj2.set (wI (a + ij1)).toNat y3).set (wI (b + ij1)).toNat y4) r))))))))) /\ ((decide (ij1 < n)) = false -> lj2 ≠ [] /\ r = lj2)) : slices_swapRangeCmpFunc_Pair_j2 ij1 n0 a b n lj2 r := by
 refine dl_unroll (d_seqQ (ds (va 3 [(13, aB (decide (ij1 < n)))] (ve (dw hw (fun _ hw => ?_) (fun _ hw => ?_))))))
 ·refine d_skip (d_seqQ (d_blockQ (dL 21 [(0, (cellsOf eGPair' lj2))] rfl (sa 1 12 [(27, aI (wI (b + ij1))), (24, .row 0 0 14 n0 n0), (23, aI (wI (b + ij1))), (20, .row 0 0 14 n0 n0), (19, aI (wI (a + ij1))), (16, .row 0 0 14 n0 n0)] (hK := (km_L km_d)) ?_))))
  obtain ⟨h0, hw⟩ := hw
  refine sq rfl (fun _ _ => x_ridx 0 n0 n0 h0) rfl ?_
  obtain ⟨y3, hy, hw⟩ := hw
  refine sq rfl (y_rldn (sz := 14) (r := 0) (e := eGPair') (i := (wI (b + ij1)).toNat) (cs := (eGPair y3)) (off := (0 + (wI (b + ij1)).toNat * 14)) (fun _ => by rw [eGPair'_eq]; rfl) (fun _ => by rw [eGPair'_eq]; rfl) hy (eGPair'_eq _) (by omega) (List.mem_of_getElem? (i := 0) rfl)) rfl (sa 1 4 [(33, aI (wI (a + ij1))), (30, .row 0 0 14 n0 n0)] (hK := (km_L km_d)) ?_)
  obtain ⟨h0, hw⟩ := hw
  refine sq rfl (fun _ _ => x_ridx 0 n0 n0 h0) rfl ?_
  obtain ⟨y4, hy, hw⟩ := hw
  refine sq rfl (y_rldn (sz := 14) (r := 0) (e := eGPair') (i := (wI (a + ij1)).toNat) (cs := (eGPair y4)) (off := (0 + (wI (a + ij1)).toNat * 14)) (fun _ => by rw [eGPair'_eq]; rfl) (fun _ => by rw [eGPair'_eq]; rfl) hy (eGPair'_eq _) (by omega) (List.mem_of_getElem? (i := 0) rfl)) rfl ?_
  obtain ⟨h0, hw⟩ := hw
  refine sq rfl (fun _ _ => x_ridx 0 n0 n0 h0) rfl (send ?_)
  obtain ⟨h0, hw⟩ := hw
  refine ⟨_, _, (x_rst (sz := 14) (r := 0) (e := eGPair') (i := (wI (a + ij1)).toNat) (off := (0 + (wI (a + ij1)).toNat * 14)) (l := lj2) (av := .agg (eGPair y3)) y3 (fun _ => by rw [eGPair'_eq]; rfl) (fun _ => by rw [eGPair'_eq]; rfl) h0 (eGPair'_eq _) (by omega)), ?_⟩
  obtain ⟨h0, hw⟩ := hw
  refine vo rfl (x_ridx 0 n0 n0 h0) rfl ?_
  obtain ⟨h0, hw⟩ := hw
  exact vw rfl (x_rst (sz := 14) (r := 0) (e := eGPair') (i := (wI (b + ij1)).toNat) (off := (0 + (wI (b + ij1)).toNat * 14)) (l := (lj2.set (wI (a + ij1)).toNat y3)) (av := .agg (eGPair y4)) y4 (fun _ => by rw [eGPair'_eq]; rfl) (fun _ => by rw [eGPair'_eq]; rfl) h0 (eGPair'_eq _) (by omega)) (ve (dr (va 3 [(10, aI (wI (ij1 + 1)))] (ve (jl0 hw)))))
 exact d_exit (riorn rowE_GPair hw)
theorem slices_swapRangeCmpFunc_Pair_step (n0 : Nat) (data : (List (GValue × GValue))) (a : Int) (b : Int) (n : Int) (cmp : GFn) (r : (List (GValue × GValue))) (hw : slices_swapRangeCmpFunc_Pair_j2 0 n0 a b n data r) : slices_swapRangeCmpFunc_Pair n0 data a b n cmp r := by
 exact f_rio fn78 nle rfl (ds (va 1 [(10, aI 0)] (ve (d_blockQ (d_loopQ (jl0 hw))))))
def r79_0 : LO := [o 6 (mb false)]
def r79_1 : LO := [o 7 (mv 2), o 8 (.bin .eql (T 7) (.c (.v (.int .i32 65533)))), o 9 (mv 8), og 10 (mv 0) 9 true, og 11 (mv 1) 9 true, og 12 (.sliceS (T 10) (some (T 11)) none) 9 true, og 13 (.call (cf 87) [(T 12), (.c (aS ⟨#[239, 191, 189]⟩))]) 9 true, og 14 (.un .not (T 13)) 9 true, o 15 (.pick (T 9) (T 14) (cb false)), o 6 (mv 15)]
def k79_1 : ACode := .seq (.region r79_1) .ret
def k79_2 : ACode := .seq (.region r79_0) k79_1
theorem fn79 : getFn Tryd.prog 79 = some (16, k79_2, [.tmp 6]) := by kernel_rfl
def r86_0 : LO := [o 10 (mi 0)]
def r86_1 : LO := [o 11 (mv 10), o 12 (mv 3), o 13 (.bin .lss (T 11) (T 12))]
def k86_1 : ACode := .cond (T 13) .skip (.exit 0)
def r86_6 : LO := [o 16 (mv 0), o 17 (mv 1), o 18 (mv 10), o 19 (.bin .add (T 17) (T 18)), o 20 (mv 0), o 21 (mv 2), o 22 (mv 10), o 23 (.bin .add (T 21) (T 22)), o 24 (mv 0), o 25 (mv 2), o 26 (mv 10), o 27 (.bin .add (T 25) (T 26)), o 28 (.idxSl 8 (T 24) (T 27)), o 29 (ln 8 28), o 30 (mv 0), o 31 (mv 1), o 32 (mv 10), o 33 (.bin .add (T 31) (T 32)), o 34 (.idxSl 8 (T 30) (T 33)), o 35 (ln 8 34), o 36 (.idxSl 8 (T 16) (T 19)), on (st 8 36 29)]
def r86_6t : LO := [o 37 (.idxSl 8 (T 20) (T 23)), on (st 8 37 35)]
def r86_6o : LN := [[], [], [], [1, 2], [], [], [], [5, 6], [], [], [], [9, 10], [8, 11], [12], [], [], [], [15, 16], [14, 17], [18], [0, 1, 2, 3, 8, 9, 10, 11, 12, 13, 19], [0, 1, 2, 3, 8, 9, 10, 11, 12, 13, 19, 20]]
def r86_8 : LO := [o 14 (mv 10), o 15 (.bin .add (T 14) (ci 1)), o 10 (mv 15)]
def k86_2 : ACode := .seq (.block 1 (.drawn r86_6o r86_6 r86_6t)) (.region r86_8)
def k86_3 : ACode := .seq (.seq (.region r86_1) k86_1) k86_2
def k86_4 : ACode := .block 0 (.loop k86_3)
def k86_5 : ACode := .seq (.region r86_0) k86_4
theorem fn86 : getFn Tryd.prog 86 = some (38, k86_5, []) := by kernel_rfl
def q86_0 (r : (List (Int × GValue))) : QP := qio 0 [] (.tuple []) (cellsOf eGSlot' r) []
def q86_2 (r : (List (Int × GValue))) : QP := inBlockA 0 (q86_0 r)
def slices_swapRangeCmpFunc_Slot_j2 (ij1 : Int) (n0 : Nat) (a : Int) (b : Int) (n : Int) (lj2 : (List (Int × GValue))) (r : (List (Int × GValue))) : Prop := DL Tryd.prog 38 1 0 k86_3 (q86_2 r) [(10, aI ij1), (0, .row 0 0 8 n0 n0), (1, aI a), (2, aI b), (3, aI n)] ⟨[some (cellsOf eGSlot' lj2)], [], []⟩
theorem slices_swapRangeCmpFunc_Slot_j2_step (ij1 : Int) (n0 : Nat) (a : Int) (b : Int) (n : Int) (lj2 : (List (Int × GValue))) (r : (List (Int × GValue))) (hw : ((decide (ij1 < n)) = true -> (0 <= (wI (b + ij1)) /\ (wI (b + ij1)) < (n0 : Int)) /\ (∃ y3, lj2[(wI (b + ij1)).toNat]? = some y3 /\ ((0 <= (wI (a + ij1)) /\ (wI (a + ij1)) < (n0 : Int)) /\ (∃ y4, lj2[(wI (a + ij1)).toNat]? = some y4 /\ ((0 <= (wI (a + ij1)) /\ (wI (a + ij1)) < (n0 : Int)) /\ ((wI (a + ij1)).toNat < lj2.length /\ ((0 <= (wI (b + ij1)) /\ (wI (b + ij1)) < (n0 : Int)) /\ ((wI (b + ij1)).toNat < (lj2.set (wI (a + ij1)).toNat y3).length /\ (slices_swapRangeCmpFunc_Slot_j2 (wI (ij1 + 1)) n0 a b n ((lj2.set (wI (a + ij1)).toNat y3).set (wI (b + ij1)).toNat y4) r))))))))) /\ ((decide (ij1 < n)) = false -> lj2 ≠ [] /\ r = lj2)) : slices_swapRangeCmpFunc_Slot_j2 ij1 n0 a b n lj2 r := by
 refine dl_unroll (d_seqQ (ds (va 3 [(13, aB (decide (ij1 < n)))] (ve (dw hw (fun _ hw => ?_) (fun _ hw => ?_))))))
 ·refine d_skip (d_seqQ (d_blockQ (dL 21 [(0, (cellsOf eGSlot' lj2))] rfl (sa 1 12 [(27, aI (wI (b + ij1))), (24, .row 0 0 8 n0 n0), (23, aI (wI (b + ij1))), (20, .row 0 0 8 n0 n0), (19, aI (wI (a + ij1))), (16, .row 0 0 8 n0 n0)] (hK := (km_L km_d)) ?_))))
  obtain ⟨h0, hw⟩ := hw
  refine sq rfl (fun _ _ => x_ridx 0 n0 n0 h0) rfl ?_
  obtain ⟨y3, hy, hw⟩ := hw
  refine sq rfl (y_rldn (sz := 8) (r := 0) (e := eGSlot') (i := (wI (b + ij1)).toNat) (cs := (eGSlot y3)) (off := (0 + (wI (b + ij1)).toNat * 8)) (fun _ => by rw [eGSlot'_eq]; rfl) (fun _ => by rw [eGSlot'_eq]; rfl) hy (eGSlot'_eq _) (by omega) (List.mem_of_getElem? (i := 0) rfl)) rfl (sa 1 4 [(33, aI (wI (a + ij1))), (30, .row 0 0 8 n0 n0)] (hK := (km_L km_d)) ?_)
  obtain ⟨h0, hw⟩ := hw
  refine sq rfl (fun _ _ => x_ridx 0 n0 n0 h0) rfl ?_
  obtain ⟨y4, hy, hw⟩ := hw
  refine sq rfl (y_rldn (sz := 8) (r := 0) (e := eGSlot') (i := (wI (a + ij1)).toNat) (cs := (eGSlot y4)) (off := (0 + (wI (a + ij1)).toNat * 8)) (fun _ => by rw [eGSlot'_eq]; rfl) (fun _ => by rw [eGSlot'_eq]; rfl) hy (eGSlot'_eq _) (by omega) (List.mem_of_getElem? (i := 0) rfl)) rfl ?_
  obtain ⟨h0, hw⟩ := hw
  refine sq rfl (fun _ _ => x_ridx 0 n0 n0 h0) rfl (send ?_)
  obtain ⟨h0, hw⟩ := hw
  refine ⟨_, _, (x_rst (sz := 8) (r := 0) (e := eGSlot') (i := (wI (a + ij1)).toNat) (off := (0 + (wI (a + ij1)).toNat * 8)) (l := lj2) (av := .agg (eGSlot y3)) y3 (fun _ => by rw [eGSlot'_eq]; rfl) (fun _ => by rw [eGSlot'_eq]; rfl) h0 (eGSlot'_eq _) (by omega)), ?_⟩
  obtain ⟨h0, hw⟩ := hw
  refine vo rfl (x_ridx 0 n0 n0 h0) rfl ?_
  obtain ⟨h0, hw⟩ := hw
  exact vw rfl (x_rst (sz := 8) (r := 0) (e := eGSlot') (i := (wI (b + ij1)).toNat) (off := (0 + (wI (b + ij1)).toNat * 8)) (l := (lj2.set (wI (a + ij1)).toNat y3)) (av := .agg (eGSlot y4)) y4 (fun _ => by rw [eGSlot'_eq]; rfl) (fun _ => by rw [eGSlot'_eq]; rfl) h0 (eGSlot'_eq _) (by omega)) (ve (dr (va 3 [(10, aI (wI (ij1 + 1)))] (ve (jl0 hw)))))
 exact d_exit (riorn rowE_GSlot hw)
theorem slices_swapRangeCmpFunc_Slot_step (n0 : Nat) (data : (List (Int × GValue))) (a : Int) (b : Int) (n : Int) (cmp : GFn) (r : (List (Int × GValue))) (hw : slices_swapRangeCmpFunc_Slot_j2 0 n0 a b n data r) : slices_swapRangeCmpFunc_Slot n0 data a b n cmp r := by
 exact f_rio fn86 nle rfl (ds (va 1 [(10, aI 0)] (ve (d_blockQ (d_loopQ (jl0 hw))))))
end
theorem tok_nil {P : Program} : TblOK P [] := fun g x h => by cases h
theorem tok_cons {P : Program} {T : Tbl} {g : Nat} {x : Nat × ACode × List ARes} (h : getFn P g = some x) (ht : TblOK P T) : TblOK P ((g, x) :: T) := fun g2 x2 hm => by
 rcases List.mem_cons.1 hm with h2 | h2
 ·cases h2; exact h
 ·exact ht g2 x2 h2
theorem run_pureN {P : Program} {T : Tbl} {M : Nat -> Bool -> Bool} {md : Bool} (hT : TblOK P T) (n : Nat) {f : FuncId} {args : List AV} {gl : List (Nat × List AV)} {a : AV} (he : (fnAt T M md (evC T M n) f args ⟨[], [], gl⟩).map (fun r => outV r.2 r.1) = some a) (hp : plain a = true) : PureN P gl f args (nz a) := by
 have h := run_pure hT n he hp
 refine ⟨h.1, fun w outer cargs ho hg hr => (h.2 w outer cargs ho hg hr).mono fun e w1 hq => ?_⟩
 obtain ⟨b, x, q1, q2, q3, rfl⟩ := hq
 exact ⟨b, x, q1, q2, q3, rfl⟩
def CGPair (cmp : GFn) (x y : (GValue × GValue)) (z : Int) : Prop := FCall Tryd.prog [] (.clo (.func cmp.fn) cmp.fi cmp.cap) [.agg (eGPair x), .agg (eGPair y)] (.v (.int .i64 z))
def sortGPair (cmp : GFn) : SortP ((GValue × GValue)) (CGPair cmp) where
 swj := fun a0 a1 a2 a3 a4 a5 a6 => slices_swapRangeCmpFunc_Pair_j2 a0 a1 a2 a3 a4 a5 a6
 sw := fun a0 a1 a2 a3 a4 a6 => slices_swapRangeCmpFunc_Pair a0 a1 a2 a3 a4 cmp a6
 roj := fun a0 a1 a2 a3 a5 a6 => slices_rotateCmpFunc_Pair_j2 a0 a1 a2 a3 cmp a5 a6
 ro := fun a0 a1 a2 a3 a4 a6 => slices_rotateCmpFunc_Pair a0 a1 a2 a3 a4 cmp a6
 in6 := fun a0 a1 a2 a3 a4 a6 a7 => slices_insertionSortCmpFunc_Pair_j6 a0 a1 a2 a3 a4 cmp a6 a7
 in4 := fun a0 a1 a2 a3 a5 a6 => slices_insertionSortCmpFunc_Pair_j4 a0 a1 a2 a3 cmp a5 a6
 ins := fun a0 a1 a2 a3 a5 => slices_insertionSortCmpFunc_Pair a0 a1 a2 a3 cmp a5
 sy6 := fun a0 a1 a2 a3 a4 => slices_symMergeCmpFunc_Pair_j6 a0 a1 a2 a3 a4
 sy4 := fun a0 a1 a2 a3 a5 a6 => slices_symMergeCmpFunc_Pair_j4 a0 a1 a2 a3 cmp a5 a6
 sy12 := fun a0 a1 a2 a3 a4 => slices_symMergeCmpFunc_Pair_j12 a0 a1 a2 a3 a4
 sy10 := fun a0 a1 a2 a3 a5 a6 => slices_symMergeCmpFunc_Pair_j10 a0 a1 a2 a3 cmp a5 a6
 sy42 := fun a0 a1 a2 a3 a4 a6 a7 => slices_symMergeCmpFunc_Pair_j42 a0 a1 a2 a3 a4 cmp a6 a7
 sy40 := fun a0 a1 a2 a3 a4 a6 a7 => slices_symMergeCmpFunc_Pair_j40 a0 a1 a2 a3 a4 cmp a6 a7
 sy36 := fun a0 a1 a2 a3 a4 a5 a7 a8 => slices_symMergeCmpFunc_Pair_j36 a0 a1 a2 a3 a4 a5 cmp a7 a8
 sy28 := fun a0 a1 a2 a3 a4 a5 a7 a8 => slices_symMergeCmpFunc_Pair_j28 a0 a1 a2 a3 a4 a5 cmp a7 a8
 sy := fun a0 a1 a2 a3 a4 a6 => slices_symMergeCmpFunc_Pair a0 a1 a2 a3 a4 cmp a6
 st14 := fun a0 a1 a2 a3 a4 a6 a7 => slices_stableCmpFunc_Pair_j14 a0 a1 a2 a3 a4 cmp a6 a7
 st12 := fun a0 a1 a2 a4 a5 => slices_stableCmpFunc_Pair_j12 a0 a1 a2 cmp a4 a5
 st8 := fun a0 a1 a2 a3 a5 a6 => slices_stableCmpFunc_Pair_j8 a0 a1 a2 a3 cmp a5 a6
 st := fun a0 a1 a2 a4 => slices_stableCmpFunc_Pair a0 a1 a2 cmp a4
 so := fun a0 a1 a3 => slices_SortStableFunc_LPair_Pair a0 a1 cmp a3
 h_swj := fun a0 a1 a2 a3 a4 a5 a6 h => slices_swapRangeCmpFunc_Pair_j2_step a0 a1 a2 a3 a4 a5 a6 h
 h_sw := fun a0 a1 a2 a3 a4 a6 h => slices_swapRangeCmpFunc_Pair_step a0 a1 a2 a3 a4 cmp a6 h
 h_roj := fun a0 a1 a2 a3 a5 a6 h => slices_rotateCmpFunc_Pair_j2_step a0 a1 a2 a3 cmp a5 a6 h
 h_ro := fun a0 a1 a2 a3 a4 a6 h => slices_rotateCmpFunc_Pair_step a0 a1 a2 a3 a4 cmp a6 h
 h_in6 := fun a0 a1 a2 a3 a4 a6 a7 h => slices_insertionSortCmpFunc_Pair_j6_step a0 a1 a2 a3 a4 cmp a6 a7 h
 h_in4 := fun a0 a1 a2 a3 a5 a6 h => slices_insertionSortCmpFunc_Pair_j4_step a0 a1 a2 a3 cmp a5 a6 h
 h_ins := fun a0 a1 a2 a3 a5 h => slices_insertionSortCmpFunc_Pair_step a0 a1 a2 a3 cmp a5 h
 h_sy6 := fun a0 a1 a2 a3 a4 h => slices_symMergeCmpFunc_Pair_j6_step a0 a1 a2 a3 a4 h
 h_sy4 := fun a0 a1 a2 a3 a5 a6 h => slices_symMergeCmpFunc_Pair_j4_step a0 a1 a2 a3 cmp a5 a6 h
 h_sy12 := fun a0 a1 a2 a3 a4 h => slices_symMergeCmpFunc_Pair_j12_step a0 a1 a2 a3 a4 h
 h_sy10 := fun a0 a1 a2 a3 a5 a6 h => slices_symMergeCmpFunc_Pair_j10_step a0 a1 a2 a3 cmp a5 a6 h
 h_sy42 := fun a0 a1 a2 a3 a4 a6 a7 h => slices_symMergeCmpFunc_Pair_j42_step a0 a1 a2 a3 a4 cmp a6 a7 h
 h_sy40 := fun a0 a1 a2 a3 a4 a6 a7 h => slices_symMergeCmpFunc_Pair_j40_step a0 a1 a2 a3 a4 cmp a6 a7 h
 h_sy36 := fun a0 a1 a2 a3 a4 a5 a7 a8 h => slices_symMergeCmpFunc_Pair_j36_step a0 a1 a2 a3 a4 a5 cmp a7 a8 h
 h_sy28 := fun a0 a1 a2 a3 a4 a5 a7 a8 h => slices_symMergeCmpFunc_Pair_j28_step a0 a1 a2 a3 a4 a5 cmp a7 a8 h
 h_sy := fun a0 a1 a2 a3 a4 a6 h => slices_symMergeCmpFunc_Pair_step a0 a1 a2 a3 a4 cmp a6 h
 h_st14 := fun a0 a1 a2 a3 a4 a6 a7 h => slices_stableCmpFunc_Pair_j14_step a0 a1 a2 a3 a4 cmp a6 a7 h
 h_st12 := fun a0 a1 a2 a4 a5 h => slices_stableCmpFunc_Pair_j12_step a0 a1 a2 cmp a4 a5 h
 h_st8 := fun a0 a1 a2 a3 a5 a6 h => slices_stableCmpFunc_Pair_j8_step a0 a1 a2 a3 cmp a5 a6 h
 h_st := fun a0 a1 a2 a4 h => slices_stableCmpFunc_Pair_step a0 a1 a2 cmp a4 h
 h_so := fun a0 a1 a3 h => slices_SortStableFunc_LPair_Pair_step a0 a1 cmp a3 h
def CGSlot (cmp : GFn) (x y : (Int × GValue)) (z : Int) : Prop := FCall Tryd.prog [] (.clo (.func cmp.fn) cmp.fi cmp.cap) [.agg (eGSlot x), .agg (eGSlot y)] (.v (.int .i64 z))
def sortGSlot (cmp : GFn) : SortP ((Int × GValue)) (CGSlot cmp) where
 swj := fun a0 a1 a2 a3 a4 a5 a6 => slices_swapRangeCmpFunc_Slot_j2 a0 a1 a2 a3 a4 a5 a6
 sw := fun a0 a1 a2 a3 a4 a6 => slices_swapRangeCmpFunc_Slot a0 a1 a2 a3 a4 cmp a6
 roj := fun a0 a1 a2 a3 a5 a6 => slices_rotateCmpFunc_Slot_j2 a0 a1 a2 a3 cmp a5 a6
 ro := fun a0 a1 a2 a3 a4 a6 => slices_rotateCmpFunc_Slot a0 a1 a2 a3 a4 cmp a6
 in6 := fun a0 a1 a2 a3 a4 a6 a7 => slices_insertionSortCmpFunc_Slot_j6 a0 a1 a2 a3 a4 cmp a6 a7
 in4 := fun a0 a1 a2 a3 a5 a6 => slices_insertionSortCmpFunc_Slot_j4 a0 a1 a2 a3 cmp a5 a6
 ins := fun a0 a1 a2 a3 a5 => slices_insertionSortCmpFunc_Slot a0 a1 a2 a3 cmp a5
 sy6 := fun a0 a1 a2 a3 a4 => slices_symMergeCmpFunc_Slot_j6 a0 a1 a2 a3 a4
 sy4 := fun a0 a1 a2 a3 a5 a6 => slices_symMergeCmpFunc_Slot_j4 a0 a1 a2 a3 cmp a5 a6
 sy12 := fun a0 a1 a2 a3 a4 => slices_symMergeCmpFunc_Slot_j12 a0 a1 a2 a3 a4
 sy10 := fun a0 a1 a2 a3 a5 a6 => slices_symMergeCmpFunc_Slot_j10 a0 a1 a2 a3 cmp a5 a6
 sy42 := fun a0 a1 a2 a3 a4 a6 a7 => slices_symMergeCmpFunc_Slot_j42 a0 a1 a2 a3 a4 cmp a6 a7
 sy40 := fun a0 a1 a2 a3 a4 a6 a7 => slices_symMergeCmpFunc_Slot_j40 a0 a1 a2 a3 a4 cmp a6 a7
 sy36 := fun a0 a1 a2 a3 a4 a5 a7 a8 => slices_symMergeCmpFunc_Slot_j36 a0 a1 a2 a3 a4 a5 cmp a7 a8
 sy28 := fun a0 a1 a2 a3 a4 a5 a7 a8 => slices_symMergeCmpFunc_Slot_j28 a0 a1 a2 a3 a4 a5 cmp a7 a8
 sy := fun a0 a1 a2 a3 a4 a6 => slices_symMergeCmpFunc_Slot a0 a1 a2 a3 a4 cmp a6
 st14 := fun a0 a1 a2 a3 a4 a6 a7 => slices_stableCmpFunc_Slot_j14 a0 a1 a2 a3 a4 cmp a6 a7
 st12 := fun a0 a1 a2 a4 a5 => slices_stableCmpFunc_Slot_j12 a0 a1 a2 cmp a4 a5
 st8 := fun a0 a1 a2 a3 a5 a6 => slices_stableCmpFunc_Slot_j8 a0 a1 a2 a3 cmp a5 a6
 st := fun a0 a1 a2 a4 => slices_stableCmpFunc_Slot a0 a1 a2 cmp a4
 so := fun a0 a1 a3 => slices_SortStableFunc_LSlot_Slot a0 a1 cmp a3
 h_swj := fun a0 a1 a2 a3 a4 a5 a6 h => slices_swapRangeCmpFunc_Slot_j2_step a0 a1 a2 a3 a4 a5 a6 h
 h_sw := fun a0 a1 a2 a3 a4 a6 h => slices_swapRangeCmpFunc_Slot_step a0 a1 a2 a3 a4 cmp a6 h
 h_roj := fun a0 a1 a2 a3 a5 a6 h => slices_rotateCmpFunc_Slot_j2_step a0 a1 a2 a3 cmp a5 a6 h
 h_ro := fun a0 a1 a2 a3 a4 a6 h => slices_rotateCmpFunc_Slot_step a0 a1 a2 a3 a4 cmp a6 h
 h_in6 := fun a0 a1 a2 a3 a4 a6 a7 h => slices_insertionSortCmpFunc_Slot_j6_step a0 a1 a2 a3 a4 cmp a6 a7 h
 h_in4 := fun a0 a1 a2 a3 a5 a6 h => slices_insertionSortCmpFunc_Slot_j4_step a0 a1 a2 a3 cmp a5 a6 h
 h_ins := fun a0 a1 a2 a3 a5 h => slices_insertionSortCmpFunc_Slot_step a0 a1 a2 a3 cmp a5 h
 h_sy6 := fun a0 a1 a2 a3 a4 h => slices_symMergeCmpFunc_Slot_j6_step a0 a1 a2 a3 a4 h
 h_sy4 := fun a0 a1 a2 a3 a5 a6 h => slices_symMergeCmpFunc_Slot_j4_step a0 a1 a2 a3 cmp a5 a6 h
 h_sy12 := fun a0 a1 a2 a3 a4 h => slices_symMergeCmpFunc_Slot_j12_step a0 a1 a2 a3 a4 h
 h_sy10 := fun a0 a1 a2 a3 a5 a6 h => slices_symMergeCmpFunc_Slot_j10_step a0 a1 a2 a3 cmp a5 a6 h
 h_sy42 := fun a0 a1 a2 a3 a4 a6 a7 h => slices_symMergeCmpFunc_Slot_j42_step a0 a1 a2 a3 a4 cmp a6 a7 h
 h_sy40 := fun a0 a1 a2 a3 a4 a6 a7 h => slices_symMergeCmpFunc_Slot_j40_step a0 a1 a2 a3 a4 cmp a6 a7 h
 h_sy36 := fun a0 a1 a2 a3 a4 a5 a7 a8 h => slices_symMergeCmpFunc_Slot_j36_step a0 a1 a2 a3 a4 a5 cmp a7 a8 h
 h_sy28 := fun a0 a1 a2 a3 a4 a5 a7 a8 h => slices_symMergeCmpFunc_Slot_j28_step a0 a1 a2 a3 a4 a5 cmp a7 a8 h
 h_sy := fun a0 a1 a2 a3 a4 a6 h => slices_symMergeCmpFunc_Slot_step a0 a1 a2 a3 a4 cmp a6 h
 h_st14 := fun a0 a1 a2 a3 a4 a6 a7 h => slices_stableCmpFunc_Slot_j14_step a0 a1 a2 a3 a4 cmp a6 a7 h
 h_st12 := fun a0 a1 a2 a4 a5 h => slices_stableCmpFunc_Slot_j12_step a0 a1 a2 cmp a4 a5 h
 h_st8 := fun a0 a1 a2 a3 a5 a6 h => slices_stableCmpFunc_Slot_j8_step a0 a1 a2 a3 cmp a5 a6 h
 h_st := fun a0 a1 a2 a4 h => slices_stableCmpFunc_Slot_step a0 a1 a2 cmp a4 h
 h_so := fun a0 a1 a3 h => slices_SortStableFunc_LSlot_Slot_step a0 a1 cmp a3 h
theorem slices_SortStableFunc_LPair_Pair_nil_is (f : Nat) : slices_SortStableFunc_LPair_Pair_nil (⟨f, [], [], rfl⟩ : GFn) := by
 refine run_pureN (a := .tuple []) (T := [(13, (9, .region r13_0, [])), (32, (63, k32_23, [])), (51, (53, k51_10, []))]) (M := fun _ _ => false) (md := false) (tok_cons fn13 (tok_cons fn32 (tok_cons fn51 tok_nil))) 1000 ?_ rfl
 kernel_rfl
theorem slices_SortStableFunc_LSlot_Slot_nil_is (f : Nat) : slices_SortStableFunc_LSlot_Slot_nil (⟨f, [], [], rfl⟩ : GFn) := by
 refine run_pureN (a := .tuple []) (T := [(30, (9, .region r30_0, [])), (50, (63, k50_23, [])), (65, (53, k65_10, []))]) (M := fun _ _ => false) (md := false) (tok_cons fn30 (tok_cons fn50 (tok_cons fn65 tok_nil))) 1000 ?_ rfl
 kernel_rfl
def cmpI (x y : Int) : Int := if x < y then -1 else if y < x then 1 else 0
theorem cmpI_is (x y : Int) : cmp_Compare_int x y (cmpI x y) := by
 refine cmp_Compare_int_step _ _ _ ⟨false, cmp_isNaN_int_step _ _ (by simp), false, cmp_isNaN_int_step _ _ (by simp), fun h => by simp at h, fun _ => ⟨fun h => by simp at h, fun _ => ⟨fun h => ?_, fun h => ⟨fun h2 => ?_, fun h2 => ?_⟩⟩⟩⟩
 ·simp at h; simp [cmpI, h]
 ·simp at h h2; simp [cmpI, h2]; omega
 ·simp at h h2; simp only [cmpI]; rw [if_neg (by omega), if_neg (by omega)]
theorem cmpI_cases (x y : Int) : (x < y /\ cmpI x y = -1) ∨ (x = y /\ cmpI x y = 0) ∨ (y < x /\ cmpI x y = 1) := by
 unfold cmpI
 split
 ·exact .inl ⟨by assumption, rfl⟩
 ·split
  ·exact .inr (.inr ⟨by assumption, rfl⟩)
  ·exact .inr (.inl ⟨by omega, rfl⟩)
theorem pre_num {α : Type} (k : α -> Int) : Pre (fun x y => cmpI (k x) (k y)) (fun _ : α => True) := by
 refine ⟨fun x y _ _ => ?_, fun x y z _ _ _ h1 h2 => ?_⟩
 ·rcases cmpI_cases (k x) (k y) with h | h | h <;> rcases cmpI_cases (k y) (k x) with g | g | g <;> simp only [h.2, g.2] <;> omega
 ·rcases cmpI_cases (k x) (k y) with h | h | h <;> rcases cmpI_cases (k y) (k z) with g | g | g <;> rcases cmpI_cases (k x) (k z) with e | e | e <;> simp only [h.2, g.2, e.2] at * <;> omega
theorem slots1_is (a b : Int × GValue) : order_Slots_1 a b (cmpI a.1 b.1) := order_Slots_1_step _ _ _ ⟨_, cmpI_is _ _, rfl⟩
theorem slots1_clo (x y : Int × GValue) : CGSlot (⟨31, [], [], rfl⟩ : GFn) x y (cmpI x.1 y.1) := ⟨31, [], [], rfl, (show plainL [AV.agg (eGSlot x), AV.agg (eGSlot y)] = true by simp [plainL, plain, pl_GSlot]), slots1_is x y⟩
def lasts : List (Int × GValue) -> List (Int × GValue)
 | [] => []
 | [x] => [x]
 | x :: y :: l => if x.1 = y.1 then lasts (y :: l) else x :: lasts (y :: l)
theorem slots_loop (S : List (Int × GValue)) (hl : S.length * 136 <= 140737488355328) : ∀ (d i : Nat) (done : List (Int × GValue)), S.length - i <= d -> i <= S.length -> done.length <= i -> order_Slots_j4 i S done (done ++ lasts (S.drop i)) := by
 intro d
 induction d with
 | zero =>
  intro i done hd hi hn
  have e : i = S.length := by omega
  subst e
  exact order_Slots_j4_step _ _ _ _ ⟨fun h => by simp at h, fun _ => by simp [lasts]⟩
 | succ d ih =>
  intro i done hd hi hn
  rcases Nat.lt_or_ge i S.length with hlt | hge
  ·have e1 : wI ((i : Int) + 1) = ((i + 1 : Nat) : Int) := by rw [wI, wrapI (by omega)]; omega
   have g1 : S[i]? = some S[i] := List.getElem?_eq_getElem hlt
   have dr : S.drop i = S[i] :: S.drop (i + 1) := List.drop_eq_getElem_cons hlt
   refine order_Slots_j4_step _ _ _ _ ⟨fun _ => ⟨S[i], by simpa using g1, by omega, fun b => lasts (S.drop i) = if b then S[i] :: lasts (S.drop (i + 1)) else lasts (S.drop (i + 1)), fun b hb => ⟨fun h => ?_, fun h => ?_⟩, fun h => ?_, fun h => ?_⟩, fun h => by simp at h; omega⟩
   ·subst h
    refine ⟨by simp; omega, ?_⟩
    rw [e1, hb]
    have := ih (i + 1) (done ++ [S[i]]) (by omega) (by omega) (by simp; omega)
    simpa using this
   ·subst h
    rw [e1, hb]
    exact ih (i + 1) done (by omega) (by omega) (by omega)
   ·rw [e1] at h
    simp at h
    have : S.drop (i + 1) = [] := List.drop_eq_nil_of_le (by omega)
    rw [dr, this]
    rfl
   ·rw [e1] at h ⊢
    simp at h
    have h2 : i + 1 < S.length := by omega
    have g2 : S[i + 1]? = some S[i + 1] := List.getElem?_eq_getElem h2
    have dr2 : S.drop (i + 1) = S[i + 1] :: S.drop (i + 1 + 1) := List.drop_eq_getElem_cons h2
    refine ⟨S[i + 1], by simpa using g2, by omega, ?_⟩
    rw [dr, dr2]
    simp only [lasts]
    rcases Classical.em (S[i].1 = S[i + 1].1) with h3 | h3
    ·simp [h3]
    ·simp [h3]
  ·exact order_Slots_j4_step _ _ _ _ ⟨fun h => by simp at h; omega, fun _ => by rw [List.drop_eq_nil_of_le hge]; simp [lasts]⟩
theorem slots_is (l : List (Int × GValue)) (hl : l.length * 136 <= 140737488355328) : ∃ S, Stably (fun x y : Int × GValue => cmpI x.1 y.1) l S /\ order_Slots l (lasts S) := by
 rcases Classical.em (l = []) with h0 | h0
 ·subst h0
  refine ⟨[], ⟨[], .nil, by simp [places], rfl⟩, order_Slots_step _ _ ⟨fun _ => ⟨?_, slices_SortStableFunc_LSlot_Slot_nil_is _, order_Slots_j2_step _ _ _ ⟨fun h => by simp at h, fun _ => rfl⟩⟩, fun h => (h rfl).elim⟩⟩
  exact slices_Clone_LSlot_Slot_step _ _ fun b _ => ⟨fun _ => rfl, fun _ => ⟨by simp, rfl⟩⟩
 ·have hpos : 0 < l.length := List.length_pos_iff.2 h0
  obtain ⟨S, h1, h2, h3⟩ := so_law (sortGSlot ⟨31, [], [], rfl⟩) (pre_num fun x : Int × GValue => x.1) (fun x y _ _ => slots1_clo x y) (n0 := l.length) (by omega) hpos (places l) (by simp [places]) (fun _ _ => trivial) (places_asc l)
  rw [places_fs] at h3
  have hlen : (fs S).length = l.length := by simp [h2.length_eq, places]
  refine ⟨fs S, ⟨S, h1, h2, rfl⟩, order_Slots_step _ _ ⟨fun h => (h0 h).elim, fun _ => ⟨slices_Clone_LSlot_Slot_new_step _ ⟨h0, hl⟩, fs S, h3, ⟨h0, fun h => ?_⟩, hlen, ?_⟩⟩⟩
  ·rw [h] at hlen; simp at hlen; omega
  ·have := slots_loop (fs S) (by rw [hlen]; exact hl) (fs S).length 0 [] (by omega) (by omega) (by simp)
   simpa using this
theorem and_mant (a : Nat) : a &&& 4503599627370495 = a % 4503599627370496 := Nat.and_two_pow_sub_one_eq_mod a 52
theorem class_is (z : Nat) (hz : z < 18446744073709551616) : scalar_Class z (clsS z) := by
 have e1 : bitsOf .and .u64 (z : Int) 9218868437227405312 = ((z % 9223372036854775808 / 4503599627370496 * 4503599627370496 : Nat) : Int) := by
  have := bits_and_u64 z 9218868437227405312 hz (by omega)
  rw [and_exp] at this
  exact this
 have e2 : bitsOf .and .u64 (z : Int) 4503599627370495 = ((z % 4503599627370496 : Nat) : Int) := by
  have := bits_and_u64 z 4503599627370495 hz (by omega)
  rw [and_mant] at this
  exact this
 refine scalar_Class_step _ _ ?_
 rw [e1, e2]
 simp only [Bool.and_eq_true, Bool.and_eq_false_iff, beq_iff_eq, beq_eq_false_iff_ne, bne_iff_ne, bne_eq_false_iff_eq]
 unfold clsS
 refine ⟨fun h => ?_, fun h => ⟨fun h2 => ?_, fun h2 => ⟨fun h3 => ?_, fun h3 => ⟨fun h4 => ?_, fun h4 => ?_⟩⟩⟩⟩
 all_goals (repeat' split) <;> first | rfl | (exfalso; omega)
theorem rclass_is (z : Nat) (hz : z < 18446744073709551616) : ref04_Class z (clsS z) := by
 have e : (z : Int).tmod 9223372036854775808 = ((z % 9223372036854775808 : Nat) : Int) := rfl
 refine ref04_Class_step _ _ ?_
 rw [e]
 simp only [decide_eq_true_eq, decide_eq_false_iff_not, beq_iff_eq, beq_eq_false_iff_ne]
 unfold clsS
 refine ⟨fun h => ?_, fun h => ⟨fun h2 => ?_, fun h2 => ⟨fun h3 => ?_, fun h3 => ⟨fun h4 => ?_, fun h4 => ?_⟩⟩⟩⟩
 all_goals (repeat' split) <;> first | rfl | (exfalso; omega)
section
open Go.RowKit Go.ChangeShapes Go.WideShapes Go.ChangeAt
def TyV (P : Program) (n : Nat) (t : TypeId) (av : AV) : Prop :=
 match P.underlying t with
 | some (.struct _) | some (.array _ _) => ∃ avs, av = .agg avs /\ Ty P n t avs
 | _ => Ty P n t [av]
theorem cells_agg {σ : Sg} {avs : List AV} {cs : Array Value} (h : Cells σ avs cs.toList) : Rel σ (.agg avs) (.agg cs) := by
 refine .agg avs cs (by simpa using h.1) (fun i av hi => (h.2 i av hi).1) (fun i => cs.toList[i]?.getD (.bool false)) (fun i av hi => ?_) (fun i av hi => ?_)
 ·obtain ⟨_, x, hx, _⟩ := h.2 i av hi
  rw [hx]; simpa using hx
 ·obtain ⟨_, x, hx, hr⟩ := h.2 i av hi
  rw [hx]; exact hr
theorem cells_one {σ : Sg} {av : AV} {v : Value} (h : Cells σ [av] v.cells.toList) (hv : ∀ cs, v ≠ .agg cs) : Rel σ av v := by
 obtain ⟨_, x, hx, hr⟩ := h.2 0 av rfl
 cases v with
 | agg cs => exact absurd rfl (hv cs)
 | _ => simp [Value.cells] at hx; subst hx; exact hr
section
variable {H : Type} {enc : TypeId × Value -> H} {P : Program} {W : World} {base b0 : Nat} {spare : Nat -> Bool} {held : Bool}
theorem open_argV {ts : List TypeId} (ok : okTypes P ts = true) {t : TypeId} (ht : t ∈ ts) {v : Value} {d : DataW H} {p : List MemPlace} (hval : Value.okWide P W .any b0 t v) (h : DataW.Trod enc P W base spare held t v d p) (hw : Lightly P t d) :
  ∃ n av, Rel (bare W nowhere) av v /\ TyV P n t av /\ plain av = true := by
 obtain ⟨m, hm⟩ := h
 obtain ⟨avs, hc, hty, hpl⟩ := open_cells ok m t _ _ ht hm hw
 cases m with
 | zero => simp [DataW.trod] at hm
 | succ m =>
  have hok := List.all_eq_true.1 ok t ht
  unfold okT at hok
  unfold TyV
  unfold Value.okWide at hval
  split at hok
  ·rename_i k hu
   rw [hu] at hval
   simp only [Cell.okWide, hu, Cell.ok] at hval
   have h2 := hty; unfold Ty at h2; rw [hu] at h2
   obtain ⟨x, rfl, _⟩ := h2
   refine ⟨m + 1, _, cells_one hc (fun cs he => by subst he; simp at hval), by rw [hu]; exact hty, rfl⟩
  ·rename_i hu
   rw [hu] at hval
   simp only [Cell.okWide, hu, Cell.ok] at hval
   have h2 := hty; unfold Ty at h2; rw [hu] at h2
   obtain ⟨x, rfl⟩ := h2
   refine ⟨m + 1, _, cells_one hc (fun cs he => by subst he; simp at hval), by rw [hu]; exact hty, rfl⟩
  ·rename_i hu
   rw [hu] at hval
   simp only [Cell.okWide, hu, Cell.ok] at hval
   have h2 := hty; unfold Ty at h2; rw [hu] at h2
   obtain ⟨x, rfl, _⟩ := h2
   refine ⟨m + 1, _, cells_one hc (fun cs he => by subst he; simp at hval), by rw [hu]; exact hty, rfl⟩
  ·rename_i e hu
   rw [hu] at hval
   simp only [Cell.okWide, hu, Cell.ok] at hval
   have h2 := hty; unfold Ty at h2; rw [hu] at h2
   obtain ⟨x, rfl, _⟩ := h2
   refine ⟨m + 1, _, cells_one hc (fun cs he => by subst he; simp at hval), by rw [hu]; exact hty, by simpa [plainL] using hpl⟩
  ·rename_i fs hu
   rw [hu] at hval
   obtain ⟨cs, rfl, _⟩ := hval
   exact ⟨m + 1, .agg avs, cells_agg hc, by rw [hu]; exact ⟨avs, rfl, hty⟩, hpl⟩
  ·rename_i k e hu
   rw [hu] at hval
   obtain ⟨cs, rfl, _⟩ := hval
   exact ⟨m + 1, .agg avs, cells_agg hc, by rw [hu]; exact ⟨avs, rfl, hty⟩, hpl⟩
  ·cases hok
end
def typesIn (P : Program) (t : TypeId) : List TypeId :=
 match P.underlying t with
 | some (.slice e) => [e]
 | some (.struct fs) => fs.toList.map (·.type)
 | some (.array _ e) => [e]
 | _ => []
def typesAdd : List TypeId -> List TypeId -> List TypeId
 | l, [] => l
 | l, t :: r => typesAdd (if l.contains t then l else l ++ [t]) r
def typesFrom (P : Program) : Nat -> List TypeId -> List TypeId
 | 0, l => l
 | n + 1, l => typesFrom P n (typesAdd l (l.flatMap (typesIn P)))
theorem rels_nil' (σ : Sg) : Rels σ [] [] := ⟨rfl, fun i av h => by simp at h⟩
theorem rels_cons' {σ : Sg} {a : AV} {v : Value} {l : List AV} {xs : List Value} (h : Rel σ a v) (hr : Rels σ l xs) : Rels σ (a :: l) (v :: xs) := by
 refine ⟨by simp [hr.1], fun i av hi => ?_⟩
 cases i with
 | zero => simp at hi; subst hi; exact ⟨v, rfl, h⟩
 | succ i => obtain ⟨x, h1, h2⟩ := hr.2 i av (by simpa using hi); exact ⟨x, by simpa using h1, h2⟩
theorem nz_true {av : AV} (h : nz av = .v (.bool true)) : av = .v (.bool true) := by
 cases av with
 | v x => simpa [nz, nzA, nz1] using h
 | _ => simp [nz, nzA, nz1] at h
end
def I64 (n : Int) : Prop := -9223372036854775808 <= n /\ n <= 9223372036854775807
def U64 (n : Int) : Prop := 0 <= n /\ n < 18446744073709551616
def Sz (n : Nat) : Prop := n <= 140737488351232
structure OkRaw (x : GRaw) : Prop where
 num : I64 x.Num
 wire : I64 x.Wire
 bits : U64 x.Bits
 data : Sz x.Data.size
inductive OkD : GValue -> Prop
 | mk (v : GValue) (k : I64 v.Kind) (b : U64 v.Bits) (t : Sz v.Text.size) (l : Sz v.List_.length) (p : Sz v.Pairs.length) (s : Sz v.Slots.length) (r : Sz v.Raws.length)
   (hl : ∀ x ∈ v.List_, OkD x) (hk : ∀ x ∈ v.Pairs, OkD x.1) (hv : ∀ x ∈ v.Pairs, OkD x.2) (hn : ∀ x ∈ v.Slots, I64 x.1) (hs : ∀ x ∈ v.Slots, OkD x.2) (hr : ∀ x ∈ v.Raws, OkRaw x) (w : Sz (v.List_.length * 128) /\ Sz (v.Pairs.length * 256) /\ Sz (v.Slots.length * 136) /\ Sz (v.Raws.length * 40)) : OkD v
section
variable {P : Program} {n : Nat} {t : TypeId} {avs : List AV}
def TyL (P : Program) (m : Nat) : List TypeId -> List AV -> Prop
 | [], avs => avs = []
 | t :: ts, avs => ∃ a b, avs = a ++ b /\ Ty P m t a /\ TyL P m ts b
theorem tyL_of {m : Nat} : ∀ (fs : List Field) (parts : List (List AV)), parts.length = fs.length -> (∀ (i : Nat) (f : Field), fs[i]? = some f -> ∃ p, parts[i]? = some p /\ Ty P m f.type p) -> TyL P m (fs.map (·.type)) parts.flatten
 | [], [], _, _ => rfl
 | [], _ :: _, h, _ => by cases h
 | _ :: _, [], h, _ => by cases h
 | f :: fs, p :: parts, hl, h => by
  obtain ⟨q, hq, hty⟩ := h 0 f rfl
  cases hq
  exact ⟨p, parts.flatten, by simp, hty, tyL_of fs parts (by simpa using hl) fun i g hg => h (i + 1) g (by simpa using hg)⟩
def fieldTypes (P : Program) (t : TypeId) : Option (List TypeId) := match P.underlying t with | some (.struct fs) => some (fs.toList.map (·.type)) | _ => none
theorem ty_st {ts : List TypeId} (hu : fieldTypes P t = some ts) (h : Ty P n t avs) : ∃ m, n = m + 1 /\ TyL P m ts avs := by
 cases n with
 | zero => exact absurd h (by unfold Ty; exact id)
 | succ m =>
  unfold fieldTypes at hu
  unfold Ty at h
  split at hu
  ·rename_i fs hfs
   rw [hfs] at h
   obtain ⟨parts, rfl, hl, hp⟩ := h
   cases hu
   exact ⟨m, rfl, tyL_of fs.toList parts (by simpa using hl) (fun i f hf => hp i f (by simpa using hf))⟩
  ·cases hu
theorem ty_int {k : IntKind} (hu : P.underlying t = some (.int k)) (h : Ty P n t avs) : ∃ m, avs = [.v (.int k m)] /\ (Lit.int k m).wf = true := by
 cases n with
 | zero => exact absurd h (by unfold Ty; exact id)
 | succ m => unfold Ty at h; rw [hu] at h; exact h
theorem ty_i64 (hu : P.underlying t = some (.int .i64)) (h : Ty P n t avs) : ∃ m, avs = [.v (.int .i64 m)] /\ I64 m := by
 obtain ⟨m, h1, h2⟩ := ty_int hu h
 refine ⟨m, h1, ?_⟩
 simp only [Lit.wf, Bool.and_eq_true, decide_eq_true_eq] at h2
 exact h2
theorem ty_u64 (hu : P.underlying t = some (.int .u64)) (h : Ty P n t avs) : ∃ m, avs = [.v (.int .u64 m)] /\ U64 m := by
 obtain ⟨m, h1, h2⟩ := ty_int hu h
 refine ⟨m, h1, ?_⟩
 simp only [Lit.wf, Bool.and_eq_true, decide_eq_true_eq] at h2
 have e1 : IntKind.u64.min = 0 := by decide
 have e2 : IntKind.u64.max = 18446744073709551615 := by decide
 unfold U64
 omega
theorem ty_str (hu : P.underlying t = some .string) (h : Ty P n t avs) : ∃ s : ByteArray, avs = [.v (.string s)] /\ Sz s.size := by
 cases n with
 | zero => exact absurd h (by unfold Ty; exact id)
 | succ m => unfold Ty at h; rw [hu] at h; exact h
theorem ty_slw {e : TypeId} {G : Type} {enc : G -> List AV} {Ok : G -> Prop} (hu : P.underlying t = some (.slice e)) {w : Nat} (hw : P.bytesOf e = w) (hb : 1 <= P.bytesOf e) (hel : ∀ m avs, m < n -> Ty P m e avs -> ∃ x, avs = enc x /\ Ok x) (h : Ty P n t avs) : ∃ l : List G, avs = [.sl (l.map enc) .no] /\ (Sz l.length /\ Sz (l.length * w)) /\ ∀ x ∈ l, Ok x := by
 cases n with
 | zero => exact absurd h (by unfold Ty; exact id)
 | succ m =>
  unfold Ty at h; rw [hu] at h
  obtain ⟨els, rfl, hl, hty⟩ := h
  have hn : els.length <= 140737488351232 := Nat.le_trans (Nat.le_mul_of_pos_right _ hb) hl
  have : ∀ els : List (List AV), (∀ el ∈ els, Ty P m e el) -> ∃ l : List G, els = l.map enc /\ ∀ x ∈ l, Ok x := by
   intro els
   induction els with
   | nil => exact fun _ => ⟨[], rfl, fun x h => by cases h⟩
   | cons a els ih =>
    intro h
    obtain ⟨l, rfl, hl⟩ := ih fun el hel => h el (List.mem_cons_of_mem _ hel)
    obtain ⟨x, rfl, hx⟩ := hel m a (Nat.lt_succ_self m) (h a List.mem_cons_self)
    exact ⟨x :: l, rfl, fun y hy => (List.mem_cons.1 hy).elim (fun e => e ▸ hx) (hl y)⟩
  obtain ⟨l, rfl, hok⟩ := this els hty
  exact ⟨l, rfl, ⟨by simpa [Sz] using hn, by subst hw; simpa [Sz] using hl⟩, hok⟩
end
section
variable {n : Nat} {avs : List AV} {av : AV}
theorem op_raw (h : Ty Tryd.prog n 56 avs) : ∃ x, avs = eGRaw x /\ OkRaw x := by
 obtain ⟨m, rfl, a1, b1, rfl, h1, a2, b2, rfl, h2, a3, b3, rfl, h3, a4, b4, rfl, h4, rfl⟩ := ty_st (ts := [3, 3, 25, 9]) (by kernel_rfl) h
 obtain ⟨x1, rfl, k1⟩ := ty_i64 (by kernel_rfl) h1
 obtain ⟨x2, rfl, k2⟩ := ty_i64 (by kernel_rfl) h2
 obtain ⟨x3, rfl, k3⟩ := ty_u64 (by kernel_rfl) h3
 obtain ⟨x4, rfl, k4⟩ := ty_str (by kernel_rfl) h4
 exact ⟨⟨x1, x2, x3, x4⟩, rfl, ⟨k1, k2, k3, k4⟩⟩
theorem op_value : ∀ (n : Nat) (avs : List AV), Ty Tryd.prog n 30 avs -> ∃ x, avs = eGValue' x /\ OkD x := by
 intro n
 induction n using Nat.strongRecOn with
 | _ n ih =>
  intro avs h
  obtain ⟨m, rfl, a1, b1, rfl, h1, a2, b2, rfl, h2, a3, b3, rfl, h3, a4, b4, rfl, h4, a5, b5, rfl, h5, a6, b6, rfl, h6, a7, b7, rfl, h7, rfl⟩ := ty_st (ts := [3, 25, 9, 26, 22, 27, 28]) (by kernel_rfl) h
  obtain ⟨x1, rfl, k1⟩ := ty_i64 (by kernel_rfl) h1
  obtain ⟨x2, rfl, k2⟩ := ty_u64 (by kernel_rfl) h2
  obtain ⟨x3, rfl, k3⟩ := ty_str (by kernel_rfl) h3
  obtain ⟨x4, rfl, ⟨n4, w4⟩, k4⟩ := ty_slw (w := 128) (e := 30) (enc := eGValue') (Ok := OkD) (by kernel_rfl) (by kernel_rfl) (of_decide_eq_true (by kernel_rfl)) (fun k a hk ha => ih k (by omega) a ha) h4
  obtain ⟨x5, rfl, ⟨n5, w5⟩, k5⟩ := ty_slw (w := 256) (e := 32) (enc := eGPair') (Ok := fun x => OkD x.1 /\ OkD x.2) (by kernel_rfl) (by kernel_rfl) (of_decide_eq_true (by kernel_rfl)) (fun k a hk ha => by
   obtain ⟨q, rfl, a1, b1, rfl, h1, a2, b2, rfl, h2, rfl⟩ := ty_st (ts := [30, 30]) (by kernel_rfl) ha
   obtain ⟨y1, rfl, z1⟩ := ih q (by omega) _ h1
   obtain ⟨y2, rfl, z2⟩ := ih q (by omega) _ h2
   exact ⟨(y1, y2), by simp [eGPair'], z1, z2⟩) h5
  obtain ⟨x6, rfl, ⟨n6, w6⟩, k6⟩ := ty_slw (w := 136) (e := 38) (enc := eGSlot') (Ok := fun x => I64 x.1 /\ OkD x.2) (by kernel_rfl) (by kernel_rfl) (of_decide_eq_true (by kernel_rfl)) (fun k a hk ha => by
   obtain ⟨q, rfl, a1, b1, rfl, h1, a2, b2, rfl, h2, rfl⟩ := ty_st (ts := [3, 30]) (by kernel_rfl) ha
   obtain ⟨y1, rfl, z1⟩ := ty_i64 (by kernel_rfl) h1
   obtain ⟨y2, rfl, z2⟩ := ih q (by omega) _ h2
   exact ⟨(y1, y2), by simp [eGSlot'], z1, z2⟩) h6
  obtain ⟨x7, rfl, ⟨n7, w7⟩, k7⟩ := ty_slw (w := 40) (e := 56) (enc := eGRaw) (Ok := OkRaw) (by kernel_rfl) (by kernel_rfl) (of_decide_eq_true (by kernel_rfl)) (fun k a hk ha => op_raw ha) h7
  refine ⟨⟨x1, x2, x3, x4, x5, x6, x7⟩, ?_, .mk _ k1 k2 k3 n4 n5 n6 n7 k4 (fun x hx => (k5 x hx).1) (fun x hx => (k5 x hx).2) (fun x hx => (k6 x hx).1) (fun x hx => (k6 x hx).2) k7 ⟨w4, w5, w6, w7⟩⟩
  rw [eGValue'_eq]; rfl
theorem op_pair (h : Ty Tryd.prog n 32 avs) : ∃ x, avs = eGPair' x /\ OkD x.1 /\ OkD x.2 := by
 obtain ⟨q, rfl, a1, b1, rfl, h1, a2, b2, rfl, h2, rfl⟩ := ty_st (ts := [30, 30]) (by kernel_rfl) h
 obtain ⟨y1, rfl, z1⟩ := op_value _ _ h1
 obtain ⟨y2, rfl, z2⟩ := op_value _ _ h2
 exact ⟨(y1, y2), by simp [eGPair'], z1, z2⟩
theorem op_slot (h : Ty Tryd.prog n 38 avs) : ∃ x, avs = eGSlot' x /\ I64 x.1 /\ OkD x.2 := by
 obtain ⟨q, rfl, a1, b1, rfl, h1, a2, b2, rfl, h2, rfl⟩ := ty_st (ts := [3, 30]) (by kernel_rfl) h
 obtain ⟨y1, rfl, z1⟩ := ty_i64 (by kernel_rfl) h1
 obtain ⟨y2, rfl, z2⟩ := op_value _ _ h2
 exact ⟨(y1, y2), by simp [eGSlot'], z1, z2⟩
end
def lexi {α : Type} (c : α -> α -> Int) : List α -> List α -> Int
 | [], [] => 0
 | [], _ :: _ => -1
 | _ :: _, [] => 1
 | x :: l, y :: m => if c x y ≠ 0 then c x y else lexi c l m
theorem comp_law {α : Type} {J : Int -> List α -> List α -> Int -> Prop} {C : α -> α -> Int -> Prop} (c : α -> α -> Int)
  (step : ∀ i s t r, ((decide (i < (s.length : Int))) = true -> ∃ y4, s[i.toNat]? = some y4 /\ 0 <= i /\ (((decide ((t.length : Int) <= i)) = true -> r = 1) /\ ((decide ((t.length : Int) <= i)) = false -> ∃ y5, t[i.toNat]? = some y5 /\ 0 <= i /\ (∃ y6, C y4 y5 y6 /\ (((y6 != 0) = true -> r = y6) /\ ((y6 != 0) = false -> J (wI (i + 1)) s t r)))))) /\ ((decide (i < (s.length : Int))) = false -> ((decide ((s.length : Int) < (t.length : Int))) = true -> r = (-1)) /\ ((decide ((s.length : Int) < (t.length : Int))) = false -> r = 0)) -> J i s t r)
  (s t : List α) (hs : s.length <= 140737488351232) (hC : ∀ x ∈ s, ∀ y ∈ t, C x y (c x y)) : J 0 s t (lexi c s t) := by
 have key : ∀ (d i : Nat), s.length - i <= d -> i <= s.length -> i <= t.length -> J i s t (lexi c (s.drop i) (t.drop i)) := by
  intro d
  induction d with
  | zero =>
   intro i hd hi hj
   have e : i = s.length := by omega
   subst e
   refine step _ _ _ _ ⟨fun h => by simp at h, fun _ => ⟨fun h => ?_, fun h => ?_⟩⟩
   ·simp at h
    rw [List.drop_length, List.drop_eq_getElem_cons h]
    rfl
   ·simp at h
    rw [List.drop_length, List.drop_eq_nil_of_le h]
    rfl
  | succ d ih =>
   intro i hd hi hj
   rcases Nat.lt_or_ge i s.length with hlt | hge
   ·have e1 : wI ((i : Int) + 1) = ((i + 1 : Nat) : Int) := by rw [wI, wrapI (by omega)]; omega
    have ds : s.drop i = s[i] :: s.drop (i + 1) := List.drop_eq_getElem_cons hlt
    refine step _ _ _ _ ⟨fun _ => ⟨s[i], by simp, by omega, fun h => ?_, fun h => ?_⟩, fun h => by simp at h; omega⟩
    ·simp at h
     rw [ds, List.drop_eq_nil_of_le h]
     rfl
    ·simp at h
     have dt : t.drop i = t[i] :: t.drop (i + 1) := List.drop_eq_getElem_cons h
     refine ⟨t[i], by simp, by omega, c s[i] t[i], hC _ (List.getElem_mem _) _ (List.getElem_mem _), fun h2 => ?_, fun h2 => ?_⟩
     ·simp at h2
      rw [ds, dt]
      simp [lexi, h2]
     ·simp at h2
      rw [ds, dt, e1]
      have := ih (i + 1) (by omega) (by omega) (by omega)
      simpa [lexi, h2] using this
   ·have e : i = s.length := by omega
    subst e
    refine step _ _ _ _ ⟨fun h => by simp at h, fun _ => ⟨fun h => ?_, fun h => ?_⟩⟩
    ·simp at h
     rw [List.drop_length, List.drop_eq_getElem_cons h]
     rfl
    ·simp at h
     rw [List.drop_length, List.drop_eq_nil_of_le h]
     rfl
 simpa using key s.length 0 (by omega) (by omega) (by omega)
def orL : List Int -> Int
 | [] => 0
 | x :: l => if x ≠ 0 then x else orL l
theorem or_is (l : List Int) (hl : l.length <= 1000) : cmp_Or_int l (orL l) := by
 refine cmp_Or_int_step _ _ ?_
 have key : ∀ (d i : Nat), l.length - i <= d -> i <= l.length -> cmp_Or_int_j2 i l (orL (l.drop i)) := by
  intro d
  induction d with
  | zero =>
   intro i hd hi
   exact cmp_Or_int_j2_step _ _ _ ⟨fun h => by simp at h; omega, fun _ => by rw [List.drop_eq_nil_of_le (by omega)]; rfl⟩
  | succ d ih =>
   intro i hd hi
   rcases Nat.lt_or_ge i l.length with hlt | hge
   ·have e1 : wI ((i : Int) + 1) = ((i + 1 : Nat) : Int) := by rw [wI, wrapI (by omega)]; omega
    have ds : l.drop i = l[i] :: l.drop (i + 1) := List.drop_eq_getElem_cons hlt
    refine cmp_Or_int_j2_step _ _ _ ⟨fun _ => ⟨l[i], by simp, by omega, fun h => ?_, fun h => ?_⟩, fun h => by simp at h; omega⟩
    ·simp at h
     rw [ds]; simp [orL, h]
    ·simp at h
     rw [ds, e1]
     have := ih (i + 1) (by omega) (by omega)
     simpa [orL, h] using this
   ·exact cmp_Or_int_j2_step _ _ _ ⟨fun h => by simp at h; omega, fun _ => by rw [List.drop_eq_nil_of_le hge]; rfl⟩
 simpa using key l.length 0 (by omega) (by omega)
def cmpB (x y : ByteArray) : Int := if Op.bytesLess x.toList y.toList = true then -1 else if (!(Op.bytesLess x.toList y.toList || x.toList == y.toList)) = true then 1 else 0
theorem cmpB_is (x y : ByteArray) : cmp_Compare_string x y (cmpB x y) := by
 refine cmp_Compare_string_step _ _ _ ⟨false, cmp_isNaN_string_step _ _ (by simp), false, cmp_isNaN_string_step _ _ (by simp), fun h => by simp at h, fun _ => ⟨fun h => by simp at h, fun _ => ⟨fun h => ?_, fun h => ⟨fun h2 => ?_, fun h2 => ?_⟩⟩⟩⟩
 ·simp [cmpB, h]
 ·unfold cmpB; rw [if_neg (by rw [h]; simp), if_pos h2]
 ·unfold cmpB; rw [if_neg (by rw [h]; simp), if_neg (by rw [h2]; simp)]
theorem cmpU_is (x y : Int) : cmp_Compare_uint64 x y (cmpI x y) := by
 refine cmp_Compare_uint64_step _ _ _ ⟨false, cmp_isNaN_uint64_step _ _ (by simp), false, cmp_isNaN_uint64_step _ _ (by simp), fun h => by simp at h, fun _ => ⟨fun h => by simp at h, fun _ => ⟨fun h => ?_, fun h => ⟨fun h2 => ?_, fun h2 => ?_⟩⟩⟩⟩
 ·simp at h; simp [cmpI, h]
 ·simp at h h2; simp [cmpI, h2]; omega
 ·simp at h h2; simp only [cmpI]; rw [if_neg (by omega), if_neg (by omega)]
def placeI (x : Int) : Int := if ((clsS x.toNat : Int) == 0) = true then 18446744073709551615 else if ((bitsOf .and .u64 x 9223372036854775808) != 0) = true then bitsOf .xor .u64 (IntKind.u64.max) x else bitsOf .or .u64 x 9223372036854775808
theorem place_is (x : Int) (hx : U64 x) : scalar_place x (placeI x) := by
 have hc := class_is x.toNat (by have := hx.2; omega)
 rw [show ((x.toNat : Nat) : Int) = x from Int.toNat_of_nonneg hx.1] at hc
 refine scalar_place_step _ _ ⟨_, hc, fun h => ?_, fun h => ⟨fun h2 => ?_, fun h2 => ?_⟩⟩
 ·unfold placeI; rw [if_pos h]
 ·unfold placeI; rw [if_neg (by rw [h]; simp), if_pos h2]
 ·unfold placeI; rw [if_neg (by rw [h]; simp), if_neg (by rw [h2]; simp)]
def isS (k : Int) : Bool := (decide (1 <= k)) && (decide (k <= 9))
def cmpS (a b : GValue) : Int :=
 if ((a.Kind == 7) || (a.Kind == 8)) = true then cmpB a.Text b.Text
 else if ((a.Kind == 2) || (a.Kind == 3)) = true then cmpI (wI a.Bits) (wI b.Bits)
 else if (a.Kind == 6) = true then cmpI (placeI a.Bits) (placeI b.Bits)
 else cmpI a.Bits b.Bits
theorem nt {b : Bool} (h : b = false) : ¬ b = true := by rw [h]; simp
theorem cmpS_is (a b : GValue) (hk : a.Kind = b.Kind) (hs : isS a.Kind = true) (ha : U64 a.Bits) (hb : U64 b.Bits) : scalar_Cmp a b (cmpS a b) := by
 refine scalar_Cmp_step _ _ _ ⟨fun h => by simp [hk] at h, fun _ => ⟨true, scalar_Is_step _ _ hs.symm, fun h => by simp at h, fun _ => ⟨_, scalar_texty_step _ _ rfl, fun h => ⟨_, cmpB_is _ _, ?_⟩, fun h => ⟨fun h2 => ⟨_, cmpI_is _ _, ?_⟩, fun h2 => ⟨fun h3 => ⟨_, place_is _ ha, _, place_is _ hb, _, cmpU_is _ _, ?_⟩, fun h3 => ⟨_, cmpU_is _ _, ?_⟩⟩⟩⟩⟩⟩
 ·unfold cmpS; rw [if_pos h]
 ·unfold cmpS; rw [if_neg (nt h), if_pos h2]
 ·unfold cmpS; rw [if_neg (nt h), if_neg (nt h2), if_pos h3]
 ·unfold cmpS; rw [if_neg (nt h), if_neg (nt h2), if_neg (nt h3)]
def cmpR (x y : GRaw) : Int := orL [cmpI x.Num y.Num, cmpI x.Wire y.Wire, cmpI x.Bits y.Bits, cmpB x.Data y.Data]
def cmpVn : Nat -> GValue -> GValue -> Int
 | 0, _, _ => 0
 | n + 1, a, b =>
  if a.Kind ≠ b.Kind then cmpI a.Kind b.Kind
  else if isS a.Kind = true then cmpS a b
  else if a.Kind = 11 then lexi (cmpVn n) a.List_ b.List_
  else if a.Kind = 12 then lexi (fun x y => orL [cmpVn n x.1 y.1, cmpVn n x.2 y.2]) a.Pairs b.Pairs
  else if a.Kind = 10 then orL [lexi (fun x y => orL [cmpI x.1 y.1, cmpVn n x.2 y.2]) a.Slots b.Slots, lexi cmpR a.Raws b.Raws]
  else 0
def contV (v : GValue) : GAny :=
 if isS v.Kind = true then .a_order_one v else if (v.Kind == 11) = true then .a_order_list v.List_ else if (v.Kind == 12) = true then .a_order_pairs v.Pairs else if (v.Kind == 10) = true then .a_order_parts ⟨v.Slots, v.Raws⟩ else .nil
theorem cont_is (v : GValue) : order_contents v (contV v) := by
 refine order_contents_step _ _ ⟨_, scalar_Is_step _ _ rfl, fun h => ?_, fun h => ⟨fun h1 => ?_, fun h1 => ⟨fun h2 => ?_, fun h2 => ⟨fun h3 => ?_, fun h3 => ?_⟩⟩⟩⟩
 ·unfold contV isS; rw [if_pos h]
 ·unfold contV isS; rw [if_neg (nt h), if_pos h1]
 ·unfold contV isS; rw [if_neg (nt h), if_neg (nt h1), if_pos h2]
 ·unfold contV isS; rw [if_neg (nt h), if_neg (nt h1), if_neg (nt h2), if_pos h3]
 ·unfold contV isS; rw [if_neg (nt h), if_neg (nt h1), if_neg (nt h2), if_neg (nt h3)]
theorem OkD.inv {v : GValue} (h : OkD v) : I64 v.Kind /\ U64 v.Bits /\ (Sz v.List_.length /\ Sz v.Pairs.length /\ Sz v.Slots.length /\ Sz v.Raws.length) /\ (∀ x ∈ v.List_, OkD x) /\ (∀ x ∈ v.Pairs, OkD x.1 /\ OkD x.2) /\ (∀ x ∈ v.Slots, OkD x.2) := by
 cases h with
 | mk _ k b t l p s r hl hk hv hn hs hr w => exact ⟨k, b, ⟨l, p, s, r⟩, hl, fun x hx => ⟨hk x hx, hv x hx⟩, hs⟩
theorem OkD.w {v : GValue} (h : OkD v) : Sz (v.List_.length * 128) /\ Sz (v.Pairs.length * 256) /\ Sz (v.Slots.length * 136) /\ Sz (v.Raws.length * 40) := by
 cases h with
 | mk _ _ _ _ _ _ _ _ _ _ _ _ _ _ w => exact w
theorem raw_is (x y : GRaw) : order_cmpRaw x y (cmpR x y) := order_cmpRaw_step _ _ _ ⟨_, cmpI_is _ _, _, cmpI_is _ _, _, cmpU_is _ _, _, cmpB_is _ _, _, or_is _ (by simp), rfl⟩
theorem szL {a x : GValue} (h : x ∈ a.List_) : SizeOf.sizeOf x < SizeOf.sizeOf a := by
 have := List.sizeOf_lt_of_mem h
 cases a; simp at this ⊢; omega
theorem szP {a : GValue} {x : GValue × GValue} (h : x ∈ a.Pairs) : SizeOf.sizeOf x.1 < SizeOf.sizeOf a /\ SizeOf.sizeOf x.2 < SizeOf.sizeOf a := by
 have := List.sizeOf_lt_of_mem h
 cases a; cases x; simp at this ⊢; omega
theorem szS {a : GValue} {x : Int × GValue} (h : x ∈ a.Slots) : SizeOf.sizeOf x.2 < SizeOf.sizeOf a := by
 have := List.sizeOf_lt_of_mem h
 cases a; cases x; simp at this ⊢; omega
theorem szV (a : GValue) : 0 < SizeOf.sizeOf a := by cases a; simp; omega
theorem cmp_is : ∀ (n : Nat) (a b : GValue), OkD a -> OkD b -> SizeOf.sizeOf a <= n -> order_Cmp a b (cmpVn n a b)
 | 0, a, b, _, _, h => by have := szV a; omega
 | n + 1, a, b, ha, hb, hn => by
  obtain ⟨_, hab, ⟨la, pa, sa, ra⟩, hla, hpa, hsa⟩ := ha.inv
  obtain ⟨_, hbb, _, hlb, hpb, hsb⟩ := hb.inv
  refine order_Cmp_step _ _ _ ⟨fun h => ⟨_, cmpI_is _ _, ?_⟩, fun h => ⟨_, cont_is b, _, cont_is a, ?_⟩⟩
  ·simp at h
   rw [cmpVn, if_pos h]
  have hk : a.Kind = b.Kind := by simpa using h
  rw [cmpVn, if_neg (by simp [hk])]
  by_cases h1 : isS a.Kind = true
  ·have ea : contV a = .a_order_one a := by unfold contV; rw [if_pos h1]
   rw [if_pos h1, ea]
   refine ⟨fun y hy => ?_, fun hn => (hn a rfl).elim⟩
   cases hy
   exact ⟨_, cmpS_is a b hk h1 hab hbb, rfl⟩
  ·rw [if_neg h1]
   by_cases h2 : a.Kind = 11
   ·have ea : contV a = .a_order_list a.List_ := by unfold contV; rw [if_neg h1, if_pos (by simp [h2])]
    have eb : contV b = .a_order_list b.List_ := by unfold contV; rw [if_neg (by rw [← hk]; exact h1), if_pos (by simp [← hk, h2])]
    rw [if_pos h2, ea, eb]
    refine ⟨fun y hy => (by cases hy), fun _ => ⟨fun y hy => ?_, fun hn => (hn _ rfl).elim⟩⟩
    cases hy
    refine ⟨_, rfl, _, slices_CompareFunc_order_list_order_list_Value_Value_step _ _ _ _ (comp_law (J := fun i s t r => slices_CompareFunc_order_list_order_list_Value_Value_j2 i s t (⟨6, [], [], rfl⟩ : GFn) r) (cmpVn n) (fun i s t r hw => slices_CompareFunc_order_list_order_list_Value_Value_j2_step _ _ _ _ _ hw) _ _ la fun x hx y hy => ?_), rfl⟩
    exact ⟨6, [], [], rfl, (show plainL [AV.agg (eGValue x), AV.agg (eGValue y)] = true by simp [plainL, plain, pl_GValue]), cmp_is n x y (hla x hx) (hlb y hy) (by have := szL hx; omega)⟩
   ·rw [if_neg h2]
    by_cases h3 : a.Kind = 12
    ·have ea : contV a = .a_order_pairs a.Pairs := by unfold contV; rw [if_neg h1, if_neg (by simp [h2]), if_pos (by simp [h3])]
     have eb : contV b = .a_order_pairs b.Pairs := by unfold contV; rw [if_neg (by rw [← hk]; exact h1), if_neg (by simp [← hk, h2]), if_pos (by simp [← hk, h3])]
     rw [if_pos h3, ea, eb]
     refine ⟨fun y hy => (by cases hy), fun _ => ⟨fun y hy => (by cases hy), fun _ => ⟨fun y hy => ?_, fun hn => (hn _ rfl).elim⟩⟩⟩
     cases hy
     refine ⟨_, rfl, _, slices_CompareFunc_order_pairs_order_pairs_Pair_Pair_step _ _ _ _ (comp_law (J := fun i s t r => slices_CompareFunc_order_pairs_order_pairs_Pair_Pair_j2 i s t (⟨21, [], [], rfl⟩ : GFn) r) (fun x y => orL [cmpVn n x.1 y.1, cmpVn n x.2 y.2]) (fun i s t r hw => slices_CompareFunc_order_pairs_order_pairs_Pair_Pair_j2_step _ _ _ _ _ hw) _ _ pa fun x hx y hy => ?_), rfl⟩
     have hz := szP hx
     exact ⟨21, [], [], rfl, (show plainL [AV.agg (eGPair x), AV.agg (eGPair y)] = true by simp [plainL, plain, pl_GPair]), order_cmpPair_step _ _ _ ⟨_, cmp_is n _ _ (hpa x hx).1 (hpb y hy).1 (by omega), _, cmp_is n _ _ (hpa x hx).2 (hpb y hy).2 (by omega), _, or_is _ (by simp), rfl⟩⟩
    ·rw [if_neg h3]
     by_cases h4 : a.Kind = 10
     ·have ea : contV a = .a_order_parts ⟨a.Slots, a.Raws⟩ := by unfold contV; rw [if_neg h1, if_neg (by simp [h2]), if_neg (by simp [h3]), if_pos (by simp [h4])]
      have eb : contV b = .a_order_parts ⟨b.Slots, b.Raws⟩ := by unfold contV; rw [if_neg (by rw [← hk]; exact h1), if_neg (by simp [← hk, h2]), if_neg (by simp [← hk, h3]), if_pos (by simp [← hk, h4])]
      rw [if_pos h4, ea, eb]
      refine ⟨fun y hy => (by cases hy), fun _ => ⟨fun y hy => (by cases hy), fun _ => ⟨fun y hy => (by cases hy), fun _ => ⟨fun y hy => ?_, fun hn => (hn _ rfl).elim⟩⟩⟩⟩
      cases hy
      refine ⟨_, rfl, _, slices_CompareFunc_LSlot_LSlot_Slot_Slot_step _ _ _ _ (comp_law (J := fun i s t r => slices_CompareFunc_LSlot_LSlot_Slot_Slot_j2 i s t (⟨24, [], [], rfl⟩ : GFn) r) (fun x y => orL [cmpI x.1 y.1, cmpVn n x.2 y.2]) (fun i s t r hw => slices_CompareFunc_LSlot_LSlot_Slot_Slot_j2_step _ _ _ _ _ hw) _ _ sa fun x hx y hy => ?_), _, slices_CompareFunc_LRaw_LRaw_Raw_Raw_step _ _ _ _ (comp_law (J := fun i s t r => slices_CompareFunc_LRaw_LRaw_Raw_Raw_j2 i s t (⟨26, [], [], rfl⟩ : GFn) r) cmpR (fun i s t r hw => slices_CompareFunc_LRaw_LRaw_Raw_Raw_j2_step _ _ _ _ _ hw) _ _ ra fun x hx y hy => ?_), _, or_is _ (by simp), rfl⟩
      ·have hz := szS hx
       exact ⟨24, [], [], rfl, (show plainL [AV.agg (eGSlot x), AV.agg (eGSlot y)] = true by simp [plainL, plain, pl_GSlot]), order_cmpSlot_step _ _ _ ⟨_, cmpI_is _ _, _, cmp_is n _ _ (hsa x hx) (hsb y hy) (by omega), _, or_is _ (by simp), rfl⟩⟩
      ·exact ⟨26, [], [], rfl, (show plainL [AV.agg (eGRaw x), AV.agg (eGRaw y)] = true by simp [plainL, plain, pl_GRaw]), raw_is x y⟩
     ·have ea : contV a = .nil := by unfold contV; rw [if_neg h1, if_neg (by simp [h2]), if_neg (by simp [h3]), if_neg (by simp [h4])]
      rw [if_neg h4, ea]
      exact ⟨fun y hy => (by cases hy), fun _ => ⟨fun y hy => (by cases hy), fun _ => ⟨fun y hy => (by cases hy), fun _ => ⟨fun y hy => (by cases hy), fun _ => rfl⟩⟩⟩⟩
theorem xor_max (a : Nat) (h : a < 18446744073709551616) : bitsOf .xor .u64 (IntKind.u64.max) (a : Int) = ((18446744073709551615 - a : Nat) : Int) := by
 have e3 : bitsOf .xor .u64 (IntKind.u64.max) (a : Int) = IntKind.u64.wrap (((BitVec.allOnes 64 ^^^ BitVec.ofInt 64 (a : Int)).toNat : Nat) : Int) := rfl
 rw [e3, BitVec.xor_comm]
 exact xor_u64_ones a h
theorem and_sign (a : Nat) (h : a < 18446744073709551616) : (bitsOf .and .u64 (a : Int) 9223372036854775808 != 0) = decide (9223372036854775808 <= a) := by
 have e := bits_and_u64 a 9223372036854775808 h (by omega)
 rw [show ((9223372036854775808 : Nat) : Int) = 9223372036854775808 from rfl] at e
 rw [e]
 by_cases h1 : 9223372036854775808 <= a
 ·have ea : a = (a - 9223372036854775808) ||| 9223372036854775808 := by
   have e2 := or_add (a - 9223372036854775808) 1 63 (by rw [show (2 : Nat) ^ 63 = 9223372036854775808 by decide]; omega)
   rw [Nat.one_mul, show (2 : Nat) ^ 63 = 9223372036854775808 by decide] at e2
   rw [e2]; omega
  have e3 : a &&& 9223372036854775808 = 9223372036854775808 := by
   rw [ea]
   apply Nat.eq_of_testBit_eq
   intro i
   rw [Nat.testBit_and, Nat.testBit_or]
   generalize Nat.testBit (a - 9223372036854775808) i = t
   generalize Nat.testBit 9223372036854775808 i = u
   cases t <;> cases u <;> rfl
  rw [e3]; simp [h1]
 ·have e3 : a &&& 9223372036854775808 = 0 := by
   apply Nat.eq_of_testBit_eq
   intro i
   rw [Nat.testBit_and, show (9223372036854775808 : Nat) = 2 ^ 63 by decide, Nat.testBit_two_pow]
   by_cases hi : 63 = i
   ·subst hi
    rw [Nat.testBit_lt_two_pow (by rw [show (2 : Nat) ^ 63 = 9223372036854775808 by decide]; omega)]
    simp
   ·simp [hi]
  rw [e3]; simp [h1]
theorem or_sign (a : Nat) (h : a < 9223372036854775808) : bitsOf .or .u64 (a : Int) 9223372036854775808 = ((a + 9223372036854775808 : Nat) : Int) := by
 have e := bits_or_u64 a 9223372036854775808 (by omega) (by omega)
 rw [show ((9223372036854775808 : Nat) : Int) = 9223372036854775808 from rfl] at e
 rw [e]
 have e2 := or_add a 1 63 (by rw [show (2 : Nat) ^ 63 = 9223372036854775808 by decide]; exact h)
 rw [Nat.one_mul, show (2 : Nat) ^ 63 = 9223372036854775808 by decide] at e2
 rw [e2]
theorem placeI_eq (x : Int) (hx : U64 x) : placeI x = if clsS x.toNat = 0 then 18446744073709551615 else if 9223372036854775808 <= x then wU (18446744073709551615 - x) else wU (x + 9223372036854775808) := by
 obtain ⟨h1, h2⟩ := hx
 have hz : x = (x.toNat : Int) := by omega
 generalize x.toNat = z at hz
 subst hz
 unfold placeI
 rw [and_sign z (by omega), xor_max z (by omega)]
 have e0 : (Int.toNat (z : Int)) = z := by omega
 rw [e0]
 by_cases h3 : clsS z = 0
 ·rw [if_pos h3, if_pos (by simp [h3])]
 ·rw [if_neg h3, if_neg (by simp; omega)]
  by_cases h4 : 9223372036854775808 <= z
  ·rw [if_pos (by simpa using h4), if_pos (by omega), wU, wrapU (by omega)]; omega
  ·rw [if_neg (by simpa using h4), if_neg (by omega), or_sign z (by omega), wU, wrapU (by omega)]; omega
def rankW (v : GValue) : Int := if v.Kind = 2 ∨ v.Kind = 3 then wU (v.Bits + 9223372036854775808) else if v.Kind ≠ 6 then v.Bits else placeI v.Bits
theorem rankW_is (v : GValue) (hb : U64 v.Bits) : ref04_rank v (rankW v) := by
 have hz : v.Bits = (v.Bits.toNat : Int) := by have := hb.1; omega
 have hc := rclass_is v.Bits.toNat (by have := hb.2; omega)
 rw [← hz] at hc
 unfold rankW
 rw [placeI_eq _ hb]
 refine ref04_rank_step _ _ ⟨_, ref04_signed_step _ _ rfl, fun h => ?_, fun h => ⟨fun h2 => ?_, fun h2 => ⟨_, hc, fun h3 => ?_, fun h3 => ⟨fun h4 => ?_, fun h4 => ?_⟩⟩⟩⟩
 all_goals simp only [Bool.or_eq_true, Bool.or_eq_false_iff, beq_iff_eq, beq_eq_false_iff_ne, bne_iff_ne, bne_eq_false_iff_eq, decide_eq_true_eq, decide_eq_false_iff_not, ne_eq] at *
 ·rw [if_pos h]
 ·rw [if_neg (by omega), if_pos h2]
 ·rw [if_neg (by omega), if_neg (by omega), if_pos (by omega)]
 ·rw [if_neg (by omega), if_neg (by omega), if_neg (by omega), if_pos h4]
 ·rw [if_neg (by omega), if_neg (by omega), if_neg (by omega), if_neg h4]
theorem cmpI_shift {x y x' y' : Int} (h1 : x < y ↔ x' < y') (h2 : y < x ↔ y' < x') : cmpI x y = cmpI x' y' := by
 unfold cmpI
 simp only [h1, h2]
theorem cmpS_rank (a b : GValue) (hk : a.Kind = b.Kind) (ht : ((a.Kind == 7) || (a.Kind == 8)) = false) (ha : U64 a.Bits) (hb : U64 b.Bits) : cmpS a b = cmpI (rankW a) (rankW b) := by
 unfold cmpS rankW
 rw [if_neg (nt ht), ← hk]
 by_cases h1 : a.Kind = 2 ∨ a.Kind = 3
 ·rw [if_pos (by simpa using h1), if_pos h1, if_pos h1]
  obtain ⟨a1, a2⟩ := ha
  obtain ⟨b1, b2⟩ := hb
  have key : ∀ z : Int, 0 <= z -> z < 18446744073709551616 -> (z < 9223372036854775808 /\ wI z = z /\ wU (z + 9223372036854775808) = z + 9223372036854775808) ∨ (9223372036854775808 <= z /\ wI z = z - 18446744073709551616 /\ wU (z + 9223372036854775808) = z - 9223372036854775808) := by
   intro z z1 z2
   rcases Int.lt_or_le z 9223372036854775808 with h | h
   ·exact .inl ⟨h, by rw [wI, wrapI (by omega)], by rw [wU, wrapU (by omega)]⟩
   ·refine .inr ⟨h, ?_, ?_⟩
    ·simp only [wI, IntKind.wrap, IntKind.bits, IntKind.signed, Bool.true_and, decide_eq_true_eq]; split <;> rename_i hq <;> first | omega | (simp at hq; omega)
    ·simp only [wU, IntKind.wrap, IntKind.bits, IntKind.signed, Bool.false_and, Bool.false_eq_true, if_false]; omega
  rcases key a.Bits a1 a2 with ⟨p1, p2, p3⟩ | ⟨p1, p2, p3⟩ <;> rcases key b.Bits b1 b2 with ⟨q1, q2, q3⟩ | ⟨q1, q2, q3⟩ <;> rw [p2, p3, q2, q3] <;> exact cmpI_shift (by omega) (by omega)
 ·rw [if_neg (by simpa using h1), if_neg h1, if_neg h1]
  by_cases h2 : a.Kind = 6
  ·rw [if_pos (by simp [h2]), if_neg (by simp [h2]), if_neg (by simp [h2])]
  ·rw [if_neg (by simp [h2]), if_pos h2, if_pos h2]
theorem rnum_is (x y : Int) : ref16_number x y (cmpI x y) := by
 refine ref16_number_step _ _ _ ⟨fun h => ?_, fun h => ⟨fun h2 => ?_, fun h2 => ?_⟩⟩
 ·simp at h; simp [cmpI, h]
 ·simp at h h2; simp [cmpI, h2]; omega
 ·simp at h h2; simp only [cmpI]; rw [if_neg (by omega), if_neg (by omega)]
theorem rcmpS_is (a b : GValue) (hk : a.Kind = b.Kind) (ha : U64 a.Bits) (hb : U64 b.Bits) : ref04_Cmp a b (if isS a.Kind = true then cmpS a b else 0) := by
 have tx : ref04_texts a.Kind ((a.Kind == 7) || (a.Kind == 8)) := ref04_texts_step _ _ rfl
 refine ref04_Cmp_step _ _ _ ⟨fun h => by simp [hk] at h, fun _ => ⟨fun h => by simp [hk] at h, fun _ => ⟨isS a.Kind, ref04_Is_step _ _ rfl, fun h => ?_, fun h => ?_⟩⟩⟩
 ·rw [if_neg (by simpa using h)]
 have hs : isS a.Kind = true := by simpa using h
 rw [if_pos hs]
 refine ⟨_, tx, fun h1 => ?_, fun h1 => ⟨_, tx, fun h2 => ?_, fun h2 => ⟨_, tx, fun h3 => ?_, fun h3 => ⟨_, rankW_is a ha, _, rankW_is b hb, fun h4 => ?_, fun h4 => ⟨_, rankW_is a ha, _, rankW_is b hb, fun h5 => ?_, fun h5 => ?_⟩⟩⟩⟩⟩
 ·rw [Bool.and_eq_true] at h1
  unfold cmpS cmpB
  rw [if_pos h1.1, if_pos h1.2]
 ·rw [Bool.and_eq_true] at h2
  rw [h2.1, Bool.true_and] at h1
  unfold cmpS cmpB
  rw [if_pos h2.1, if_neg (nt h1), if_pos h2.2]
 ·rw [h3, Bool.true_and] at h1 h2
  unfold cmpS cmpB
  rw [if_pos h3, if_neg (nt h1), if_neg (nt h2)]
 ·rw [cmpS_rank a b hk h3 ha hb]
  simp at h4
  simp [cmpI, h4]
 ·rw [cmpS_rank a b hk h3 ha hb]
  simp at h4 h5
  simp [cmpI, h5]; omega
 ·rw [cmpS_rank a b hk h3 ha hb]
  simp at h4 h5
  simp only [cmpI]; rw [if_neg (by omega), if_neg (by omega)]
theorem comp2_law {α : Type} {J : Int -> List α -> List α -> Int -> Prop} {C : α -> α -> Int -> Prop} (c : α -> α -> Int)
  (step : ∀ i s t r, (((decide (i < (s.length : Int))) && (decide (i < (t.length : Int)))) = true -> ∃ y6, s[i.toNat]? = some y6 /\ 0 <= i /\ (∃ y7, t[i.toNat]? = some y7 /\ 0 <= i /\ (∃ y8, C y6 y7 y8 /\ (((y8 != 0) = true -> r = y8) /\ ((y8 != 0) = false -> J (wI (i + 1)) s t r))))) /\ (((decide (i < (s.length : Int))) && (decide (i < (t.length : Int)))) = false -> ∃ y5, ref16_number (s.length : Int) (t.length : Int) y5 /\ (r = y5)) -> J i s t r)
  (s t : List α) (hs : s.length <= 140737488351232) (hC : ∀ x ∈ s, ∀ y ∈ t, C x y (c x y)) : J 0 s t (lexi c s t) := by
 have key : ∀ (d i : Nat), s.length - i <= d -> i <= s.length -> i <= t.length -> J i s t (lexi c (s.drop i) (t.drop i)) := by
  intro d
  induction d with
  | zero =>
   intro i hd hi hj
   refine step _ _ _ _ ⟨fun h => by simp at h; omega, fun _ => ⟨_, rnum_is _ _, ?_⟩⟩
   rw [List.drop_eq_nil_of_le (show s.length <= i by omega)]
   rcases Nat.lt_or_ge i t.length with h | h
   ·rw [List.drop_eq_getElem_cons h]
    simp only [lexi, cmpI]; rw [if_pos (by omega)]
   ·rw [List.drop_eq_nil_of_le h]
    simp only [lexi, cmpI]; rw [if_neg (by omega), if_neg (by omega)]
  | succ d ih =>
   intro i hd hi hj
   rcases Nat.lt_or_ge i s.length with hlt | hge
   ·have ds : s.drop i = s[i] :: s.drop (i + 1) := List.drop_eq_getElem_cons hlt
    rcases Nat.lt_or_ge i t.length with h | h
    ·have e1 : wI ((i : Int) + 1) = ((i + 1 : Nat) : Int) := by rw [wI, wrapI (by omega)]; omega
     have dt : t.drop i = t[i] :: t.drop (i + 1) := List.drop_eq_getElem_cons h
     refine step _ _ _ _ ⟨fun _ => ⟨s[i], by simp, by omega, t[i], by simp, by omega, c s[i] t[i], hC _ (List.getElem_mem _) _ (List.getElem_mem _), fun h2 => ?_, fun h2 => ?_⟩, fun h2 => by simp at h2; omega⟩
     ·simp at h2
      rw [ds, dt]
      simp [lexi, h2]
     ·simp at h2
      rw [ds, dt, e1]
      have := ih (i + 1) (by omega) (by omega) (by omega)
      simpa [lexi, h2] using this
    ·refine step _ _ _ _ ⟨fun h => by simp at h; omega, fun _ => ⟨_, rnum_is _ _, ?_⟩⟩
     rw [ds, List.drop_eq_nil_of_le h]
     simp only [lexi, cmpI]; rw [if_neg (by omega), if_pos (by omega)]
   ·refine step _ _ _ _ ⟨fun h => by simp at h; omega, fun _ => ⟨_, rnum_is _ _, ?_⟩⟩
    rw [List.drop_eq_nil_of_le hge]
    rcases Nat.lt_or_ge i t.length with h | h
    ·rw [List.drop_eq_getElem_cons h]
     simp only [lexi, cmpI]; rw [if_pos (by omega)]
    ·rw [List.drop_eq_nil_of_le h]
     simp only [lexi, cmpI]; rw [if_neg (by omega), if_neg (by omega)]
 simpa using key s.length 0 (by omega) (by omega) (by omega)
theorem cmpI_ne {x y : Int} : cmpI x y ≠ 0 ↔ x ≠ y := by
 rcases cmpI_cases x y with h | h | h <;> rw [h.2] <;> omega
theorem rraw_is (x y : GRaw) : ref16_raw x y (cmpR x y) := by
 unfold cmpR
 refine ref16_raw_step _ _ _ ⟨fun h => ⟨_, rnum_is _ _, ?_⟩, fun h => ⟨fun h2 => ⟨_, rnum_is _ _, ?_⟩, fun h2 => ⟨fun h3 => ?_, fun h3 => ⟨fun h4 => ?_, fun h4 => ⟨fun h5 => ?_, fun h5 => ⟨fun h6 => ?_, fun h6 => ?_⟩⟩⟩⟩⟩⟩
 ·simp at h
  simp only [orL]; rw [if_pos (cmpI_ne.2 h)]
 all_goals simp only [bne_eq_false_iff_eq] at h
 all_goals have e1 : cmpI x.Num y.Num = 0 := by rcases cmpI_cases x.Num y.Num with g | g | g <;> omega
 ·simp at h2
  simp only [orL, e1]; rw [if_neg (by simp), if_pos (cmpI_ne.2 h2)]
 all_goals simp only [bne_eq_false_iff_eq] at h2
 all_goals have e2 : cmpI x.Wire y.Wire = 0 := by rcases cmpI_cases x.Wire y.Wire with g | g | g <;> omega
 ·simp at h3
  have e3 : cmpI x.Bits y.Bits = -1 := by simp [cmpI, h3]
  simp [orL, e1, e2, e3]
 ·simp at h3 h4
  have e3 : cmpI x.Bits y.Bits = 1 := by simp [cmpI, h4]; omega
  simp [orL, e1, e2, e3]
 all_goals simp only [decide_eq_false_iff_not] at h3 h4
 all_goals have e3 : cmpI x.Bits y.Bits = 0 := by rcases cmpI_cases x.Bits y.Bits with g | g | g <;> omega
 ·simp [orL, e1, e2, e3, cmpB, h5]
 ·have e4 : cmpB x.Data y.Data = 1 := by unfold cmpB; rw [if_neg (nt h5), if_pos h6]
  simp [orL, e1, e2, e3, e4]
 ·have e4 : cmpB x.Data y.Data = 0 := by unfold cmpB; rw [if_neg (nt h5), if_neg (nt h6)]
  simp [orL, e1, e2, e3, e4]
theorem or2 (u v : Int) : orL [u, v] = if u ≠ 0 then u else v := by
 simp only [orL]
 by_cases hu : u = 0
 ·subst hu; by_cases hv : v = 0 <;> simp [hv]
 ·simp [hu]
theorem rcmp_is : ∀ (n : Nat) (a b : GValue), OkD a -> OkD b -> SizeOf.sizeOf a <= n -> ref16_Cmp a b (cmpVn n a b)
 | 0, a, b, _, _, h => by have := szV a; omega
 | n + 1, a, b, ha, hb, hn => by
  obtain ⟨_, hab, ⟨la, pa, sa, ra⟩, hla, hpa, hsa⟩ := ha.inv
  obtain ⟨_, hbb, _, hlb, hpb, hsb⟩ := hb.inv
  have sc : ∀ k : Int, k = 10 ∨ k = 11 ∨ k = 12 -> ¬ isS k = true := by
   intro k hk h
   unfold isS at h
   rw [Bool.and_eq_true, decide_eq_true_eq, decide_eq_true_eq] at h
   omega
  refine ref16_Cmp_step _ _ _ ⟨fun h => ⟨_, rnum_is _ _, ?_⟩, fun h => ?_⟩
  ·simp at h
   rw [cmpVn, if_pos h]
  have hk : a.Kind = b.Kind := by simpa using h
  rw [cmpVn, if_neg (by simp [hk])]
  refine ⟨fun h1 => ?_, fun h1 => ⟨fun h2 => ?_, fun h2 => ⟨fun h3 => ?_, fun h3 => ?_⟩⟩⟩
  all_goals simp only [beq_iff_eq, beq_eq_false_iff_ne] at *
  ·rw [if_neg (sc _ (by omega)), if_pos h1]
   exact ⟨_, ref16_lists_step _ _ _ (comp2_law (cmpVn n) (fun i s t r hw => ref16_lists_j2_step _ _ _ _ hw) _ _ la fun x hx y hy => rcmp_is n x y (hla x hx) (hlb y hy) (by have := szL hx; omega)), rfl⟩
  ·rw [if_neg (sc _ (by omega)), if_neg h1, if_pos h2]
   refine ⟨_, ref16_pairs_step _ _ _ (comp2_law (C := fun x y z => ∃ u v, ref16_Cmp x.1 y.1 u /\ ref16_Cmp x.2 y.2 v /\ z = orL [u, v]) (fun x y => orL [cmpVn n x.1 y.1, cmpVn n x.2 y.2]) (fun i s t r hw => ref16_pairs_j2_step _ _ _ _ ⟨fun h => ?_, hw.2⟩) _ _ pa fun x hx y hy => ?_), rfl⟩
   ·obtain ⟨y6, p1, p2, y7, q1, q2, z, ⟨u, v, c1, c2, rfl⟩, r1, r2⟩ := hw.1 h
    rw [or2] at r1 r2
    refine ⟨y6, p1, p2, y7, q1, q2, u, c1, fun hu => ?_, fun hu => ⟨y6, p1, p2, y7, q1, q2, v, c2, fun hv => ?_, fun hv => ?_⟩⟩
    ·have : u ≠ 0 := by simpa using hu
     rw [if_pos this] at r1
     exact r1 (by simpa using this)
    ·have : u = 0 := by simpa using hu
     rw [if_neg (by simp [this])] at r1
     exact r1 hv
    ·have : u = 0 := by simpa using hu
     rw [if_neg (by simp [this])] at r2
     exact r2 hv
   ·have hz := szP hx
    exact ⟨_, _, rcmp_is n _ _ (hpa x hx).1 (hpb y hy).1 (by omega), rcmp_is n _ _ (hpa x hx).2 (hpb y hy).2 (by omega), rfl⟩
  ·rw [if_neg (sc _ (by omega)), if_neg h1, if_neg h2, if_pos h3, or2]
   refine ⟨_, ref16_slots_step _ _ _ (comp2_law (C := fun x y z => ∃ u v, ref16_number x.1 y.1 u /\ ref16_Cmp x.2 y.2 v /\ z = orL [u, v]) (fun x y => orL [cmpI x.1 y.1, cmpVn n x.2 y.2]) (fun i s t r hw => ref16_slots_j2_step _ _ _ _ ⟨fun h => ?_, hw.2⟩) _ _ sa fun x hx y hy => ?_), fun h4 => ?_, fun h4 => ⟨_, ref16_raws_step _ _ _ (comp2_law cmpR (fun i s t r hw => ref16_raws_j2_step _ _ _ _ hw) _ _ ra fun x hx y hy => rraw_is x y), ?_⟩⟩
   ·obtain ⟨y6, p1, p2, y7, q1, q2, z, ⟨u, v, c1, c2, rfl⟩, r1, r2⟩ := hw.1 h
    rw [or2] at r1 r2
    refine ⟨y6, p1, p2, y7, q1, q2, u, c1, fun hu => ?_, fun hu => ⟨y6, p1, p2, y7, q1, q2, v, c2, fun hv => ?_, fun hv => ?_⟩⟩
    ·have : u ≠ 0 := by simpa using hu
     rw [if_pos this] at r1
     exact r1 (by simpa using this)
    ·have : u = 0 := by simpa using hu
     rw [if_neg (by simp [this])] at r1
     exact r1 hv
    ·have : u = 0 := by simpa using hu
     rw [if_neg (by simp [this])] at r2
     exact r2 hv
   ·have hz := szS hx
    exact ⟨_, _, rnum_is _ _, rcmp_is n _ _ (hsa x hx) (hsb y hy) (by omega), rfl⟩
   ·rw [if_pos (by simpa using h4)]
   ·rw [if_neg (by simpa using h4)]
  ·refine ⟨_, rcmpS_is a b hk hab hbb, ?_⟩
   by_cases hs : isS a.Kind = true
   ·rw [if_pos hs, if_pos hs]
   ·rw [if_neg hs, if_neg hs, if_neg h1, if_neg h2, if_neg h3]
abbrev Tp {α : Type} (c : α -> α -> Int) : Prop := Pre c (fun _ : α => True)
section
variable {α : Type} {c c1 c2 : α -> α -> Int}
theorem Tp.s (h : Tp c) (x y : α) : c x y < 0 ↔ 0 < c y x := h.sym x y trivial trivial
theorem Tp.t (h : Tp c) (x y z : α) : c x y <= 0 -> c y z <= 0 -> c x z <= 0 := h.trans x y z trivial trivial trivial
theorem or_sym (h : Tp c) {x y : α} {p q : Int} (hpq : p < 0 ↔ 0 < q) : (if c x y ≠ 0 then c x y else p) < 0 ↔ 0 < (if c y x ≠ 0 then c y x else q) := by
 have h1 := h.s x y
 have h2 := h.s y x
 by_cases hx : c x y = 0
 ·have hy : c y x = 0 := by omega
  rw [if_neg (by simp [hx]), if_neg (by simp [hy])]
  exact hpq
 ·have hy : c y x ≠ 0 := by omega
  rw [if_pos hx, if_pos hy]
  exact h1
theorem or_trans (h : Tp c) {x y z : α} {p q r : Int} (hp : p <= 0 -> q <= 0 -> r <= 0) (h1 : (if c x y ≠ 0 then c x y else p) <= 0) (h2 : (if c y z ≠ 0 then c y z else q) <= 0) : (if c x z ≠ 0 then c x z else r) <= 0 := by
 have sxy := h.s x y
 have syx := h.s y x
 have syz := h.s y z
 have szy := h.s z y
 have sxz := h.s x z
 have szx := h.s z x
 have t1 := h.t x y z
 have t2 := h.t y z x
 have t3 := h.t z x y
 by_cases hxz : c x z = 0
 ·rw [if_neg (by simp [hxz])]
  have e1 : c x y = 0 := by
   by_cases e : c x y = 0
   ·exact e
   ·rw [if_pos e] at h1
    by_cases e2 : c y z = 0
    ·have := t2 (by omega) (by omega); omega
    ·rw [if_pos e2] at h2
     have := t2 (by omega) (by omega); omega
  have e2 : c y z = 0 := by
   by_cases e : c y z = 0
   ·exact e
   ·rw [if_pos e] at h2
    have := t3 (by omega) (by omega); omega
  rw [if_neg (by simp [e1])] at h1
  rw [if_neg (by simp [e2])] at h2
  exact hp h1 h2
 ·rw [if_pos hxz]
  by_cases e1 : c x y = 0
  ·by_cases e2 : c y z = 0
   ·exact t1 (by omega) (by omega)
   ·rw [if_pos e2] at h2; exact t1 (by omega) (by omega)
  ·rw [if_pos e1] at h1
   by_cases e2 : c y z = 0
   ·exact t1 (by omega) (by omega)
   ·rw [if_pos e2] at h2; exact t1 (by omega) (by omega)
theorem tp_or (h1 : Tp c1) (h2 : Tp c2) : Tp (fun x y => orL [c1 x y, c2 x y]) := by
 refine ⟨fun x y _ _ => ?_, fun x y z _ _ _ => ?_⟩
 ·simp only [or2]; exact or_sym h1 (h2.s x y)
 ·simp only [or2]; exact or_trans h1 (h2.t x y z)
theorem tp_lexi (h : Tp c) : Tp (lexi c) := by
 refine ⟨fun l m _ _ => ?_, fun l m k _ _ _ => ?_⟩
 ·induction l generalizing m with
  | nil => cases m <;> simp [lexi]
  | cons x l ih =>
   cases m with
   | nil => simp [lexi]
   | cons y m => simp only [lexi]; exact or_sym h (ih m)
 ·induction l generalizing m k with
  | nil => cases m <;> cases k <;> simp [lexi]
  | cons x l ih =>
   cases m with
   | nil => simp [lexi]
   | cons y m =>
    cases k with
    | nil => simp only [lexi]; intro _ h2; exact h2
    | cons z k => simp only [lexi]; exact or_trans h (ih m k)
theorem tp_key (key : α -> Int) (f : Int -> α -> α -> Int) (hf : ∀ k, Tp (f k)) : Tp (fun a b => if key a ≠ key b then cmpI (key a) (key b) else f (key a) a b) := by
 refine ⟨fun x y _ _ => ?_, fun x y z _ _ _ h1 h2 => ?_⟩
 ·by_cases h : key x = key y
  ·simp only [h, ne_eq, not_true_eq_false, if_false]; exact (hf _).s x y
  ·simp only [ne_eq, h, not_false_eq_true, if_true, Ne.symm h]
   rcases cmpI_cases (key x) (key y) with g | g | g <;> rcases cmpI_cases (key y) (key x) with e | e | e <;> rw [g.2, e.2] <;> omega
 ·simp only [ne_eq] at h1 h2 ⊢
  by_cases e1 : key x = key y
  ·by_cases e2 : key y = key z
   ·rw [if_neg (by simp [e1, e2])]
    rw [if_neg (by simp [e1])] at h1
    rw [if_neg (by simp [e2])] at h2
    rw [← e1] at h2
    exact (hf _).t x y z h1 h2
   ·rw [if_pos e2] at h2
    rw [if_pos (by rw [e1]; exact e2), e1]
    exact h2
  ·rw [if_pos e1] at h1
   by_cases e2 : key y = key z
   ·rw [if_pos (by rw [← e2]; exact e1), ← e2]
    exact h1
   ·rw [if_pos e2] at h2
    rcases cmpI_cases (key x) (key y) with g | g | g <;> rcases cmpI_cases (key y) (key z) with e | e | e <;> rw [g.2] at h1 <;> rw [e.2] at h2 <;> first | omega | skip
    rw [if_pos (by omega)]
    rcases cmpI_cases (key x) (key z) with d | d | d <;> rw [d.2] <;> omega
theorem tp_zero : Tp (fun _ _ : α => 0) := ⟨fun x y _ _ => by simp, fun x y z _ _ _ _ _ => by simp⟩
theorem tp_on {β : Type} (h : Tp c) (f : β -> α) : Tp (fun x y => c (f x) (f y)) := ⟨fun x y _ _ => h.s _ _, fun x y z _ _ _ => h.t _ _ _⟩
theorem tp_if (p : Bool) (h1 : Tp c1) (h2 : Tp c2) : Tp (fun x y => if p = true then c1 x y else c2 x y) := by cases p <;> simpa
theorem tp_I : Tp cmpI := pre_num fun x : Int => x
end
theorem bytes_lexi : ∀ l m : List UInt8, (if Op.bytesLess l m = true then (-1 : Int) else if (!(Op.bytesLess l m || l == m)) = true then 1 else 0) = lexi (fun a b : UInt8 => cmpI a.toNat b.toNat) l m
 | [], [] => by simp [Op.bytesLess, lexi]
 | [], b :: m => by simp [Op.bytesLess, lexi]
 | a :: l, [] => by simp [Op.bytesLess, lexi]
 | a :: l, b :: m => by
  have ih := bytes_lexi l m
  simp only [lexi, Op.bytesLess]
  rw [← ih]
  have hab : a < b ↔ a.toNat < b.toNat := UInt8.lt_iff_toNat_lt
  have hba : b < a ↔ b.toNat < a.toNat := UInt8.lt_iff_toNat_lt
  rcases cmpI_cases (a.toNat : Int) (b.toNat : Int) with g | g | g
  ·have h1 : a < b := hab.2 (by omega)
   simp [h1, g.2]
  ·have h1 : a = b := UInt8.toNat_inj.1 (by omega)
   subst h1
   have h2 : ¬ a < a := UInt8.lt_irrefl a
   simp [h2, g.2]
  ·have h1 : ¬ a < b := fun h => by have := hab.1 h; omega
   have h2 : ¬ a = b := fun h => by subst h; omega
   simp [h1, h2, g.2]
theorem tp_B : Tp cmpB := by
 have h := tp_on (tp_lexi (tp_on tp_I fun a : UInt8 => (a.toNat : Int))) fun x : ByteArray => x.toList
 have e : cmpB = fun x y => lexi (fun a b : UInt8 => cmpI (a.toNat : Int) (b.toNat : Int)) x.toList y.toList := by
  funext x y
  exact bytes_lexi x.toList y.toList
 rw [e]; exact h
theorem tp_R : Tp cmpR := by
 have h := tp_or (tp_on tp_I fun x : GRaw => x.Num) (tp_or (tp_on tp_I fun x : GRaw => x.Wire) (tp_or (tp_on tp_I fun x : GRaw => x.Bits) (tp_on tp_B fun x : GRaw => x.Data)))
 have e : cmpR = fun x y : GRaw => orL [cmpI x.Num y.Num, orL [cmpI x.Wire y.Wire, orL [cmpI x.Bits y.Bits, cmpB x.Data y.Data]]] := by
  funext x y
  simp only [cmpR, orL]
  split
  ·rfl
  ·split
   ·simp [*]
   ·split
    ·simp [*]
    ·split <;> simp [*]
 rw [e]; exact h
def cmpSk (k : Int) (a b : GValue) : Int :=
 if ((k == 7) || (k == 8)) = true then cmpB a.Text b.Text
 else if ((k == 2) || (k == 3)) = true then cmpI (wI a.Bits) (wI b.Bits)
 else if (k == 6) = true then cmpI (placeI a.Bits) (placeI b.Bits)
 else cmpI a.Bits b.Bits
theorem tp_S (k : Int) : Tp (cmpSk k) := tp_if _ (tp_on tp_B fun v : GValue => v.Text) (tp_if _ (tp_on tp_I fun v : GValue => wI v.Bits) (tp_if _ (tp_on tp_I fun v : GValue => placeI v.Bits) (tp_on tp_I fun v : GValue => v.Bits)))
theorem tp_V : ∀ n, Tp (cmpVn n)
 | 0 => tp_zero
 | n + 1 => by
  have ih := tp_V n
  have h := tp_key (fun v : GValue => v.Kind) (fun k a b => if isS k = true then cmpSk k a b else if decide (k = 11) = true then lexi (cmpVn n) a.List_ b.List_ else if decide (k = 12) = true then lexi (fun x y => orL [cmpVn n x.1 y.1, cmpVn n x.2 y.2]) a.Pairs b.Pairs else if decide (k = 10) = true then orL [lexi (fun x y => orL [cmpI x.1 y.1, cmpVn n x.2 y.2]) a.Slots b.Slots, lexi cmpR a.Raws b.Raws] else 0)
   fun k => tp_if _ (tp_S k) (tp_if _ (tp_on (tp_lexi ih) fun v : GValue => v.List_) (tp_if _ (tp_on (tp_lexi (tp_or (tp_on ih fun x : GValue × GValue => x.1) (tp_on ih fun x : GValue × GValue => x.2))) fun v : GValue => v.Pairs) (tp_if _ (tp_or (tp_on (tp_lexi (tp_or (tp_on tp_I fun x : Int × GValue => x.1) (tp_on ih fun x : Int × GValue => x.2))) fun v : GValue => v.Slots) (tp_on (tp_lexi tp_R) fun v : GValue => v.Raws)) tp_zero)))
  have e : cmpVn (n + 1) = fun a b : GValue => if a.Kind ≠ b.Kind then cmpI a.Kind b.Kind else (fun (k : Int) (a b : GValue) => if isS k = true then cmpSk k a b else if decide (k = 11) = true then lexi (cmpVn n) a.List_ b.List_ else if decide (k = 12) = true then lexi (fun x y => orL [cmpVn n x.1 y.1, cmpVn n x.2 y.2]) a.Pairs b.Pairs else if decide (k = 10) = true then orL [lexi (fun x y => orL [cmpI x.1 y.1, cmpVn n x.2 y.2]) a.Slots b.Slots, lexi cmpR a.Raws b.Raws] else 0) a.Kind a b := by
   funext a b
   simp only [cmpVn, decide_eq_true_eq]
   rfl
  rw [e]; exact h
def lastsC {α : Type} (c : α -> α -> Int) : List α -> List α
 | [] => []
 | [x] => [x]
 | x :: y :: l => if c x y = 0 then lastsC c (y :: l) else x :: lastsC c (y :: l)
abbrev kc (N : Nat) (x y : GValue × GValue) : Int := cmpVn N x.1 y.1
def OkP (N : Nat) (x : GValue × GValue) : Prop := OkD x.1 /\ SizeOf.sizeOf x.1 <= N
theorem pairs_loop (N : Nat) (S : List (GValue × GValue)) (hl : S.length * 256 <= 140737488355328) (hS : ∀ x ∈ S, OkP N x) : ∀ (d i : Nat) (done : List (GValue × GValue)), S.length - i <= d -> i <= S.length -> done.length <= i -> order_Pairs_j4 i S done (done ++ lastsC (kc N) (S.drop i)) := by
 intro d
 induction d with
 | zero =>
  intro i done hd hi hn
  have e : i = S.length := by omega
  subst e
  exact order_Pairs_j4_step _ _ _ _ ⟨fun h => by simp at h, fun _ => by simp [lastsC]⟩
 | succ d ih =>
  intro i done hd hi hn
  rcases Nat.lt_or_ge i S.length with hlt | hge
  ·have e1 : wI ((i : Int) + 1) = ((i + 1 : Nat) : Int) := by rw [wI, wrapI (by omega)]; omega
   have dr : S.drop i = S[i] :: S.drop (i + 1) := List.drop_eq_getElem_cons hlt
   refine order_Pairs_j4_step _ _ _ _ ⟨fun _ => ⟨S[i], by simp, by omega, fun b => lastsC (kc N) (S.drop i) = if b then S[i] :: lastsC (kc N) (S.drop (i + 1)) else lastsC (kc N) (S.drop (i + 1)), fun b hb => ⟨fun h => ?_, fun h => ?_⟩, fun h => ?_, fun h => ?_⟩, fun h => by simp at h; omega⟩
   ·subst h
    refine ⟨by simp; omega, ?_⟩
    rw [e1, hb]
    have := ih (i + 1) (done ++ [S[i]]) (by omega) (by omega) (by simp; omega)
    simpa using this
   ·subst h
    rw [e1, hb]
    exact ih (i + 1) done (by omega) (by omega) (by omega)
   ·rw [e1] at h
    simp at h
    have : S.drop (i + 1) = [] := List.drop_eq_nil_of_le (by omega)
    rw [dr, this]
    rfl
   ·rw [e1] at h ⊢
    simp at h
    have h2 : i + 1 < S.length := by omega
    have dr2 : S.drop (i + 1) = S[i + 1] :: S.drop (i + 1 + 1) := List.drop_eq_getElem_cons h2
    have o1 := hS _ (List.getElem_mem hlt)
    have o2 := hS _ (List.getElem_mem h2)
    refine ⟨S[i + 1], by simp, by omega, _, order_Equal_step _ _ _ ⟨_, cmp_is N _ _ o1.1 o2.1 o1.2, rfl⟩, ?_⟩
    rw [dr, dr2]
    simp only [lastsC]
    rcases Classical.em (cmpVn N S[i].1 S[i + 1].1 = 0) with h3 | h3
    ·simp [kc, h3]
    ·simp [kc, h3]
  ·exact order_Pairs_j4_step _ _ _ _ ⟨fun h => by simp at h; omega, fun _ => by rw [List.drop_eq_nil_of_le hge]; simp [lastsC]⟩
theorem pre_pairs (N : Nat) : Pre (kc N) (OkP N) := by
 have h := tp_on (tp_V N) fun x : GValue × GValue => x.1
 exact ⟨fun x y _ _ => h.s x y, fun x y z _ _ _ => h.t x y z⟩
theorem pairs1_clo (N : Nat) (x y : GValue × GValue) (hx : OkP N x) (hy : OkP N y) : CGPair (⟨14, [], [], rfl⟩ : GFn) x y (kc N x y) :=
 ⟨14, [], [], rfl, (show plainL [AV.agg (eGPair x), AV.agg (eGPair y)] = true by simp [plainL, plain, pl_GPair]), order_Pairs_1_step _ _ _ ⟨_, cmp_is N _ _ hx.1 hy.1 hx.2, rfl⟩⟩
theorem pairs_is (N : Nat) (l : List (GValue × GValue)) (hl : l.length * 256 <= 140737488355328) (hok : ∀ x ∈ l, OkP N x) : ∃ S, Stably (kc N) l S /\ order_Pairs l (lastsC (kc N) S) := by
 rcases Classical.em (l = []) with h0 | h0
 ·subst h0
  refine ⟨[], ⟨[], .nil, by simp [places], rfl⟩, order_Pairs_step _ _ ⟨fun _ => ⟨?_, slices_SortStableFunc_LPair_Pair_nil_is _, order_Pairs_j2_step _ _ _ ⟨fun h => by simp at h, fun _ => rfl⟩⟩, fun h => (h rfl).elim⟩⟩
  exact slices_Clone_LPair_Pair_step _ _ fun b _ => ⟨fun _ => rfl, fun _ => ⟨by simp, rfl⟩⟩
 ·have hpos : 0 < l.length := List.length_pos_iff.2 h0
  have hmem : ∀ x ∈ places l, x.1 ∈ l := fun x hx => by rw [← places_fs l]; exact List.mem_map_of_mem hx
  obtain ⟨S, h1, h2, h3⟩ := so_law (sortGPair ⟨14, [], [], rfl⟩) (pre_pairs N) (fun x y hx hy => pairs1_clo N x y hx hy) (n0 := l.length) (by omega) hpos (places l) (by simp [places]) (fun x hx => hok _ (hmem x hx)) (places_asc l)
  rw [places_fs] at h3
  have hlen : (fs S).length = l.length := by simp [h2.length_eq, places]
  refine ⟨fs S, ⟨S, h1, h2, rfl⟩, order_Pairs_step _ _ ⟨fun h => (h0 h).elim, fun _ => ⟨slices_Clone_LPair_Pair_new_step _ ⟨h0, hl⟩, fs S, h3, ⟨h0, fun h => ?_⟩, hlen, ?_⟩⟩⟩
  ·rw [h] at hlen; simp at hlen; omega
  ·have := pairs_loop N (fs S) (by rw [hlen]; exact hl) (fun x hx => by
    obtain ⟨y, hy, rfl⟩ := List.mem_map.1 hx
    exact hok _ (hmem y (h2.mem_iff.1 hy))) (fs S).length 0 [] (by omega) (by omega) (by simp)
   simpa using this
section
variable {α : Type} (c : α -> α -> Int)
def insC (x : α) : List α -> List α
 | [] => [x]
 | y :: l => if c y x < 0 then y :: insC x l else x :: y :: l
def lone (x : α) (l : List α) : Bool := l.all fun y => c x y != 0
def keyed : List α -> List α -> List α
 | acc, [] => acc
 | acc, x :: l => keyed (if lone c x l = true then insC c x acc else acc) l
def keyedR : List α -> List α
 | [] => []
 | x :: l => if lone c x l = true then insC c x (keyedR l) else keyedR l
theorem insC_len (x : α) : ∀ l, (insC c x l).length = l.length + 1
 | [] => rfl
 | y :: l => by
  simp only [insC]
  split
  ·simp [insC_len x l]
  ·simp
variable {c}
theorem insC_comm (h : Tp c) {x y : α} (hxy : c x y ≠ 0) : ∀ l, insC c x (insC c y l) = insC c y (insC c x l)
 | [] => by
  have s1 := h.s x y
  have s2 := h.s y x
  simp only [insC]
  by_cases e : c y x < 0
  ·rw [if_pos e, if_neg (by omega)]
  ·rw [if_neg e, if_pos (by omega)]
 | z :: l => by
  have s1 := h.s x y
  have s2 := h.s y x
  have s3 := h.s z x
  have s4 := h.s z y
  have s5 := h.s x z
  have s6 := h.s y z
  have t1 := h.t y x z
  have t2 := h.t x y z
  have t3 := h.t x z y
  have t4 := h.t y z x
  have t5 := h.t z x y
  have t6 := h.t z y x
  simp only [insC]
  by_cases e1 : c z x < 0 <;> by_cases e2 : c z y < 0 <;> simp only [e1, e2, if_true, if_false, insC]
  ·rw [insC_comm h hxy l]
  ·have e3 : ¬ c x y < 0 := by omega
   have e4 : c y x < 0 := by omega
   simp [e4]
  ·have e3 : c x y < 0 := by omega
   simp [e3]
  ·by_cases e4 : c y x < 0
   ·simp [e4]; omega
   ·have e5 : c x y < 0 := by omega
    simp [e4, e5]
def keyedA : List α -> List α -> List α
 | acc, [] => acc
 | acc, x :: l => if lone c x l = true then insC c x (keyedA acc l) else keyedA acc l
theorem keyedA_ins (h : Tp c) (x : α) : ∀ (l acc : List α), lone c x l = true -> keyedA (c := c) (insC c x acc) l = insC c x (keyedA (c := c) acc l)
 | [], acc, _ => rfl
 | y :: l, acc, hl => by
  simp only [lone, List.all_cons, Bool.and_eq_true, bne_iff_ne, ne_eq] at hl
  have ih := keyedA_ins h x l acc hl.2
  simp only [keyedA, ih]
  split
  ·exact insC_comm h (by have := h.s x y; have := h.s y x; omega) _
  ·rfl
theorem keyed_eq (h : Tp c) : ∀ (l acc : List α), keyed c acc l = keyedA (c := c) acc l
 | [], acc => rfl
 | x :: l, acc => by
  simp only [keyed, keyedA]
  by_cases e : lone c x l = true
  ·rw [if_pos e, if_pos e, keyed_eq h l, keyedA_ins h x l acc e]
  ·rw [if_neg e, if_neg e, keyed_eq h l]
theorem keyedA_R : ∀ (l : List α), keyedA (c := c) [] l = keyedR c l
 | [] => rfl
 | x :: l => by simp only [keyedA, keyedR, keyedA_R l]
end
section
variable {N : Nat} {l : List (GValue × GValue)} (hl : l.length * 256 <= 140737488355328) (hok : ∀ x ∈ l, OkP N x)
 include hl hok
theorem rpairs_at (i : Nat) (hi : i < l.length) (acc : List (GValue × GValue)) (hacc : acc.length <= i) (hoa : ∀ x ∈ acc, OkP N x) (r : List (GValue × GValue)) : ∀ (d at_ : Nat), acc.length - at_ <= d -> at_ <= acc.length -> ref16_Pairs_j11 ((i + 1 : Nat) : Int) (acc.take at_ ++ insC (kc N) l[i] (acc.drop at_)) l r -> ref16_Pairs_j17 at_ i acc l r := by
 have e1 : wI ((i : Int) + 1) = ((i + 1 : Nat) : Int) := by rw [wI, wrapI (by omega)]; omega
 have endc : ∀ at_ : Nat, at_ <= acc.length -> ref16_Pairs_j11 ((i + 1 : Nat) : Int) (acc.take at_ ++ l[i] :: acc.drop at_) l r -> ∃ y59, l[(i : Int).toNat]? = some y59 /\ 0 <= (i : Int) /\ ((0 <= (at_ : Int) /\ (at_ : Int) <= (acc.length : Int) /\ (acc.length : Int) <= (acc.length : Int)) /\ (([y59].length + ((acc.take (acc.length : Int).toNat).drop (at_ : Int).toNat).length) * 256 <= 140737488355328 /\ ((0 <= (0 : Int) /\ (0 : Int) <= (at_ : Int) /\ (at_ : Int) <= (acc.length : Int)) /\ ((([] : List (GValue × GValue)).length + ((acc.take (at_ : Int).toNat).drop (0 : Int).toNat).length) * 256 <= 140737488355328 /\ (((([] : List (GValue × GValue)) ++ ((acc.take (at_ : Int).toNat).drop (0 : Int).toNat)).length + ([y59] ++ ((acc.take (acc.length : Int).toNat).drop (at_ : Int).toNat)).length) * 256 <= 140737488355328 /\ (ref16_Pairs_j11 (wI ((i : Int) + 1)) ((([] : List (GValue × GValue)) ++ ((acc.take (at_ : Int).toNat).drop (0 : Int).toNat)) ++ ([y59] ++ ((acc.take (acc.length : Int).toNat).drop (at_ : Int).toNat))) l r)))))) := by
  intro at_ ha hr
  refine ⟨l[i], by simp, by omega, ⟨by omega, by omega, by omega⟩, by simp; omega, ⟨by omega, by omega, by omega⟩, by simp; omega, by simp; omega, ?_⟩
  rw [e1]
  simpa using hr
 intro d
 induction d with
 | zero =>
  intro at_ hd ha hr
  have e : at_ = acc.length := by omega
  subst e
  exact ref16_Pairs_j17_step _ _ _ _ _ ⟨fun h => by simp at h, fun _ => endc _ (Nat.le_refl _) (by simpa [insC] using hr)⟩
 | succ d ih =>
  intro at_ hd ha hr
  rcases Nat.lt_or_ge at_ acc.length with hlt | hge
  ·have e2 : wI ((at_ : Int) + 1) = ((at_ + 1 : Nat) : Int) := by rw [wI, wrapI (by omega)]; omega
   have da : acc.drop at_ = acc[at_] :: acc.drop (at_ + 1) := List.drop_eq_getElem_cons hlt
   have o1 := hoa _ (List.getElem_mem hlt)
   have o2 := hok _ (List.getElem_mem hi)
   rw [da] at hr
   simp only [insC] at hr
   refine ref16_Pairs_j17_step _ _ _ _ _ ⟨fun _ => ⟨acc[at_], by simp, by omega, l[i], by simp, by omega, _, rcmp_is N _ _ o1.1 o2.1 o1.2, fun h => ?_, fun h => ?_⟩, fun h => by simp at h; omega⟩
   ·have h' : kc N acc[at_] l[i] < 0 := by simpa using h
    rw [if_pos h'] at hr
    rw [e2]
    refine ih (at_ + 1) (by omega) (by omega) ?_
    rw [List.take_succ_eq_append_getElem hlt, List.append_assoc]
    exact hr
   ·have h' : ¬ kc N acc[at_] l[i] < 0 := by simpa using h
    rw [if_neg h'] at hr
    have := endc at_ ha (by rw [da]; exact hr)
    exact this
  ·have e : at_ = acc.length := by omega
   subst e
   exact ref16_Pairs_j17_step _ _ _ _ _ ⟨fun h => by simp at h, fun _ => endc _ (Nat.le_refl _) (by simpa [insC] using hr)⟩
theorem rpairs_only (i : Nat) (hi : i < l.length) (acc : List (GValue × GValue)) (hacc : acc.length <= i) (hoa : ∀ x ∈ acc, OkP N x) (r : List (GValue × GValue)) : ∀ (d j : Nat) (o : Bool), l.length - j <= d -> j <= l.length -> ref16_Pairs_j11 ((i + 1 : Nat) : Int) (if (o && lone (kc N) l[i] (l.drop j)) = true then insC (kc N) l[i] acc else acc) l r -> ref16_Pairs_j15 j o i acc l r := by
 have e1 : wI ((i : Int) + 1) = ((i + 1 : Nat) : Int) := by rw [wI, wrapI (by omega)]; omega
 have fin : ∀ (o : Bool), ref16_Pairs_j11 ((i + 1 : Nat) : Int) (if (o && lone (kc N) l[i] (l.drop l.length)) = true then insC (kc N) l[i] acc else acc) l r -> ref16_Pairs_j15 (l.length : Nat) o i acc l r := by
  intro o hr
  refine ref16_Pairs_j15_step _ _ _ _ _ _ ⟨fun h => by simp at h, fun _ => ⟨fun h => ?_, fun h => ?_⟩⟩
  ·subst h
   have hr' : ref16_Pairs_j11 ((i + 1 : Nat) : Int) (insC (kc N) l[i] acc) l r := by simpa [lone] using hr
   have := rpairs_at hl hok i hi acc hacc hoa r acc.length 0 (by omega) (by omega) (by simpa using hr')
   simpa using this
  ·subst h
   rw [e1]
   simpa using hr
 intro d
 induction d with
 | zero =>
  intro j o hd hj hr
  have e : j = l.length := by omega
  subst e
  exact fin o hr
 | succ d ih =>
  intro j o hd hj hr
  rcases Nat.lt_or_ge j l.length with hlt | hge
  ·have e2 : wI ((j : Int) + 1) = ((j + 1 : Nat) : Int) := by rw [wI, wrapI (by omega)]; omega
   have dl : l.drop j = l[j] :: l.drop (j + 1) := List.drop_eq_getElem_cons hlt
   have o1 := hok _ (List.getElem_mem hi)
   have o2 := hok _ (List.getElem_mem hlt)
   rw [dl] at hr
   refine ref16_Pairs_j15_step _ _ _ _ _ _ ⟨fun _ => ⟨fun h => ?_, fun h => ?_⟩, fun h => by simp at h; omega⟩
   ·subst h
    refine ⟨l[i], by simp, by omega, l[j], by simp, by omega, _, rcmp_is N _ _ o1.1 o2.1 o1.2, ?_⟩
    rw [e2]
    refine ih (j + 1) _ (by omega) (by omega) ?_
    rw [Bool.true_and, show lone (kc N) l[i] (l[j] :: l.drop (j + 1)) = ((kc N l[i] l[j] != 0) && lone (kc N) l[i] (l.drop (j + 1))) from rfl] at hr
    exact hr
   ·subst h
    rw [e2]
    exact ih (j + 1) _ (by omega) (by omega) (by simpa using hr)
  ·have e : j = l.length := by omega
   subst e
   exact fin o hr
theorem rpairs_loop : ∀ (d i : Nat) (acc : List (GValue × GValue)), l.length - i <= d -> i <= l.length -> acc.length <= i -> (∀ x ∈ acc, OkP N x) -> ref16_Pairs_j11 i acc l (keyed (kc N) acc (l.drop i)) := by
 intro d
 induction d with
 | zero =>
  intro i acc hd hi ha hoa
  have e : i = l.length := by omega
  subst e
  exact ref16_Pairs_j11_step _ _ _ _ ⟨fun h => by simp at h, fun _ => by simp [keyed]⟩
 | succ d ih =>
  intro i acc hd hi ha hoa
  rcases Nat.lt_or_ge i l.length with hlt | hge
  ·have e1 : wI ((i : Int) + 1) = ((i + 1 : Nat) : Int) := by rw [wI, wrapI (by omega)]; omega
   have dl : l.drop i = l[i] :: l.drop (i + 1) := List.drop_eq_getElem_cons hlt
   have mem_ins : ∀ (x : GValue × GValue) (m : List (GValue × GValue)), ∀ y ∈ insC (kc N) x m, y = x ∨ y ∈ m := by
    intro x m
    induction m with
    | nil => intro y hy; simp [insC] at hy; exact .inl hy
    | cons z m ihm =>
     intro y hy
     simp only [insC] at hy
     split at hy
     ·rcases List.mem_cons.1 hy with h | h
      ·exact .inr (by rw [h]; simp)
      ·rcases ihm y h with h | h
       ·exact .inl h
       ·exact .inr (by simp [h])
     ·rcases List.mem_cons.1 hy with h | h
      ·exact .inl h
      ·exact .inr h
   refine ref16_Pairs_j11_step _ _ _ _ ⟨fun _ => ?_, fun h => by simp at h; omega⟩
   rw [e1]
   refine rpairs_only hl hok i hlt acc ha hoa _ l.length (i + 1) true (by omega) (by omega) ?_
   rw [dl]
   simp only [keyed, Bool.true_and]
   refine ih (i + 1) _ (by omega) (by omega) ?_ ?_
   ·split
    ·rw [insC_len]; omega
    ·omega
   ·intro y hy
    split at hy
    ·rcases mem_ins _ _ y hy with h | h
     ·rw [h]; exact hok _ (List.getElem_mem hlt)
     ·exact hoa y h
    ·exact hoa y hy
  ·have e : i = l.length := by omega
   subst e
   exact ref16_Pairs_j11_step _ _ _ _ ⟨fun h => by simp at h, fun _ => by simp [keyed]⟩
theorem rpairs_is : ref16_Pairs l (keyedR (kc N) l) := by
 have h := rpairs_loop hl hok l.length 0 [] (by omega) (by omega) (by simp) (fun x hx => by cases hx)
 rw [List.drop_zero, keyed_eq (tp_on (tp_V N) fun x : GValue × GValue => x.1), keyedA_R] at h
 exact ref16_Pairs_step _ _ h
end
section
variable {α : Type} {c : α -> α -> Int}
theorem lastsC_mem : ∀ (l : List α), ∀ x ∈ lastsC c l, x ∈ l
 | [], x, h => h
 | [y], x, h => h
 | y :: z :: l, x, h => by
  simp only [lastsC] at h
  split at h
  ·exact List.mem_cons_of_mem _ (lastsC_mem (z :: l) x h)
  ·rcases List.mem_cons.1 h with h | h
   ·rw [h]; simp
   ·exact List.mem_cons_of_mem _ (lastsC_mem (z :: l) x h)
theorem insC_front {x : α} : ∀ {l : List α}, (∀ w ∈ l, ¬ c w x < 0) -> insC c x l = x :: l
 | [], _ => rfl
 | y :: l, h => by simp only [insC]; rw [if_neg (h y (by simp))]
theorem lasts_ins (h : Tp c) (x : α) : ∀ (S : List α), S.Pairwise (fun a b => c a b <= 0) -> lastsC c (insC c x S) = if lone c x S = true then insC c x (lastsC c S) else lastsC c S
 | [], _ => rfl
 | y :: l, hs => by
  obtain ⟨hy, hl⟩ := List.pairwise_cons.1 hs
  have ih := lasts_ins h x l hl
  have s1 := h.s x y
  have s2 := h.s y x
  by_cases e : c y x < 0
  ·have eI : insC c x (y :: l) = y :: insC c x l := by simp only [insC]; rw [if_pos e]
   have eL : lone c x (y :: l) = lone c x l := by
    have : c x y ≠ 0 := by omega
    simp [lone, this]
   rw [eI, eL]
   cases l with
   | nil =>
    have : ¬ c y x = 0 := by omega
    simp [insC, lastsC, lone, this, e]
   | cons z l =>
    have s3 := h.s z x
    have s4 := h.s x z
    have s5 := h.s y z
    have s6 := h.s z y
    have t1 := h.t x z y
    by_cases e2 : c z x < 0
    ·have e3 : insC c x (z :: l) = z :: insC c x l := by simp only [insC]; rw [if_pos e2]
     rw [e3] at ih ⊢
     simp only [lastsC] at ih ⊢
     rw [ih]
     by_cases e4 : c y z = 0
     ·rw [if_pos e4, if_pos e4]
     ·rw [if_neg e4, if_neg e4]
      by_cases e5 : lone c x (z :: l) = true
      ·rw [if_pos e5, if_pos e5]; simp only [insC]; rw [if_pos e]
      ·rw [if_neg e5, if_neg e5]
    ·have e3 : insC c x (z :: l) = x :: z :: l := by simp only [insC]; rw [if_neg e2]
     rw [e3] at ih ⊢
     have e4 : ¬ c y x = 0 := by omega
     have e5 : ¬ c y z = 0 := by
      intro e6
      have := t1 (by omega) (by omega)
      omega
     have e7 : lastsC c (y :: x :: z :: l) = y :: lastsC c (x :: z :: l) := by
      rw [lastsC, if_neg e4]
     have e8 : lastsC c (y :: z :: l) = y :: lastsC c (z :: l) := by
      rw [lastsC, if_neg e5]
     rw [e7, e8, ih]
     by_cases e9 : lone c x (z :: l) = true
     ·rw [if_pos e9, if_pos e9]; simp only [insC]; rw [if_pos e]
     ·rw [if_neg e9, if_neg e9]
  ·have eI : insC c x (y :: l) = x :: y :: l := by simp only [insC]; rw [if_neg e]
   rw [eI]
   by_cases e0 : c x y = 0
   ·have : lone c x (y :: l) = false := by simp [lone, e0]
    rw [lastsC, if_pos e0, this]
    simp
   ·have hlt : c x y < 0 := by omega
    have hz : ∀ z ∈ y :: l, c x z < 0 := by
     intro z hz
     rcases List.mem_cons.1 hz with hz | hz
     ·rw [hz]; exact hlt
     ·have q1 := hy z hz
      have s3 := h.s z x
      have s4 := h.s x z
      have t1 := h.t x y z (by omega) q1
      have t2 := h.t y z x q1
      omega
    have e1 : lone c x (y :: l) = true := by
     rw [lone, List.all_eq_true]
     intro z h2
     have := hz z h2
     simp; omega
    rw [lastsC, if_neg e0, if_pos e1, insC_front]
    intro w hw
    have := hz w (lastsC_mem _ w hw)
    have := h.s x w
    omega
def sC (c : α -> α -> Int) : List α -> List α
 | [] => []
 | x :: l => insC c x (sC c l)
theorem insC_perm (x : α) : ∀ l, (insC c x l).Perm (x :: l)
 | [] => .refl _
 | y :: l => by
  simp only [insC]
  split
  ·exact ((insC_perm x l).cons y).trans (.swap x y l)
  ·exact .refl _
theorem sC_perm : ∀ l : List α, (sC c l).Perm l
 | [] => .refl _
 | x :: l => (insC_perm x _).trans ((sC_perm l).cons x)
theorem sC_sorted (h : Tp c) : ∀ l : List α, (sC c l).Pairwise (fun a b => c a b <= 0)
 | [] => .nil
 | x :: l => by
  have key : ∀ S : List α, S.Pairwise (fun a b => c a b <= 0) -> (insC c x S).Pairwise (fun a b => c a b <= 0) := by
   intro S
   induction S with
   | nil => intro _; simp [insC]
   | cons y S ih =>
    intro hs
    obtain ⟨hy, hS⟩ := List.pairwise_cons.1 hs
    simp only [insC]
    split
    ·rename_i e
     refine List.pairwise_cons.2 ⟨fun z hz => ?_, ih hS⟩
     rcases List.mem_cons.1 ((insC_perm x S).mem_iff.1 hz) with h2 | h2
     ·rw [h2]; omega
     ·exact hy z h2
    ·rename_i e
     have s1 := h.s y x
     have s2 := h.s x y
     have e2 : c x y <= 0 := by omega
     refine List.pairwise_cons.2 ⟨fun z hz => ?_, hs⟩
     rcases List.mem_cons.1 hz with h2 | h2
     ·rw [h2]; exact e2
     ·exact h.t x y z e2 (hy z h2)
  exact key _ (sC_sorted h l)
theorem lone_perm {x : α} {l m : List α} (hp : l.Perm m) : lone c x l = lone c x m := by
 unfold lone
 rw [Bool.eq_iff_iff, List.all_eq_true, List.all_eq_true]
 exact ⟨fun h y hy => h y (hp.mem_iff.2 hy), fun h y hy => h y (hp.mem_iff.1 hy)⟩
theorem lasts_keyed (h : Tp c) : ∀ l : List α, lastsC c (sC c l) = keyedR c l
 | [] => rfl
 | x :: l => by
  rw [sC, lasts_ins h x _ (sC_sorted h l), lasts_keyed h l, lone_perm (sC_perm l)]
  rfl
def insT (c : α -> α -> Int) (x : α × Nat) : List (α × Nat) -> List (α × Nat)
 | [] => [x]
 | y :: l => if c y.1 x.1 < 0 then y :: insT c x l else x :: y :: l
theorem insT_fs (x : α × Nat) : ∀ l, fs (insT c x l) = insC c x.1 (fs l)
 | [] => rfl
 | y :: l => by
  simp only [insT, List.map_cons, insC]
  split
  ·show y.1 :: fs (insT c x l) = _
   rw [insT_fs x l]
  ·rfl
theorem insT_perm (x : α × Nat) : ∀ l, (insT c x l).Perm (x :: l)
 | [] => .refl _
 | y :: l => by
  simp only [insT]
  split
  ·exact ((insT_perm x l).cons y).trans (.swap x y l)
  ·exact .refl _
theorem insT_srt (h : Tp c) (x : α × Nat) : ∀ l : List (α × Nat), (∀ y ∈ l, x.2 < y.2) -> Srt c l -> Srt c (insT c x l)
 | [], _, _ => by simp [insT, Srt]
 | y :: l, hx, hs => by
  obtain ⟨hy, hl⟩ := List.pairwise_cons.1 hs
  simp only [insT]
  split
  ·rename_i e
   refine List.pairwise_cons.2 ⟨fun z hz => ?_, insT_srt h x l (fun y hy => hx y (by simp [hy])) hl⟩
   rcases List.mem_cons.1 ((insT_perm x l).mem_iff.1 hz) with h2 | h2
   ·rw [h2]; exact .inl e
   ·exact hy z h2
  ·rename_i e
   have s1 := h.s y.1 x.1
   have s2 := h.s x.1 y.1
   have e2 : c x.1 y.1 <= 0 := by omega
   refine List.pairwise_cons.2 ⟨fun z hz => ?_, hs⟩
   have hxz := hx z hz
   have : c x.1 z.1 <= 0 := by
    rcases List.mem_cons.1 hz with h2 | h2
    ·rw [h2]; exact e2
    ·have := hy z h2
     unfold Rt at this
     exact h.t x.1 y.1 z.1 e2 (by omega)
   unfold Rt
   omega
theorem stably_sC (h : Tp c) : ∀ l : List α, ∃ T, Srt c T /\ T.Perm (places l) /\ fs T = sC c l
 | [] => ⟨[], .nil, by simp [places], rfl⟩
 | x :: l => by
  obtain ⟨T, h1, h2, h3⟩ := stably_sC h l
  have e1 : fs (T.map fun p => (p.1, p.2 + 1)) = fs T := by simp [fs]
  refine ⟨insT c (x, 0) (T.map fun p => (p.1, p.2 + 1)), insT_srt h _ _ (fun y hy => ?_) ?_, (insT_perm _ _).trans ?_, ?_⟩
  ·obtain ⟨p, _, rfl⟩ := List.mem_map.1 hy
   exact Nat.succ_pos _
  ·show List.Pairwise _ _
   rw [List.pairwise_map]
   exact h1.imp fun {a b} hab => by
    unfold Rt at hab ⊢
    simp only
    omega
  ·have e2 : places (x :: l) = (x, 0) :: (places l).map fun p => (p.1, p.2 + 1) := by
    simp [places, List.zipIdx_succ]
   rw [e2]
   exact (h2.map _).cons _
  ·rw [insT_fs, e1, h3]
   rfl
end
theorem pairs_both (N : Nat) (l : List (GValue × GValue)) (hl : l.length * 256 <= 140737488355328) (hok : ∀ x ∈ l, OkP N x) : order_Pairs l (keyedR (kc N) l) /\ ref16_Pairs l (keyedR (kc N) l) := by
 refine ⟨?_, rpairs_is hl hok⟩
 have h : Tp (kc N) := tp_on (tp_V N) fun x : GValue × GValue => x.1
 obtain ⟨S, h1, h2⟩ := pairs_is N l hl hok
 obtain ⟨T, q1, q2, q3⟩ := stably_sC h l
 have e : S = sC (kc N) l := by
  rw [← q3]
  exact Stably.one (Dm := fun _ => True) h (fun _ _ => trivial) h1 ⟨T, q1, q2, rfl⟩
 rw [e, lasts_keyed h] at h2
 exact h2
section
variable {α : Type} {c : α -> α -> Int}
theorem insC_mem {x y : α} {l : List α} : y ∈ insC c x l ↔ y = x ∨ y ∈ l := by
 rw [(insC_perm x l).mem_iff]; simp
theorem keyedR_sub : ∀ (l : List α), ∀ y ∈ keyedR c l, y ∈ l
 | [], y, h => h
 | x :: l, y, h => by
  simp only [keyedR] at h
  split at h
  ·rcases insC_mem.1 h with h | h
   ·simp [h]
   ·exact List.mem_cons_of_mem _ (keyedR_sub l y h)
  ·exact List.mem_cons_of_mem _ (keyedR_sub l y h)
theorem keyedR_len : ∀ (l : List α), (keyedR c l).length <= l.length
 | [] => by simp [keyedR]
 | x :: l => by
  have := keyedR_len l
  simp only [keyedR]
  split
  ·rw [insC_len]; simp; omega
  ·simp; omega
end
abbrev kn (x y : Int × GValue) : Int := cmpI x.1 y.1
theorem tp_kn : Tp kn := tp_on tp_I fun x : Int × GValue => x.1
theorem lasts_C : ∀ l : List (Int × GValue), lasts l = lastsC kn l
 | [] => rfl
 | [x] => rfl
 | x :: y :: l => by
  simp only [lasts, lastsC]
  rw [lasts_C (y :: l)]
  have h := cmpI_ne (x := x.1) (y := y.1)
  by_cases e : x.1 = y.1
  ·rw [if_pos e, if_pos (by simp only [kn]; omega)]
  ·rw [if_neg e, if_neg (by simp only [kn]; omega)]
theorem slots_key (l : List (Int × GValue)) (hl : l.length * 136 <= 140737488355328) : order_Slots l (keyedR kn l) := by
 obtain ⟨S, h1, h2⟩ := slots_is l hl
 obtain ⟨T, q1, q2, q3⟩ := stably_sC tp_kn l
 have e : S = sC kn l := by
  rw [← q3]
  exact Stably.one (Dm := fun _ => True) tp_kn (fun _ _ => trivial) h1 ⟨T, q1, q2, rfl⟩
 rw [e, lasts_C, lasts_keyed tp_kn] at h2
 exact h2
theorem cmpI_neg {x y : Int} : cmpI x y < 0 ↔ x < y := by
 rcases cmpI_cases x y with h | h | h <;> rw [h.2] <;> omega
theorem ne_kn (x y : Int × GValue) : (x.1 != y.1) = (kn x y != 0) := by
 have h := cmpI_ne (x := x.1) (y := y.1)
 rw [Bool.eq_iff_iff, bne_iff_ne, bne_iff_ne]
 exact h.symm
section
variable {l : List (Int × GValue)} (hl : l.length * 136 <= 140737488355328)
 include hl
theorem rslots_at (i : Nat) (hi : i < l.length) (acc : List (Int × GValue)) (hacc : acc.length <= i) (r : List (Int × GValue)) : ∀ (d at_ : Nat), acc.length - at_ <= d -> at_ <= acc.length -> ref16_Slots_j11 ((i + 1 : Nat) : Int) (acc.take at_ ++ insC kn l[i] (acc.drop at_)) l r -> ref16_Slots_j17 at_ i acc l r := by
 have e1 : wI ((i : Int) + 1) = ((i + 1 : Nat) : Int) := by rw [wI, wrapI (by omega)]; omega
 have endc : ∀ at_ : Nat, at_ <= acc.length -> ref16_Slots_j11 ((i + 1 : Nat) : Int) (acc.take at_ ++ l[i] :: acc.drop at_) l r -> ∃ y59, l[(i : Int).toNat]? = some y59 /\ 0 <= (i : Int) /\ ((0 <= (at_ : Int) /\ (at_ : Int) <= (acc.length : Int) /\ (acc.length : Int) <= (acc.length : Int)) /\ (([y59].length + ((acc.take (acc.length : Int).toNat).drop (at_ : Int).toNat).length) * 136 <= 140737488355328 /\ ((0 <= (0 : Int) /\ (0 : Int) <= (at_ : Int) /\ (at_ : Int) <= (acc.length : Int)) /\ ((([] : List (Int × GValue)).length + ((acc.take (at_ : Int).toNat).drop (0 : Int).toNat).length) * 136 <= 140737488355328 /\ (((([] : List (Int × GValue)) ++ ((acc.take (at_ : Int).toNat).drop (0 : Int).toNat)).length + ([y59] ++ ((acc.take (acc.length : Int).toNat).drop (at_ : Int).toNat)).length) * 136 <= 140737488355328 /\ (ref16_Slots_j11 (wI ((i : Int) + 1)) ((([] : List (Int × GValue)) ++ ((acc.take (at_ : Int).toNat).drop (0 : Int).toNat)) ++ ([y59] ++ ((acc.take (acc.length : Int).toNat).drop (at_ : Int).toNat))) l r)))))) := by
  intro at_ ha hr
  refine ⟨l[i], by simp, by omega, ⟨by omega, by omega, by omega⟩, by simp; omega, ⟨by omega, by omega, by omega⟩, by simp; omega, by simp; omega, ?_⟩
  rw [e1]
  simpa using hr
 intro d
 induction d with
 | zero =>
  intro at_ hd ha hr
  have e : at_ = acc.length := by omega
  subst e
  exact ref16_Slots_j17_step _ _ _ _ _ ⟨fun h => by simp at h, fun _ => endc _ (Nat.le_refl _) (by simpa [insC] using hr)⟩
 | succ d ih =>
  intro at_ hd ha hr
  rcases Nat.lt_or_ge at_ acc.length with hlt | hge
  ·have e2 : wI ((at_ : Int) + 1) = ((at_ + 1 : Nat) : Int) := by rw [wI, wrapI (by omega)]; omega
   have da : acc.drop at_ = acc[at_] :: acc.drop (at_ + 1) := List.drop_eq_getElem_cons hlt
   rw [da] at hr
   simp only [insC] at hr
   refine ref16_Slots_j17_step _ _ _ _ _ ⟨fun _ => ⟨acc[at_], by simp, by omega, l[i], by simp, by omega, fun h => ?_, fun h => ?_⟩, fun h => by simp at h; omega⟩
   ·have h' : kn acc[at_] l[i] < 0 := cmpI_neg.2 (by simpa using h)
    rw [if_pos h'] at hr
    rw [e2]
    refine ih (at_ + 1) (by omega) (by omega) ?_
    rw [List.take_succ_eq_append_getElem hlt, List.append_assoc]
    exact hr
   ·have h' : ¬ kn acc[at_] l[i] < 0 := fun q => absurd (cmpI_neg.1 q) (by simpa using h)
    rw [if_neg h'] at hr
    have := endc at_ ha (by rw [da]; exact hr)
    exact this
  ·have e : at_ = acc.length := by omega
   subst e
   exact ref16_Slots_j17_step _ _ _ _ _ ⟨fun h => by simp at h, fun _ => endc _ (Nat.le_refl _) (by simpa [insC] using hr)⟩
theorem rslots_only (i : Nat) (hi : i < l.length) (acc : List (Int × GValue)) (hacc : acc.length <= i) (r : List (Int × GValue)) : ∀ (d j : Nat) (o : Bool), l.length - j <= d -> j <= l.length -> ref16_Slots_j11 ((i + 1 : Nat) : Int) (if (o && lone kn l[i] (l.drop j)) = true then insC kn l[i] acc else acc) l r -> ref16_Slots_j15 j o i acc l r := by
 have e1 : wI ((i : Int) + 1) = ((i + 1 : Nat) : Int) := by rw [wI, wrapI (by omega)]; omega
 have fin : ∀ (o : Bool), ref16_Slots_j11 ((i + 1 : Nat) : Int) (if (o && lone kn l[i] (l.drop l.length)) = true then insC kn l[i] acc else acc) l r -> ref16_Slots_j15 (l.length : Nat) o i acc l r := by
  intro o hr
  refine ref16_Slots_j15_step _ _ _ _ _ _ ⟨fun h => by simp at h, fun _ => ⟨fun h => ?_, fun h => ?_⟩⟩
  ·subst h
   have hr' : ref16_Slots_j11 ((i + 1 : Nat) : Int) (insC kn l[i] acc) l r := by simpa [lone] using hr
   have := rslots_at hl i hi acc hacc r acc.length 0 (by omega) (by omega) (by simpa using hr')
   simpa using this
  ·subst h
   rw [e1]
   simpa using hr
 intro d
 induction d with
 | zero =>
  intro j o hd hj hr
  have e : j = l.length := by omega
  subst e
  exact fin o hr
 | succ d ih =>
  intro j o hd hj hr
  rcases Nat.lt_or_ge j l.length with hlt | hge
  ·have e2 : wI ((j : Int) + 1) = ((j + 1 : Nat) : Int) := by rw [wI, wrapI (by omega)]; omega
   have dl : l.drop j = l[j] :: l.drop (j + 1) := List.drop_eq_getElem_cons hlt
   rw [dl] at hr
   refine ref16_Slots_j15_step _ _ _ _ _ _ ⟨fun _ => ⟨fun h => ?_, fun h => ?_⟩, fun h => by simp at h; omega⟩
   ·subst h
    refine ⟨l[i], by simp, by omega, l[j], by simp, by omega, ?_⟩
    rw [e2, ne_kn]
    refine ih (j + 1) _ (by omega) (by omega) ?_
    rw [Bool.true_and, show lone kn l[i] (l[j] :: l.drop (j + 1)) = ((kn l[i] l[j] != 0) && lone kn l[i] (l.drop (j + 1))) from rfl] at hr
    exact hr
   ·subst h
    rw [e2]
    exact ih (j + 1) _ (by omega) (by omega) (by simpa using hr)
  ·have e : j = l.length := by omega
   subst e
   exact fin o hr
theorem rslots_loop : ∀ (d i : Nat) (acc : List (Int × GValue)), l.length - i <= d -> i <= l.length -> acc.length <= i -> ref16_Slots_j11 i acc l (keyed kn acc (l.drop i)) := by
 intro d
 induction d with
 | zero =>
  intro i acc hd hi ha
  have e : i = l.length := by omega
  subst e
  exact ref16_Slots_j11_step _ _ _ _ ⟨fun h => by simp at h, fun _ => by simp [keyed]⟩
 | succ d ih =>
  intro i acc hd hi ha
  rcases Nat.lt_or_ge i l.length with hlt | hge
  ·have e1 : wI ((i : Int) + 1) = ((i + 1 : Nat) : Int) := by rw [wI, wrapI (by omega)]; omega
   have dl : l.drop i = l[i] :: l.drop (i + 1) := List.drop_eq_getElem_cons hlt
   refine ref16_Slots_j11_step _ _ _ _ ⟨fun _ => ?_, fun h => by simp at h; omega⟩
   rw [e1]
   refine rslots_only hl i hlt acc ha _ l.length (i + 1) true (by omega) (by omega) ?_
   rw [dl]
   simp only [keyed, Bool.true_and]
   refine ih (i + 1) _ (by omega) (by omega) ?_
   split
   ·rw [insC_len]; omega
   ·omega
  ·have e : i = l.length := by omega
   subst e
   exact ref16_Slots_j11_step _ _ _ _ ⟨fun h => by simp at h, fun _ => by simp [keyed]⟩
theorem rslots_is : ref16_Slots l (keyedR kn l) := by
 have h := rslots_loop hl l.length 0 [] (by omega) (by omega) (by simp)
 rw [List.drop_zero, keyed_eq tp_kn, keyedA_R] at h
 exact ref16_Slots_step _ _ h
end
theorem cmpV_refl (N : Nat) (v : GValue) : cmpVn N v v = 0 := by
 have := (tp_V N).s v v
 omega
theorem req_is (N : Nat) (a b : GValue) (ha : OkD a) (hb : OkD b) (hn : SizeOf.sizeOf a <= N) : ref16_Equal a b (cmpVn N a b == 0) :=
 ref16_Equal_step _ _ _ ⟨_, rcmp_is N a b ha hb hn, rfl⟩
theorem req_refl (a : GValue) (ha : OkD a) : ref16_Equal a a true := by
 have h := req_is (SizeOf.sizeOf a) a a ha ha (Nat.le_refl _)
 rw [cmpV_refl] at h
 exact h
section
variable {mg : Int} (hw : law16_awake mg true)
 include hw
theorem osorts_slots (q : List (Int × GValue)) (hq : ∀ x ∈ q, OkD x.2) (hl : q.length <= 140737488351232) : ∀ (d i : Nat), q.length - i <= d -> i <= q.length -> law16_OrderSorts_j6 i q q mg true := by
 intro d
 induction d with
 | zero => exact fun i hd hi => law16_OrderSorts_j6_step _ _ _ _ _ ⟨fun h => by simp at h; omega, fun _ => ⟨_, hw, rfl⟩⟩
 | succ d ih =>
  intro i hd hi
  rcases Nat.lt_or_ge i q.length with hlt | hge
  ·have e1 : wI ((i : Int) + 1) = ((i + 1 : Nat) : Int) := by rw [wI, wrapI (by omega)]; omega
   refine law16_OrderSorts_j6_step _ _ _ _ _ ⟨fun _ => ⟨q[i], by simp, by omega, q[i], by simp, by omega, fun h => by simp at h, fun _ => ⟨q[i], by simp, by omega, q[i], by simp, by omega, _, req_refl _ (hq _ (List.getElem_mem _)), fun h => by simp at h, fun _ => ?_⟩⟩, fun h => by simp at h; omega⟩
   rw [e1]
   exact ih (i + 1) (by omega) (by omega)
  ·exact law16_OrderSorts_j6_step _ _ _ _ _ ⟨fun h => by simp at h; omega, fun _ => ⟨_, hw, rfl⟩⟩
theorem osorts_pairs (q : List (Int × GValue)) (hq : ∀ x ∈ q, OkD x.2) (hl : q.length <= 140737488351232) (p : List (GValue × GValue)) (hp : ∀ x ∈ p, OkD x.1 /\ OkD x.2) (hl2 : p.length <= 140737488351232) : ∀ (d i : Nat), p.length - i <= d -> i <= p.length -> law16_OrderSorts_j4 i q q p p mg true := by
 intro d
 induction d with
 | zero => exact fun i hd hi => law16_OrderSorts_j4_step _ _ _ _ _ _ _ ⟨fun h => by simp at h; omega, fun _ => osorts_slots hw q hq hl _ 0 (Nat.le_refl _) (by omega)⟩
 | succ d ih =>
  intro i hd hi
  rcases Nat.lt_or_ge i p.length with hlt | hge
  ·have e1 : wI ((i : Int) + 1) = ((i + 1 : Nat) : Int) := by rw [wI, wrapI (by omega)]; omega
   have o := hp _ (List.getElem_mem hlt)
   refine law16_OrderSorts_j4_step _ _ _ _ _ _ _ ⟨fun _ => ⟨p[i], by simp, by omega, p[i], by simp, by omega, _, req_refl _ o.1, fun h => by simp at h, fun _ => ⟨p[i], by simp, by omega, p[i], by simp, by omega, _, req_refl _ o.2, fun h => by simp at h, fun _ => ?_⟩⟩, fun h => by simp at h; omega⟩
   rw [e1]
   exact ih (i + 1) (by omega) (by omega)
  ·exact law16_OrderSorts_j4_step _ _ _ _ _ _ _ ⟨fun h => by simp at h; omega, fun _ => osorts_slots hw q hq hl _ 0 (Nat.le_refl _) (by omega)⟩
theorem sizes (l : List (GValue × GValue)) : ∃ N, ∀ x ∈ l, SizeOf.sizeOf x.1 <= N /\ SizeOf.sizeOf x.2 <= N := by
 refine ⟨SizeOf.sizeOf l, fun x hx => ?_⟩
 have := List.sizeOf_lt_of_mem hx
 cases x
 simp at this ⊢
 omega
theorem osorts_true (l : List (GValue × GValue)) (m : List (Int × GValue)) (hl : Sz l.length /\ Sz (l.length * 256)) (hm : Sz m.length /\ Sz (m.length * 136)) (ol : ∀ x ∈ l, OkD x.1 /\ OkD x.2) (om : ∀ x ∈ m, I64 x.1 /\ OkD x.2) : law16_OrderSorts mg l m true := by
 obtain ⟨N, hN⟩ := sizes hw l
 have h1 := pairs_both N l (by have := hl.2; unfold Sz at this; omega) (fun x hx => ⟨(ol x hx).1, (hN x hx).1⟩)
 have h2 := slots_key m (by have := hm.2; unfold Sz at this; omega)
 have h3 := rslots_is (l := m) (by have := hm.2; unfold Sz at this; omega)
 refine law16_OrderSorts_step _ _ _ _ ⟨fun _ => rfl, fun _ => ⟨_, h1.1, _, h1.2, _, h2, _, h3, fun h => by simp at h, fun _ => ?_⟩⟩
 have z1 := keyedR_len (c := kc N) l
 have z2 := keyedR_len (c := kn) m
 exact osorts_pairs hw _ (fun x hx => (om x (keyedR_sub _ _ hx)).2) (by have := hm.1; unfold Sz at this; omega) _ (fun x hx => ol x (keyedR_sub _ _ hx)) (by have := hl.1; unfold Sz at this; omega) _ 0 (Nat.le_refl _) (by omega)
end
section
variable {mg : Int} (hw : law16_awake mg true) {N : Nat} {l : List (GValue × GValue)} (hl : l.length <= 40) (hok : ∀ x ∈ l, OkD x.1 /\ OkD x.2 /\ SizeOf.sizeOf x.1 <= N)
 include hl hok
 include hw
end
def tblO : Tbl := [(6, (62, k6_18, [.tmp 4])), (17, (33, k17_11, [.tmp 2])), (34, (9, k34_2, [.tmp 2])), (19, (39, k19_17, [.tmp 6])), (18, (62, k18_8, [.tmp 4])), (35, (9, k35_2, [.tmp 2])), (16, (20, k16_19, [.tmp 4])), (33, (6, k33_2, [.tmp 2])), (45, (39, k45_5, [.tmp 4])), (60, (28, k60_8, [.tmp 2])), (61, (28, k61_19, [.tmp 4])), (62, (6, k62_2, [.tmp 2])), (70, (16, k70_9, [.tmp 2])), (79, (16, k79_2, [.tmp 6]))]
theorem tblO_ok : TblOK Tryd.prog tblO := (tok_cons fn6 (tok_cons fn17 (tok_cons fn34 (tok_cons fn19 (tok_cons fn18 (tok_cons fn35 (tok_cons fn16 (tok_cons fn33 (tok_cons fn45 (tok_cons fn60 (tok_cons fn61 (tok_cons fn62 (tok_cons fn70 (tok_cons fn79 tok_nil))))))))))))))
section
open Go.Shelf
def Tryd.lays155_ren : Go.Shelf.Ren := ⟨fun | 155 => 46 | 154 => 63 | 138 => 71 | 165 => 72 | 143 => 73 | 166 => 74 | 197 => 75 | 169 => 76 | 195 => 80 | 218 => 81 | 240 => 82 | 241 => 83 | 219 => 84 | 260 => 85 | 276 => 88 | 277 => 89 | 217 => 90 | 225 => 91 | 224 => 92 | 267 => 93 | 266 => 95 | 314 => 96 | n => n, fun | 9 => 9 | 3 => 3 | 4 => 4 | 72 => 92 | 0 => 0 | 76 => 96 | 105 => 98 | 21 => 21 | 5 => 5 | 70 => 90 | 20 => 20 | 37 => 72 | 75 => 95 | 127 => 103 | 164 => 105 | 46 => 88 | 119 => 109 | 139 => 112 | 138 => 111 | 146 => 114 | 51 => 113 | 80 => 100 | n => n, fun | 1 => 0 | 3 => 1 | 4 => 2 | n => n⟩
theorem Tryd.lays155 : Go.Proofs.Lays.n155 Tryd.prog Tryd.lays155_ren := {
 mixed := by kernel_rfl
 f138 := Tryd.func71.trans (congrArg some (by kernel_rfl))
 f143 := Tryd.func73.trans (congrArg some (by kernel_rfl))
 f154 := Tryd.func63.trans (congrArg some (by kernel_rfl))
 f155 := Tryd.func46.trans (congrArg some (by kernel_rfl))
 f165 := Tryd.func72.trans (congrArg some (by kernel_rfl))
 f166 := Tryd.func74.trans (congrArg some (by kernel_rfl))
 f169 := Tryd.func76.trans (congrArg some (by kernel_rfl))
 f195 := Tryd.func80.trans (congrArg some (by kernel_rfl))
 f197 := Tryd.func75.trans (congrArg some (by kernel_rfl))
 f217 := Tryd.func90.trans (congrArg some (by kernel_rfl))
 f218 := Tryd.func81.trans (congrArg some (by kernel_rfl))
 f219 := Tryd.func84.trans (congrArg some (by kernel_rfl))
 f224 := Tryd.func92.trans (congrArg some (by kernel_rfl))
 f225 := Tryd.func91.trans (congrArg some (by kernel_rfl))
 f240 := Tryd.func82.trans (congrArg some (by kernel_rfl))
 f241 := Tryd.func83.trans (congrArg some (by kernel_rfl))
 f260 := Tryd.func85.trans (congrArg some (by kernel_rfl))
 f266 := Tryd.func95.trans (congrArg some (by kernel_rfl))
 f267 := Tryd.func93.trans (congrArg some (by kernel_rfl))
 f276 := Tryd.func88.trans (congrArg some (by kernel_rfl))
 f277 := Tryd.func89.trans (congrArg some (by kernel_rfl))
 f314 := Tryd.func96.trans (congrArg some (by kernel_rfl))
 t0 := Tryd.underlying0
 a0 := Tryd.isAgg0
 z0 := Tryd.sizeOf0
 v0 := Tryd.zeroValue0
 t3 := Tryd.underlying3
 a3 := Tryd.isAgg3
 z3 := Tryd.sizeOf3
 v3 := Tryd.zeroValue3
 t4 := Tryd.underlying4
 a4 := Tryd.isAgg4
 z4 := Tryd.sizeOf4
 v4 := Tryd.zeroValue4
 t5 := Tryd.underlying5
 a5 := Tryd.isAgg5
 z5 := Tryd.sizeOf5
 v5 := Tryd.zeroValue5
 t9 := Tryd.underlying9
 a9 := Tryd.isAgg9
 z9 := Tryd.sizeOf9
 v9 := Tryd.zeroValue9
 t20 := Tryd.underlying20
 a20 := Tryd.isAgg20
 z20 := Tryd.sizeOf20
 v20 := Tryd.zeroValue20
 t21 := Tryd.underlying21
 a21 := Tryd.isAgg21
 z21 := Tryd.sizeOf21
 v21 := Tryd.zeroValue21
 t37 := Tryd.underlying72
 a37 := Tryd.isAgg72
 z37 := Tryd.sizeOf72
 v37 := Tryd.zeroValue72
 t46 := Tryd.underlying88
 a46 := Tryd.isAgg88
 z46 := Tryd.sizeOf88
 v46 := Tryd.zeroValue88
 t51 := Tryd.underlying113
 a51 := Tryd.isAgg113
 z51 := Tryd.sizeOf113
 v51 := Tryd.zeroValue113
 t70 := Tryd.underlying90
 a70 := Tryd.isAgg90
 z70 := Tryd.sizeOf90
 v70 := Tryd.zeroValue90
 t72 := Tryd.underlying92
 a72 := Tryd.isAgg92
 z72 := Tryd.sizeOf92
 v72 := Tryd.zeroValue92
 t75 := Tryd.underlying95
 a75 := Tryd.isAgg95
 z75 := Tryd.sizeOf95
 v75 := Tryd.zeroValue95
 t76 := Tryd.underlying96
 a76 := Tryd.isAgg96
 z76 := Tryd.sizeOf96
 v76 := Tryd.zeroValue96
 t105 := Tryd.underlying98
 a105 := Tryd.isAgg98
 z105 := Tryd.sizeOf98
 v105 := Tryd.zeroValue98
 t119 := Tryd.underlying109
 a119 := Tryd.isAgg109
 z119 := Tryd.sizeOf109
 t127 := Tryd.underlying103
 a127 := Tryd.isAgg103
 z127 := Tryd.sizeOf103
 v127 := Tryd.zeroValue103
 t138 := Tryd.underlying111
 a138 := Tryd.isAgg111
 z138 := Tryd.sizeOf111
 v138 := Tryd.zeroValue111
 t139 := Tryd.underlying112
 a139 := Tryd.isAgg112
 z139 := Tryd.sizeOf112
 v139 := Tryd.zeroValue112
 t146 := Tryd.underlying114
 a146 := Tryd.isAgg114
 z146 := Tryd.sizeOf114
 v146 := Tryd.zeroValue114
 t164 := Tryd.underlying105
 a164 := Tryd.isAgg105
 z164 := Tryd.sizeOf105
 v164 := Tryd.zeroValue105
 g1 := by kernel_rfl
 g3 := by kernel_rfl
 g4 := by kernel_rfl }
theorem Tryd.Builder_Extra_155 : Builder.Extra Tryd.prog Tryd.lays155_ren := {
 sizeBuilder := by kernel_rfl
 liesBuilder := by kernel_rfl
 t5 := Tryd.underlying5
 a5 := Tryd.isAgg5
 z5 := Tryd.sizeOf5
 v5 := Tryd.zeroValue5
 infoByte := by kernel_rfl
 cellsByte := by kernel_rfl
 sizeByte := by kernel_rfl
 neB5 := by decide }
open Go.RowKit Go.Lib in
/-- strings.ReplaceAll: "ReplaceAll returns a copy of the string s with all non-overlapping instances of old replaced by new.": AT AN old THAT IS NOT EMPTY: 'Lib.replaceAll s old new'. (LAID: no walk: one application.) -/
theorem Tryd.strings_ReplaceAll (s old new : ByteArray) (m : Int) (w : World) (hs : s.size < 4294967281) (hm : w.cell? ⟨0, 0, none⟩ = some (.int .i64 m)) (h1 : 1 <= old.size) (hlen : s.size + Lib.countB s old * new.size <= 140737488355328) :
  Calls Tryd.prog 46 #[.string s, .string old, .string new] w fun e w' =>
   e = .returned (.string ⟨(Lib.replaceAll s.data.toList old.data.toList new.data.toList).toArray⟩) /\ Below w.heap.size w w' := Any.strings_ReplaceAll Tryd.lays155 Tryd.Builder_Extra_155 s old new m w hs hm h1 hlen
end
theorem elt_inv {σ : Sg} {cells : List AV} {off : Nat} {v : Value} (h : Rel σ (.elt cells off) v) : ∃ (b o : Nat) (xs : Nat -> Value), v = .pointer (some ⟨b, o + off, none⟩) /\ ∀ (i : Nat) (av : AV), cells[i]? = some av -> σ.w.cell? ⟨b, o + i, none⟩ = some (xs i) /\ Rel σ av (xs i) := by
 cases h with
 | elt _ _ b o xs hc hr => exact ⟨b, o, xs, rfl, fun i av hi => ⟨(hc i av hi).1, hr i av hi⟩⟩
theorem rel_v {σ : Sg} {x v : Value} (h : Rel σ (.v x) v) : v = x := by
 cases h; rfl
theorem globs_cell {w : World} {outer : Nat -> Nat -> Prop} {m : Int} (h : Globs w outer (GLm m)) : w.cell? ⟨0, 0, none⟩ = some (.int .i64 m) := by
 obtain ⟨b, o, xs, hv, hc⟩ := elt_inv (h 0 [.v (.int .i64 m)] (List.mem_singleton.2 rfl))
 obtain ⟨h1, h2⟩ := hc 0 _ rfl
 rw [rel_v h2] at h1
 injection hv with hv
 injection hv with hv
 injection hv with h3 h4
 have h5 : o = 0 := by omega
 subst h5
 rw [← h3] at h1
 exact h1
theorem esc_is (m : Int) : strings_ReplaceAll m ⟨#[97, 0]⟩ ⟨#[0]⟩ ⟨#[0, 255]⟩ ⟨#[97, 0, 255]⟩ := by
 refine ⟨⟨_, Tryd.func46, by kernel_rfl, by kernel_rfl⟩, fun w outer cargs ho hg hr => ?_⟩
 obtain ⟨hl, hx⟩ := hr
 obtain ⟨x0, h0, r0⟩ := hx 0 _ rfl
 obtain ⟨x1, h1, r1⟩ := hx 1 _ rfl
 obtain ⟨x2, h2, r2⟩ := hx 2 _ rfl
 have e0 := rel_v r0
 have e1 := rel_v r1
 have e2 := rel_v r2
 subst e0 e1 e2
 obtain rfl : cargs = #[.string ⟨#[97, 0]⟩, .string ⟨#[0]⟩, .string ⟨#[0, 255]⟩] := by
  apply Array.ext'
  match hc : cargs.toList, hl, h0, h1, h2 with
  | [a, b, c], _, h0, h1, h2 => simp at h0 h1 h2; simp [h0, h1, h2]
 have h := Tryd.strings_ReplaceAll ⟨#[97, 0]⟩ ⟨#[0]⟩ ⟨#[0, 255]⟩ m w (by decide) (globs_cell hg) (by decide) (by decide)
 have e9 : (⟨(Lib.replaceAll (⟨#[97, 0]⟩ : ByteArray).data.toList (⟨#[0]⟩ : ByteArray).data.toList (⟨#[0, 255]⟩ : ByteArray).data.toList).toArray⟩ : ByteArray) = ⟨#[97, 0, 255]⟩ := by decide +kernel
 rw [e9] at h
 exact h.mono fun e w' ⟨he, hb⟩ => ⟨.v (.string ⟨#[97, 0, 255]⟩), _, he, Past.of_below hb, .v _ rfl, rfl⟩
theorem key_awake (m : Int) : order_Key m ⟨7, 0, ⟨#[97, 0]⟩, [], [], [], []⟩ ⟨#[7, 97, 0, 255, 0, 0]⟩ := by
 refine order_Key_step _ _ _ ⟨true, ?_, fun h => by simp at h, fun _ => ⟨fun _ => ⟨_, esc_is m, by decide, by decide, by decide⟩, fun h => by simp at h⟩⟩
 refine run_pureN (a := .v (.bool true)) (T := tblO) (M := fun _ _ => false) (md := false) tblO_ok 1000 ?_ rfl
 kernel_rfl
theorem awake_is (m : Int) : law16_awake m true := by
 refine law16_awake_step _ _ ⟨-1, ?_, fun _ => ⟨_, key_awake m, by decide⟩, fun h => by simp at h⟩
 refine run_pureN (a := .v (.int .i64 (-1))) (T := tblO) (M := fun _ _ => false) (md := false) tblO_ok 1000 ?_ rfl
 kernel_rfl
theorem globs_of_cell {w : World} {m : Int} (h : w.cell? ⟨0, 0, none⟩ = some (.int .i64 m)) : Globs w nowhere (GLm m) := by
 intro g cells hg
 obtain ⟨rfl, rfl⟩ := Prod.mk.inj (List.mem_singleton.1 hg)
 refine .elt [.v (.int .i64 m)] 0 _ 0 (fun _ => .int .i64 m) (fun i av hi => ?_) (fun i av hi => ?_)
 ·cases i with
  | zero => simp at hi; subst hi; exact ⟨h, fun q => q.elim (fun x => x.elim) (fun x => bare_own _ _ _ _ x), rfl⟩
  | succ i => simp at hi
 ·cases i with
  | zero => simp at hi; subst hi; exact .v _ rfl
  | succ i => simp at hi
theorem calls_true_gl {P : Program} {f : FuncId} {args : List AV} {cargs : Array Value} {W : World} {gl : List (Nat × List AV)} (hg : Globs W nowhere gl) (hf : PureN P gl f args (.v (.bool true))) (hr : Rels (bare W nowhere) args cargs.toList) :
  Calls P f cargs W fun e W' => e = .returned (.bool true) /\ Below W.heap.size W W' := by
 refine (hf.2 W nowhere cargs (fun b o h => h.elim) hg hr).mono fun e W' ⟨av, x, he, hp, hrel, hav⟩ => ?_
 rw [nz_true hav] at hrel
 cases hrel with
 | v _ _ => exact ⟨he, hp.below⟩
section
variable {n : Nat} {av : AV}
theorem ar_lp (h : TyV Tryd.prog n 22 av) : ∃ x : List (GValue × GValue), av = .sl (x.map eGPair') .no /\ (Sz x.length /\ Sz (x.length * 256)) /\ ∀ y ∈ x, OkD y.1 /\ OkD y.2 := by
 have hu : Tryd.prog.underlying 22 = some (.slice 32) := by kernel_rfl
 unfold TyV at h; rw [hu] at h
 obtain ⟨l, e, h1, h2⟩ := ty_slw (w := 256) (e := 32) (enc := eGPair') (Ok := fun x => OkD x.1 /\ OkD x.2) hu (by kernel_rfl) (of_decide_eq_true (by kernel_rfl)) (fun k a hk ha => op_pair ha) h
 exact ⟨l, by simpa using e, h1, h2⟩
theorem ar_ls (h : TyV Tryd.prog n 27 av) : ∃ x : List (Int × GValue), av = .sl (x.map eGSlot') .no /\ (Sz x.length /\ Sz (x.length * 136)) /\ ∀ y ∈ x, I64 y.1 /\ OkD y.2 := by
 have hu : Tryd.prog.underlying 27 = some (.slice 38) := by kernel_rfl
 unfold TyV at h; rw [hu] at h
 obtain ⟨l, e, h1, h2⟩ := ty_slw (w := 136) (e := 38) (enc := eGSlot') (Ok := fun x => I64 x.1 /\ OkD x.2) hu (by kernel_rfl) (of_decide_eq_true (by kernel_rfl)) (fun k a hk ha => op_slot ha) h
 exact ⟨l, by simpa using e, h1, h2⟩
end
end Go.Proofs.YtkcbmobdpenngaaDoor.Lift
