/- Part 5 of the texts that prove TextformScalarsEnd. -/
import Derived.Test.YtdpomombdeccpaaGreatDoorTextformScalarsEndP3
import Derived.Test.YtdpomombdeccpaaGreatDoorTextformScalarsEndP2
import Derived.Lib.DecodeN
import Derived.Shelf.Strings.Builder1
import Derived.Shelf.Strings.Builder2
import Derived.Shelf.Small.Strs
import Derived.Shelf.Strings.BuilderF
import Derived.Shelf.Strconv.Itoa0
import Derived.Shelf.Strconv.Itoa1
import Derived.Shelf.LaysM
import Derived.Shelf.Strconv.Itoa2
import Derived.Shelf.Strconv.Itoa3
import Derived.Shelf.Strconv.ParseIntEmpty
import Derived.Shelf.Strconv.Clone
import Derived.Shelf.Strconv.SyntaxError
import Derived.Shelf.LaysC
import Derived.Shelf.Strconv.ToError
import Derived.Shelf.Strconv.Lower
import Derived.Shelf.Strconv.ParseUint10
import Derived.Shelf.Strconv.ParseUint10Empty
import Derived.Shelf.Strconv.ParseUint10Any
import Derived.Shelf.Strconv.ParseInt10
import Derived.Shelf.Strconv.RangeError
import Derived.Shelf.Strconv.ToErrorRange
import Derived.Shelf.Strconv.ParseUintEmpty
import Derived.Shelf.Strconv.ParseUint10b64
import Derived.Shelf.Strconv.ParseUint10b32
import Derived.Shelf.Strconv.ParseUint10b16
import Derived.Shelf.Strconv.ParseUint10b8
import Derived.Shelf.Strconv.ParseUint10At
import Derived.Shelf.Strconv.ParseInt10At64
import Derived.Shelf.Strconv.ParseInt10At32
import Derived.Shelf.Strconv.ParseInt10At16
import Derived.Shelf.Strconv.ParseInt10At8
import Derived.Shelf.Strconv.ParseInt10All
import Derived.Shelf.Strconv.ParseIntPublic10
import Derived.Ground.MpProg
import Derived.Shelf.Pu.ParseUintPublic10
import Derived.Shelf.Strings.Search1
import Derived.Shelf.Strings.Search2
import Derived.Shelf.Strings.Cut
import Derived.Shelf.Strings.Shaped
import Derived.Shelf.Bits.Mul64
import Derived.Ground.Names2Prog
import Derived.Shelf.Slices.SearchI
import Derived.Test.YtdpomombdeccpaaGreatDoorProg
import Derived.Lib.Walk
import Derived.Lib.ItoaMem
import Derived.WalkKit
import Derived.BigCall
import Derived.BigGuard
import Derived.Deep.LoopGhost
import Derived.Lib.MapLaws
import Derived.Lib.TrimUEq
namespace Go.Proofs.YtdpomombdeccpaaGreatDoor.Lift
open Go.RowKit
set_option linter.unusedVariables false
set_option linter.unusedSimpArgs false
set_option linter.unnecessarySimpa false
set_option linter.unusedSectionVars false
set_option maxRecDepth 100000
section
attribute [local irreducible] Ok run put putH br jn pos dr0 So
attribute [-simp] List.map_take List.map_drop List.map_append List.map_set List.map_replicate List.map_cons List.map_map
attribute [local simp] plain plainL lowE lowB keepB low lowL lowLL plm_I_i8 plm_I_i16 plm_I_i32 plm_I_i64 plm_I_u8 plm_I_u16 plm_I_u32 plm_I_u64 plm_Bool plm_Str gfn_fi gfn_cap plm_Fn pl_GOp plm_GOp pl_GProg plm_GProg pl_GRaw plm_GRaw pl_GValue plm_GValue pl_GPair plm_GPair pl_GSlot plm_GSlot pl_GNote plm_GNote pl_GItem plm_GItem pl_GSpan plm_GSpan pl_GEnum plm_GEnum pl_GPlan plm_GPlan pl_Gleaf plm_Gleaf pl_Gopening plm_Gopening pl_Gclosing plm_Gclosing pl_Gparts plm_Gparts pl_Any eI_i8 eI_i16 eI_i32 eI_i64 eI_u8 eI_u16 eI_u32 eI_u64 eBool eStr eFn lwr_Bool lwm_I_u8 lwm_GItem lwc_GEnum lwc_GPlan
def internal_strconv_ParseUint_j62 (ij48 : Int) (ij45 : Int) (sj24 : ByteArray) (ij47 : Int) (bj46 : Bool) (ij37 : Int) (ij43 : Int) (s : ByteArray) (base : Int) (ij25 : Int) (r : (Int × GAny)) : Prop := JP Pg 197 (e197 r) 39 [(16, aC ij48), (101, aI ij45), (100, aI ((bI sj24).length : Int)), (99, .sl (List.map eI_u8 (bI sj24)) .no), (13, aU ij47), (12, aB bj46), (11, aU (wU ((wU ((1 : Int) * 2 ^ min (wU ij37).toNat IntKind.u64.bits)) - 1))), (10, aU ij43), (9, aS s), (8, aB (base == 0)), (1, aI ij25)]
def internal_strconv_ParseUint_j60 (ij45 : Int) (sj24 : ByteArray) (ij47 : Int) (bj46 : Bool) (ij37 : Int) (ij43 : Int) (s : ByteArray) (base : Int) (ij25 : Int) (r : (Int × GAny)) : Prop := JP Pg 197 (e197 r) 33 [(101, aI ij45), (100, aI ((bI sj24).length : Int)), (99, .sl (List.map eI_u8 (bI sj24)) .no), (13, aU ij47), (12, aB bj46), (11, aU (wU ((wU ((1 : Int) * 2 ^ min (wU ij37).toNat IntKind.u64.bits)) - 1))), (10, aU ij43), (9, aS s), (8, aB (base == 0)), (1, aI ij25)]
def internal_strconv_ParseUint_j56 (ij43 : Int) (ij37 : Int) (s : ByteArray) (base : Int) (sj24 : ByteArray) (ij25 : Int) (r : (Int × GAny)) : Prop := JP Pg 197 (e197 r) 24 [(10, aU ij43), (2, aI ij37), (9, aS s), (8, aB (base == 0)), (0, aS sj24), (1, aI ij25)]
def internal_strconv_ParseUint_j48 (ij37 : Int) (s : ByteArray) (base : Int) (sj24 : ByteArray) (ij25 : Int) (r : (Int × GAny)) : Prop := JP Pg 197 (e197 r) 19 [(2, aI ij37), (9, aS s), (8, aB (base == 0)), (0, aS sj24), (1, aI ij25)]
def internal_strconv_ParseUint_j32 (s : ByteArray) (base : Int) (sj24 : ByteArray) (ij25 : Int) (bitSize : Int) (r : (Int × GAny)) : Prop := JP Pg 197 (e197 r) 6 [(9, aS s), (8, aB (base == 0)), (0, aS sj24), (1, aI ij25), (2, aI bitSize)]
theorem internal_strconv_ParseUint_j62_step (ij48 : Int) (ij45 : Int) (sj24 : ByteArray) (ij47 : Int) (bj46 : Bool) (ij37 : Int) (ij43 : Int) (s : ByteArray) (base : Int) (ij25 : Int) (r : (Int × GAny)) (hw : ID ((IntKind.u8.wrap ij25) <= ij48) (r = (0, (GAny.a_strconv_Error 2))) (ID (ij43 <= ij47) (r = ((wU ((wU ((1 : Int) * 2 ^ min (wU ij37).toNat IntKind.u64.bits)) - 1)), (GAny.a_strconv_Error 1))) (IF ((decide ((wU ((wU (ij47 * (wU ij25))) + (wU ij48))) < (wU (ij47 * (wU ij25))))) || (decide ((wU ((wU ((1 : Int) * 2 ^ min (wU ij37).toNat IntKind.u64.bits)) - 1)) < (wU ((wU (ij47 * (wU ij25))) + (wU ij48)))))) (r = ((wU ((wU ((1 : Int) * 2 ^ min (wU ij37).toNat IntKind.u64.bits)) - 1)), (GAny.a_strconv_Error 1))) (internal_strconv_ParseUint_j60 (wI (ij45 + 1)) sj24 (wU ((wU (ij47 * (wU ij25))) + (wU ij48))) bj46 ij37 ij43 s base ij25 r)))) : internal_strconv_ParseUint_j62 ij48 ij45 sj24 ij47 bj46 ij37 ij43 s base ij25 r :=
 fJ hw<|KW 9 (KR 14)<|KW 10 (KR 15)<|KT 27 4<|KW 2 (KR 15)<|KJ 13
theorem internal_strconv_ParseUint_j60_step (ij45 : Int) (sj24 : ByteArray) (ij47 : Int) (bj46 : Bool) (ij37 : Int) (ij43 : Int) (s : ByteArray) (base : Int) (ij25 : Int) (r : (Int × GAny)) (hw : ID (ij45 < ((bI sj24).length : Int)) (IX (bI sj24) ij45 fun y72=>IF ((y72 == 95) && (base == 0)) (internal_strconv_ParseUint_j60 (wI (ij45 + 1)) sj24 ij47 true ij37 ij43 s base ij25 r) (IF ((decide (48 <= y72)) && (decide (y72 <= 57))) (internal_strconv_ParseUint_j62 (IntKind.u8.wrap (y72 - 48)) ij45 sj24 ij47 bj46 ij37 ij43 s base ij25 r) (∃ y73, internal_strconv_lower y72 y73 /\ (JN (fun bz27 : Bool=>IF bz27 (∃ y75, internal_strconv_lower y72 y75 /\ (internal_strconv_ParseUint_j62 (IntKind.u8.wrap ((IntKind.u8.wrap (y75 - 97)) + 10)) ij45 sj24 ij47 bj46 ij37 ij43 s base ij25 r)) (r = (0, (GAny.a_strconv_Error 2)))) fun R27=>ID (97 <= y73) (∃ y74, internal_strconv_lower y72 y74 /\ (R27 (decide (y74 <= 122)))) (R27 false))))) (JN (fun bz26 : Bool=>IF bz26 (r = (0, (GAny.a_strconv_Error 2))) (r = (ij47, GAny.nil))) fun R26=>IF bj46 (∃ y71, internal_strconv_underscoreOK s y71 /\ (R26 (!y71))) (R26 false))) : internal_strconv_ParseUint_j60 ij45 sj24 ij47 bj46 ij37 ij43 s base ij25 r :=
 fJ hw<|KW 7 (KI 6 nI_u8<|KT 16 2<|KW 3 (KJ 15)<|KT 5 3<|KW 3 (KJ 7)<|KC 3<|KQ 2 4 kB (KW 3 (KC 2<|KJ 6)<|KR 15) (fun key=>KC 1<|KE 2 key) fun key=>KE 4 key)<|KQ 10 4 kB (KW 2 (KR 9)<|KR 10) (fun key=>KC 1<|KE 2 key) fun key=>KE 4 key
theorem internal_strconv_ParseUint_j56_step (ij43 : Int) (ij37 : Int) (s : ByteArray) (base : Int) (sj24 : ByteArray) (ij25 : Int) (r : (Int × GAny)) (hw : 0 <= (wU ij37) /\ (internal_strconv_ParseUint_j60 0 sj24 0 false ij37 ij43 s base ij25 r)) : internal_strconv_ParseUint_j56 ij43 ij37 s base sj24 ij25 r :=
 fJ hw<|KB 4<|KY 18<|KL 0 nI_u8 (bI sj24)<|KJ 5
theorem internal_strconv_ParseUint_j48_step (ij37 : Int) (s : ByteArray) (base : Int) (sj24 : ByteArray) (ij25 : Int) (r : (Int × GAny)) (hw : IF (ij25 == 10) (internal_strconv_ParseUint_j56 1844674407370955162 ij37 s base sj24 ij25 r) (IF (ij25 == 16) (internal_strconv_ParseUint_j56 1152921504606846976 ij37 s base sj24 ij25 r) ((wU ij25) ≠ 0 /\ (internal_strconv_ParseUint_j56 (wU ((wU ((18446744073709551615 : Int).tdiv (wU ij25))) + 1)) ij37 s base sj24 ij25 r)))) : internal_strconv_ParseUint_j48 ij37 s base sj24 ij25 r :=
 fJ hw<|KW 18 (KJ 5)<|KW 6 (KJ 5)<|KB 3<|KJ 5
theorem internal_strconv_ParseUint_j32_step (s : ByteArray) (base : Int) (sj24 : ByteArray) (ij25 : Int) (bitSize : Int) (r : (Int × GAny)) (hw : IF (bitSize == 0) (internal_strconv_ParseUint_j48 64 s base sj24 ij25 r) (IF ((decide (bitSize < 0)) || (decide (64 < bitSize))) (r = (0, (GAny.a_strconv_Error 4))) (internal_strconv_ParseUint_j48 bitSize s base sj24 ij25 r))) : internal_strconv_ParseUint_j32 s base sj24 ij25 bitSize r :=
 fJ hw<|KW 7 (KJ 4)<|KT 5 3<|KW 2 (KR 9)<|KJ 2
theorem internal_strconv_ParseUint_step (s : ByteArray) (base : Int) (bitSize : Int) (r : (Int × GAny)) (hw : ID (s = (⟨#[]⟩ : ByteArray)) (r = (0, (GAny.a_strconv_Error 2))) (IF ((decide (2 <= base)) && (decide (base <= 36))) (internal_strconv_ParseUint_j32 s base s base bitSize r) (IF (base == 0) (SI s (0 : Int) (IF ((byteAt s (0 : Int).toNat) == 48) (JN (fun bz1 : Bool=>IF bz1 (SS s (2 : Int) (s.size : Int) (internal_strconv_ParseUint_j32 s base (s.extract (2 : Int).toNat (s.size : Int).toNat) 2 bitSize r)) (JN (fun bz2 : Bool=>IF bz2 (SS s (2 : Int) (s.size : Int) (internal_strconv_ParseUint_j32 s base (s.extract (2 : Int).toNat (s.size : Int).toNat) 8 bitSize r)) (JN (fun bz3 : Bool=>IF bz3 (SS s (2 : Int) (s.size : Int) (internal_strconv_ParseUint_j32 s base (s.extract (2 : Int).toNat (s.size : Int).toNat) 16 bitSize r)) (SS s (1 : Int) (s.size : Int) (internal_strconv_ParseUint_j32 s base (s.extract (1 : Int).toNat (s.size : Int).toNat) 8 bitSize r))) fun R3=>ID (3 <= (s.size : Int)) (SI s (1 : Int) (∃ y3, internal_strconv_lower (byteAt s (1 : Int).toNat) y3 /\ (R3 (y3 == 120)))) (R3 false))) fun R2=>ID (3 <= (s.size : Int)) (SI s (1 : Int) (∃ y2, internal_strconv_lower (byteAt s (1 : Int).toNat) y2 /\ (R2 (y2 == 111)))) (R2 false))) fun R1=>ID (3 <= (s.size : Int)) (SI s (1 : Int) (∃ y1, internal_strconv_lower (byteAt s (1 : Int).toNat) y1 /\ (R1 (y1 == 98)))) (R1 false)) (internal_strconv_ParseUint_j32 s base s 10 bitSize r))) (r = (0, (GAny.a_strconv_Error 3)))))) : internal_strconv_ParseUint s base bitSize r :=
 fP hw<|KW 13 (KR 9)<|KT 22 3<|KW 3 (KJ 3)<|KW 7 (KIS 8<|KW 3 (KQ 7 5 kB (KW 3 (KSS 7<|KJ 5)<|KQ 6 5 kB (KW 3 (KSS 7<|KJ 5)<|KQ 6 5 kB (KW 3 (KSS 7<|KJ 5)<|KSS 7<|KJ 5) (fun key=>KIS 1<|KC 0<|KE 2 key) fun key=>KE 5 key) (fun key=>KIS 1<|KC 0<|KE 2 key) fun key=>KE 5 key) (fun key=>KIS 1<|KC 0<|KE 2 key) fun key=>KE 5 key)<|KJ 3)<|KR 10
theorem internal_stringslite_TrimPrefix_step (s : ByteArray) (prefix_ : ByteArray) (r : ByteArray) (hw : ∃ y1, internal_stringslite_HasPrefix s prefix_ y1 /\ (IF y1 (SS s (prefix_.size : Int) (s.size : Int) (r = (s.extract (prefix_.size : Int).toNat (s.size : Int).toNat))) (r = s))) : internal_stringslite_TrimPrefix s prefix_ r :=
 fP hw<|KC 10<|KW 2 (KSS 5<|KR 5)<|KR 9
def utf_Unquote_j6 (ij5 : Int) (ij6 : Int) (ij3 : Int) (lj4 : (List Int)) (s : ByteArray) (r : (ByteArray × Int × Int)) : Prop := J Pg 200 (.ret (e200 r)) 11 [(8, aI ij5), (7, aC ij6), (6, aI ij3), (5, .sl (List.map eI_u8 lj4) (.own 0)), (0, aS s)] ⟨[], [(lj4.length, 1)], []⟩
def utf_Unquote_j4 (ij3 : Int) (lj4 : (List Int)) (s : ByteArray) (r : (ByteArray × Int × Int)) : Prop := J Pg 200 (.ret (e200 r)) 7 [(6, aI ij3), (5, .sl (List.map eI_u8 lj4) (.own 0)), (0, aS s)] ⟨[], [(lj4.length, 1)], []⟩
theorem utf_Unquote_j6_step (ij5 : Int) (ij6 : Int) (ij3 : Int) (lj4 : (List Int)) (s : ByteArray) (r : (ByteArray × Int × Int)) (hw : IF (ij5 == 0) (r = ((⟨#[]⟩ : ByteArray), 0, 2)) ((lj4.length + [ij6].length) * 1 <= 140737488355328 /\ (utf_Unquote_j4 (wI (ij3 + ij5)) (lj4 ++ [ij6]) s r))) : utf_Unquote_j6 ij5 ij6 ij3 lj4 s r :=
 fJ hw<|KW 7 (KR 13)<|KA 7 nI_u8 mE<|KJ 11
theorem utf_Unquote_j4_step (ij3 : Int) (lj4 : (List Int)) (s : ByteArray) (r : (ByteArray × Int × Int)) (hw : JN (fun bz4 : Bool=>IF bz4 (SI s ij3 (IF ((byteAt s ij3.toNat) == 92) (∃ y5, utf_unescape s ij3 y5 /\ (utf_Unquote_j6 y5.2 y5.1 ij3 lj4 s r)) (utf_Unquote_j6 1 (byteAt s ij3.toNat) ij3 lj4 s r))) (∃ y3, lj4 = bI y3 /\ (JN (fun bz5 : Bool=>IF bz5 (r = ((⟨#[]⟩ : ByteArray), 0, 2)) (r = (y3, (wI (ij3 + 1)), 0))) fun R5=>ID ((s.size : Int) <= ij3) (R5 true) (∃ y4, utf_Quote y3 y4 /\ (SS s (0 : Int) (wI (ij3 + 1)) (R5 (!(decide (y4 = (s.extract (0 : Int).toNat (wI (ij3 + 1)).toNat)))))))))) fun R4=>ID (ij3 < (s.size : Int)) (SI s ij3 (R4 ((byteAt s ij3.toNat) != 34))) (R4 false)) : utf_Unquote_j4 ij3 lj4 s r :=
 fJ hw<|KQ 9 5 kB (KW 2 (KIS 7<|KW 11 (KC 3<|KJ 7)<|KJ 2)<|KS 8<|KD 5 []<|KQ 5 9 kB (KW 2 (KR 9)<|KR 13) (fun key=>KE 9 key) fun key=>KC 1<|KSS 3<|KE 3 key) (fun key=>KIS 2<|KE 2 key) fun key=>KE 5 key
theorem utf_Unquote_step (s : ByteArray) (r : (ByteArray × Int × Int)) (hw : JN (fun bz1 : Bool=>IF bz1 (r = ((⟨#[]⟩ : ByteArray), 0, 2)) (utf_Unquote_j4 1 ([] : List Int) s r)) fun R1=>ID (s = (⟨#[]⟩ : ByteArray)) (R1 true) (SI s (0 : Int) (R1 ((byteAt s (0 : Int).toNat) != 34)))) : utf_Unquote s r :=
 fP hw<|KQ 13 4 kB (KW 2 (KR 9)<|KO 15 5 1<|KJ 0) (fun key=>KE 4 key) fun key=>KIS 1<|KE 2 key
theorem utf_value_step (c : Int) (r : Int) (hw : ∃ y1, strings_IndexByte (⟨#[48, 49, 50, 51, 52, 53, 54, 55, 56, 57, 97, 98, 99, 100, 101, 102]⟩ : ByteArray) c y1 /\ (r = y1)) : utf_value c r :=
 fP hw<|KC 8<|KR 4
theorem ref03_digit_step (b : Int) (r : Int) (hw : IF ((decide (48 <= b)) && (decide (b <= 57))) (r = (wI (IntKind.u8.wrap (b - 48)))) (IF ((decide (97 <= b)) && (decide (b <= 102))) (r = (wI ((wI (IntKind.u8.wrap (b - 97))) + 10))) (r = (-1)))) : ref03_digit b r :=
 fP hw<|KT 11 3<|KW 2 (KR 10)<|KT 8 3<|KW 2 (KR 11)<|KR 8
def ref03_escape_j2 (bj1 : Bool) (s : ByteArray) (i : Int) (r : (Int × Int)) : Prop := JP Pg 204 (e204 r) 6 [(15, aB bj1), (14, aC (byteAt s (wI (i + 1)).toNat)), (0, aS s), (1, aI i)]
theorem ref03_escape_j2_step (bj1 : Bool) (s : ByteArray) (i : Int) (r : (Int × Int)) (hw : IF bj1 (SI s (wI (i + 1)) (r = ((byteAt s (wI (i + 1)).toNat), 2))) (IF ((byteAt s (wI (i + 1)).toNat) == 110) (r = (10, 2)) (IF ((byteAt s (wI (i + 1)).toNat) == 116) (r = (9, 2)) (IF ((byteAt s (wI (i + 1)).toNat) == 114) (r = (13, 2)) (SI s (wI (i + 1)) (JN (fun bz3 : Bool=>JN (fun bz4 : Bool=>IF bz4 (r = (0, 0)) (SI s (wI (i + 2)) (∃ y7, ref03_digit (byteAt s (wI (i + 2)).toNat) y7 /\ (SI s (wI (i + 3)) (∃ y8, ref03_digit (byteAt s (wI (i + 3)).toNat) y8 /\ (r = ((IntKind.u8.wrap (wI ((wI (16 * y7)) + y8))), 4))))))) fun R4=>IF bz3 (R4 true) (SI s (wI (i + 3)) (∃ y6, ref03_digit (byteAt s (wI (i + 3)).toNat) y6 /\ (R4 (decide (y6 < 0)))))) fun R3=>IF (((byteAt s (wI (i + 1)).toNat) != 120) || (decide ((s.size : Int) <= (wI (i + 3))))) (R3 true) (SI s (wI (i + 2)) (∃ y5, ref03_digit (byteAt s (wI (i + 2)).toNat) y5 /\ (R3 (decide (y5 < 0))))))))))) : ref03_escape_j2 bj1 s i r :=
 fJ hw<|KW 0 (KIS 5<|KR 7)<|KW 6 (KR 9)<|KW 6 (KR 9)<|KW 6 (KR 9)<|KIS 9<|KT 2 6<|KQ 1 7 kB (KQ 1 7 kB (KW 2 (KR 8)<|KD 3 []<|KIS 3<|KC 0<|KIS 4<|KC 0<|KR 8) (fun key=>KE 7 key) fun key=>KIS 3<|KC 0<|KE 2 key) (fun key=>KE 7 key) fun key=>KIS 3<|KC 0<|KE 2 key
theorem ref03_escape_step (s : ByteArray) (i : Int) (r : (Int × Int)) (hw : ID ((s.size : Int) <= (wI (i + 1))) (r = (0, 0)) (SI s (wI (i + 1)) (IF ((byteAt s (wI (i + 1)).toNat) == 34) (ref03_escape_j2 ((byteAt s (wI (i + 1)).toNat) == 34) s i r) (ref03_escape_j2 ((byteAt s (wI (i + 1)).toNat) == 92) s i r)))) : ref03_escape s i r :=
 fP hw<|KW 16 (KR 8)<|KIS 8<|KW 10 (KJ 2)<|KJ 5
def ref03_tail_j2 (ij1 : Int) (s : ByteArray) (i : Int) (n : Int) (r : Bool) : Prop := JP Pg 205 (e205 r) 3 [(7, aI ij1), (0, aS s), (1, aI i), (2, aI n)]
theorem ref03_tail_j2_step (ij1 : Int) (s : ByteArray) (i : Int) (n : Int) (r : Bool) (hw : ID (ij1 < n) (∃ y2, ref03_between s (wI (i + ij1)) 128 191 y2 /\ (IF (!y2) (r = false) (ref03_tail_j2 (wI (ij1 + 1)) s i n r))) (r = true)) : ref03_tail_j2 ij1 s i n r :=
 fJ hw<|KW 9 (KC 10<|KW 3 (KR 11)<|KJ 9)<|KR 11
theorem ref03_tail_step (s : ByteArray) (i : Int) (n : Int) (r : Bool) (hw : ref03_tail_j2 0 s i n r) : ref03_tail s i n r :=
 fP hw<|KJ 13
theorem ref03_between_step (s : ByteArray) (i : Int) (lo : Int) (hi : Int) (r : Bool) (hw : JN (fun bz1 : Bool=>IF bz1 (SI s i (r = (decide ((byteAt s i.toNat) <= hi)))) (r = false)) fun R1=>ID (i < (s.size : Int)) (SI s i (R1 (decide (lo <= (byteAt s i.toNat))))) (R1 false)) : ref03_between s i lo hi r :=
 fP hw<|KQ 12 6 kB (KW 1 (KIS 2<|KR 7)<|KR 10) (fun key=>KIS 2<|KE 3 key) fun key=>KE 6 key
theorem internal_strconv_lower_step (c : Int) (r : Int) (hw : r = (bitsOf .or .u8 c 32)) : internal_strconv_lower c r :=
 fP hw<|KR 13
theorem utf_unescape_step (s : ByteArray) (at_ : Int) (r : (Int × Int)) (hw : ID ((s.size : Int) <= (wI (at_ + 1))) (r = (0, 0)) (SI s (wI (at_ + 1)) (∃ y1, utf_plain (byteAt s (wI (at_ + 1)).toNat) y1 /\ (IF y1.2 (r = (y1.1, 2)) (SI s (wI (at_ + 1)) (JN (fun bz1 : Bool=>JN (fun bz2 : Bool=>IF bz2 (r = (0, 0)) (SI s (wI (at_ + 2)) (∃ y4, utf_value (byteAt s (wI (at_ + 2)).toNat) y4 /\ (SI s (wI (at_ + 3)) (∃ y5, utf_value (byteAt s (wI (at_ + 3)).toNat) y5 /\ (r = ((IntKind.u8.wrap (bitsOf .or .i64 (wI (y4 * 2 ^ min (4 : Int).toNat IntKind.i64.bits)) y5)), 4))))))) fun R2=>IF bz1 (R2 true) (SI s (wI (at_ + 3)) (∃ y3, utf_value (byteAt s (wI (at_ + 3)).toNat) y3 /\ (R2 (decide (y3 < 0)))))) fun R1=>IF (((byteAt s (wI (at_ + 1)).toNat) != 120) || (decide ((s.size : Int) <= (wI (at_ + 3))))) (R1 true) (SI s (wI (at_ + 2)) (∃ y2, utf_value (byteAt s (wI (at_ + 2)).toNat) y2 /\ (R1 (decide (y2 < 0))))))))))) : utf_unescape s at_ r :=
 fP hw<|KW 16 (KR 8)<|KIS 8<|KC 0<|KW 12 (KR 9)<|KIS 8<|KT 2 6<|KQ 1 7 kB (KQ 1 7 kB (KW 2 (KR 8)<|KD 3 []<|KIS 3<|KC 0<|KIS 4<|KC 0<|KR 8) (fun key=>KE 7 key) fun key=>KIS 3<|KC 0<|KE 2 key) (fun key=>KE 7 key) fun key=>KIS 3<|KC 0<|KE 2 key
theorem strings_IndexByte_step (s : ByteArray) (c : Int) (r : Int) (hw : ∃ y1, internal_stringslite_IndexByte s c y1 /\ (r = y1)) : strings_IndexByte s c r :=
 fP hw<|KC 9<|KR 4
theorem internal_stringslite_IndexByte_step (s : ByteArray) (c : Int) (r : Int) (hw : r = (findB s c)) : internal_stringslite_IndexByte s c r :=
 fP hw<|KR 14
def utf_plain_j2 (bj1 : Bool) (c : Int) (r : (Int × Bool)) : Prop := JP Pg 275 (e275 r) 3 [(5, aB bj1), (4, aC c), (0, aC c)]
theorem utf_plain_j2_step (bj1 : Bool) (c : Int) (r : (Int × Bool)) (hw : IF bj1 (r = (c, true)) (IF (c == 110) (r = (10, true)) (IF (c == 116) (r = (9, true)) (IF (c == 114) (r = (13, true)) (r = (0, false)))))) : utf_plain_j2 bj1 c r :=
 fJ hw<|KW 0 (KR 10)<|KW 6 (KR 9)<|KW 6 (KR 9)<|KW 6 (KR 9)<|KR 10
theorem utf_plain_step (c : Int) (r : (Int × Bool)) (hw : IF (c == 34) (utf_plain_j2 (c == 34) c r) (utf_plain_j2 (c == 92) c r)) : utf_plain c r :=
 fP hw<|KW 20 (KJ 2)<|KJ 5
theorem plan_Accepts_1_step (it : GItem) (c1_ : Int) (r : Bool) (hw : r = ((wU it.Num) == c1_)) : plan_Accepts_1 it c1_ r :=
 fP hw<|KR 17
theorem plan_Accepts_1_clo (it : GItem) (c1_ : Int) (r : Bool) (h : plan_Accepts_1 it c1_ r) : FCall Pg [] (.clo (.func 87) [] [.elt (eI_u64 c1_) 0]) [.agg (eGItem it)] (aB r) := ⟨87, [], [.elt (eI_u64 c1_) 0], rfl, (show plainL [.agg (eGItem it), .elt (eI_u64 c1_) 0] = true by simp), h⟩
end
theorem or_add (u x k : Nat) (hu : u < 2 ^ k) : u ||| x * 2 ^ k = u + x * 2 ^ k := by
 have := Nat.two_pow_add_eq_or_of_lt (i := k) (b := u) hu x
 rw [Nat.or_comm, Nat.add_comm, Nat.mul_comm]; exact this.symm
theorem wrapI {n : Int} (h : -9223372036854775808 <= n /\ n <= 9223372036854775807) : IntKind.i64.wrap n = n := by simp [IntKind.wrap, IntKind.signed, IntKind.bits]; omega
def byteN (s : ByteArray) (i : Nat) : Nat := (byteAt s i).toNat
theorem byteN_eq (s : ByteArray) (i : Nat) : byteAt s i = (byteN s i : Int) /\ byteN s i < 256 := by
 have h : 0 <= byteAt s i /\ byteAt s i < 256 := by
  unfold byteAt
  have := (s.data.toList.getD i 0).toNat_lt
  omega
 unfold byteN
 omega
theorem wrapU {n : Int} (h : 0 <= n /\ n <= 18446744073709551615) : IntKind.u64.wrap n = n := by simp [IntKind.wrap, IntKind.signed, IntKind.bits]; omega
theorem byteN_cut (s : ByteArray) {l u i : Nat} (h : l + i < u) : byteN (s.extract l u) i = byteN s (l + i) := by
 unfold byteN byteAt
 rw [cut_same]
 simp only [List.getD_eq_getElem?_getD, List.getElem?_drop, List.getElem?_take, if_pos h]
theorem size_cut (s : ByteArray) {l u : Nat} (h : u <= s.size) : (s.extract l u).size = u - l := by
 rw [ByteArray.size_extract]; omega
theorem and_exp (a : Nat) : a &&& 9218868437227405312 = a % 9223372036854775808 / 4503599627370496 * 4503599627370496 := by
 apply Nat.eq_of_testBit_eq
 intro i
 have e : (9223372036854775808 : Nat) = 2 ^ 63 := by decide
 have e2 : (4503599627370496 : Nat) = 2 ^ 52 := by decide
 have e3 : (9218868437227405312 : Nat) = (2^11 - 1) * 2 ^ 52 := by decide
 rw [e3, e, e2, Nat.testBit_and, Nat.testBit_mul_two_pow, Nat.testBit_mul_two_pow, Nat.testBit_two_pow_sub_one, Nat.testBit_div_two_pow, Nat.testBit_mod_two_pow]
 by_cases h2 : 52 <= i
 ·rw [show i - 52 + 52 = i by omega]
  by_cases h3 : i < 63
  ·have : i - 52 < 11 := by omega
   simp [h2, h3, this]
  ·have : ¬ i - 52 < 11 := by omega
   simp [h3, this]
 ·simp [h2]
theorem bits_and_u64 (a b : Nat) (ha : a < 18446744073709551616) (hb : b < 18446744073709551616) : bitsOf .and .u64 (a : Int) (b : Int) = ((a &&& b : Nat) : Int) := by
 have h : a &&& b <= a := Nat.and_le_left
 have e1 : ((a : Int) % (2 ^ 64 : Nat)).toNat = a := by omega
 have e2 : ((b : Int) % (2 ^ 64 : Nat)).toNat = b := by omega
 have e3 : bitsOf .and .u64 (a : Int) (b : Int) = IntKind.u64.wrap (((BitVec.ofInt 64 (a : Int) &&& BitVec.ofInt 64 (b : Int)).toNat : Nat) : Int) := rfl
 rw [e3, BitVec.toNat_and, BitVec.toNat_ofInt, BitVec.toNat_ofInt, e1, e2]
 simp only [IntKind.wrap, IntKind.signed, IntKind.bits, Bool.false_and, Bool.false_eq_true, if_false]
 omega
def clsS (z : Nat) : Nat := if 9218868437227405312 < z % 9223372036854775808 then 0 else if z % 9223372036854775808 = 9218868437227405312 then 1 else if z % 9223372036854775808 = 0 then 2 else if z % 9223372036854775808 < 4503599627370496 then 3 else 4
def ofI (l : List Int) : ByteArray := ⟨(l.map fun n => UInt8.ofNat n.toNat).toArray⟩
def bytesL (l : List Int) : Prop := ∀ x ∈ l, 0 <= x /\ x < 256
theorem bI_ofI {l : List Int} (h : bytesL l) : l = bI (ofI l) := by
 simp only [bI, ofI, List.map_map]
 symm
 conv => rhs; rw [← List.map_id l]
 refine List.map_congr_left fun x hx => ?_
 have := h x hx
 simp only [Function.comp, id]
 rw [UInt8.toNat_ofNat_of_lt' (show x.toNat < UInt8.size by simp [UInt8.size]; omega)]
 omega
theorem ofI_size (l : List Int) : (ofI l).size = l.length := by simp [ofI, ByteArray.size]
theorem wU_neg {n : Int} (h : -9223372036854775808 <= n /\ n < 0) : wU n = n + 18446744073709551616 := by simp [wU, IntKind.wrap, IntKind.signed, IntKind.bits]; omega
theorem and_mant (a : Nat) : a &&& 4503599627370495 = a % 4503599627370496 := Nat.and_two_pow_sub_one_eq_mod a 52
theorem class_is (z : Nat) (hz : z < 18446744073709551616) : scalar_Class z (clsS z) := by
 have e1 : bitsOf .and .u64 (z : Int) 9218868437227405312 = ((z % 9223372036854775808 / 4503599627370496 * 4503599627370496 : Nat) : Int) := by
  have := bits_and_u64 z 9218868437227405312 hz (by omega)
  rw [and_exp] at this
  exact this
 have e2 : bitsOf .and .u64 (z : Int) 4503599627370495 = ((z % 4503599627370496 : Nat) : Int) := by
  have := bits_and_u64 z 4503599627370495 hz (by omega)
  rw [and_mant] at this
  exact this
 refine scalar_Class_step _ _ ?_
 rw [e1, e2]
 simp only [ID, IF, Bool.and_eq_true, Bool.and_eq_false_iff, beq_iff_eq, beq_eq_false_iff_ne, bne_iff_ne, bne_eq_false_iff_eq]
 unfold clsS
 refine ⟨fun h => ?_, fun h => ⟨fun h2 => ?_, fun h2 => ⟨fun h3 => ?_, fun h3 => ⟨fun h4 => ?_, fun h4 => ?_⟩⟩⟩⟩
 all_goals (repeat' split) <;> first | rfl | (exfalso; omega)
theorem rclass_is (z : Nat) (hz : z < 18446744073709551616) : ref04_Class z (clsS z) := by
 have e : (z : Int).tmod 9223372036854775808 = ((z % 9223372036854775808 : Nat) : Int) := rfl
 refine ref04_Class_step _ _ ?_
 rw [e]
 simp only [ID, IF, decide_eq_true_eq, decide_eq_false_iff_not, beq_iff_eq, beq_eq_false_iff_ne]
 unfold clsS
 refine ⟨fun h => ?_, fun h => ⟨fun h2 => ?_, fun h2 => ⟨fun h3 => ?_, fun h3 => ⟨fun h4 => ?_, fun h4 => ?_⟩⟩⟩⟩
 all_goals (repeat' split) <;> first | rfl | (exfalso; omega)
def sizeN (n b0 b1 b2 b3 : Nat) : Nat :=
 if b0 < 128 then 1
 else if (194 <= b0 /\ b0 <= 223) /\ (1 < n /\ 128 <= b1 /\ b1 <= 191) then 2
 else if b0 = 224 /\ (1 < n /\ 160 <= b1 /\ b1 <= 191) /\ (2 < n /\ 128 <= b2 /\ b2 <= 191) then 3
 else if b0 = 237 /\ (1 < n /\ 128 <= b1 /\ b1 <= 159) /\ (2 < n /\ 128 <= b2 /\ b2 <= 191) then 3
 else if (225 <= b0 /\ b0 <= 239 /\ b0 ≠ 237) /\ (1 < n /\ 128 <= b1 /\ b1 <= 191) /\ (2 < n /\ 128 <= b2 /\ b2 <= 191) then 3
 else if b0 = 240 /\ (1 < n /\ 144 <= b1 /\ b1 <= 191) /\ (2 < n /\ 128 <= b2 /\ b2 <= 191) /\ (3 < n /\ 128 <= b3 /\ b3 <= 191) then 4
 else if (241 <= b0 /\ b0 <= 243) /\ (1 < n /\ 128 <= b1 /\ b1 <= 191) /\ (2 < n /\ 128 <= b2 /\ b2 <= 191) /\ (3 < n /\ 128 <= b3 /\ b3 <= 191) then 4
 else if b0 = 244 /\ (1 < n /\ 128 <= b1 /\ b1 <= 143) /\ (2 < n /\ 128 <= b2 /\ b2 <= 191) /\ (3 < n /\ 128 <= b3 /\ b3 <= 191) then 4
 else 0
theorem sizeN_le (n b0 b1 b2 b3 : Nat) (hn : 1 <= n) : sizeN n b0 b1 b2 b3 <= n := by
 unfold sizeN
 repeat' split
 all_goals omega
def okN (n b0 b1 b2 : Nat) (x : Nat × Nat) : Nat := if x.1 = 65533 /\ ¬ (2 < n /\ b0 = 239 /\ b1 = 191 /\ b2 = 189) then 0 else x.2
theorem okN_bad {n b0 b1 b2 k : Nat} (h : ¬ (2 < n /\ b0 = 239 /\ b1 = 191 /\ b2 = 189)) : okN n b0 b1 b2 (65533, k) = 0 := by unfold okN; rw [if_pos ⟨rfl, h⟩]
theorem okN_good {n b0 b1 b2 c k : Nat} (h : c ≠ 65533 ∨ (2 < n /\ b0 = 239 /\ b1 = 191 /\ b2 = 189)) : okN n b0 b1 b2 (c, k) = k := by
 unfold okN; rw [if_neg]; intro ⟨h1, h2⟩; rcases h with h | h
 ·exact h h1
 ·exact h2 h
theorem utf_2 (n b0 b1 b2 b3 : Nat) (hb : 194 <= b0 /\ b0 <= 223) (h1 : b1 < 256) : sizeN n b0 b1 b2 b3 = okN n b0 b1 b2 (Lib.decodeN n b0 b1 b2 b3) := by
 by_cases h : 1 < n /\ 128 <= b1 /\ b1 <= 191
 ·have e1 : sizeN n b0 b1 b2 b3 = 2 := by unfold sizeN; rw [if_neg (by omega), if_pos (by omega)]
  have e2 : Lib.decodeN n b0 b1 b2 b3 = (b0 % 32 * 64 + b1 % 64, 2) := by unfold Lib.decodeN; rw [if_neg (by omega), if_pos (by omega), if_pos (by omega)]
  rw [e1, e2, okN_good (by omega)]
 ·have e1 : sizeN n b0 b1 b2 b3 = 0 := by unfold sizeN; rw [if_neg (by omega), if_neg (by omega), if_neg (by omega), if_neg (by omega), if_neg (by omega), if_neg (by omega), if_neg (by omega), if_neg (by omega)]
  have e2 : Lib.decodeN n b0 b1 b2 b3 = (65533, 1) := by unfold Lib.decodeN; rw [if_neg (by omega), if_neg (by omega), if_neg (by omega), if_neg (by omega)]
  rw [e1, e2, okN_bad (by omega)]
theorem utf_0 (n b0 b1 b2 b3 : Nat) (hb : (128 <= b0 /\ b0 < 194) ∨ 245 <= b0) (h0 : b0 < 256) : sizeN n b0 b1 b2 b3 = okN n b0 b1 b2 (Lib.decodeN n b0 b1 b2 b3) := by
 have e : Lib.decodeN n b0 b1 b2 b3 = (65533, 1) := by
  unfold Lib.decodeN
  rw [if_neg (by omega)]
  by_cases c1 : b0 / 32 = 6 /\ (1 < n /\ b1 / 64 = 2)
  ·rw [if_pos c1, if_neg (by omega)]
  ·rw [if_neg c1, if_neg (by omega)]
   by_cases c2 : b0 / 8 = 30 /\ (1 < n /\ b1 / 64 = 2) /\ (2 < n /\ b2 / 64 = 2) /\ (3 < n /\ b3 / 64 = 2)
   ·rw [if_pos c2, if_neg (by omega)]
   ·rw [if_neg c2]
 rw [e, okN_bad (by omega)]
 unfold sizeN
 rw [if_neg (by omega), if_neg (by omega), if_neg (by omega), if_neg (by omega), if_neg (by omega), if_neg (by omega), if_neg (by omega), if_neg (by omega)]
theorem utf_3 (n b0 b1 b2 b3 : Nat) (hb : 224 <= b0 /\ b0 <= 239) (h1 : b1 < 256) (h2 : b2 < 256) : sizeN n b0 b1 b2 b3 = okN n b0 b1 b2 (Lib.decodeN n b0 b1 b2 b3) := by
 by_cases c : (1 < n /\ b1 / 64 = 2) /\ (2 < n /\ b2 / 64 = 2)
 ·by_cases d0 : b0 = 224
  ·by_cases d1 : 160 <= b1
   ·have e1 : sizeN n b0 b1 b2 b3 = 3 := by unfold sizeN; rw [if_neg (by omega), if_neg (by omega), if_pos (by omega)]
    have e2 : Lib.decodeN n b0 b1 b2 b3 = (b0 % 16 * 4096 + b1 % 64 * 64 + b2 % 64, 3) := by unfold Lib.decodeN; rw [if_neg (by omega), if_neg (by omega), if_pos (by omega), if_pos (by omega)]
    rw [e1, e2, okN_good (by omega)]
   ·have e1 : sizeN n b0 b1 b2 b3 = 0 := by unfold sizeN; rw [if_neg (by omega), if_neg (by omega), if_neg (by omega), if_neg (by omega), if_neg (by omega), if_neg (by omega), if_neg (by omega), if_neg (by omega)]
    have e2 : Lib.decodeN n b0 b1 b2 b3 = (65533, 1) := by unfold Lib.decodeN; rw [if_neg (by omega), if_neg (by omega), if_pos (by omega), if_neg (by omega)]
    rw [e1, e2, okN_bad (by omega)]
  ·by_cases d2 : b0 = 237
   ·by_cases d3 : b1 <= 159
    ·have e1 : sizeN n b0 b1 b2 b3 = 3 := by unfold sizeN; rw [if_neg (by omega), if_neg (by omega), if_neg (by omega), if_pos (by omega)]
     have e2 : Lib.decodeN n b0 b1 b2 b3 = (b0 % 16 * 4096 + b1 % 64 * 64 + b2 % 64, 3) := by unfold Lib.decodeN; rw [if_neg (by omega), if_neg (by omega), if_pos (by omega), if_pos (by omega)]
     rw [e1, e2, okN_good (by omega)]
    ·have e1 : sizeN n b0 b1 b2 b3 = 0 := by unfold sizeN; rw [if_neg (by omega), if_neg (by omega), if_neg (by omega), if_neg (by omega), if_neg (by omega), if_neg (by omega), if_neg (by omega), if_neg (by omega)]
     have e2 : Lib.decodeN n b0 b1 b2 b3 = (65533, 1) := by unfold Lib.decodeN; rw [if_neg (by omega), if_neg (by omega), if_pos (by omega), if_neg (by omega)]
     rw [e1, e2, okN_bad (by omega)]
   ·have e1 : sizeN n b0 b1 b2 b3 = 3 := by unfold sizeN; rw [if_neg (by omega), if_neg (by omega), if_neg (by omega), if_neg (by omega), if_pos (by omega)]
    have e2 : Lib.decodeN n b0 b1 b2 b3 = (b0 % 16 * 4096 + b1 % 64 * 64 + b2 % 64, 3) := by unfold Lib.decodeN; rw [if_neg (by omega), if_neg (by omega), if_pos (by omega), if_pos (by omega)]
    rw [e1, e2, okN_good (by omega)]
 ·have e1 : sizeN n b0 b1 b2 b3 = 0 := by unfold sizeN; rw [if_neg (by omega), if_neg (by omega), if_neg (by omega), if_neg (by omega), if_neg (by omega), if_neg (by omega), if_neg (by omega), if_neg (by omega)]
  have e2 : Lib.decodeN n b0 b1 b2 b3 = (65533, 1) := by unfold Lib.decodeN; rw [if_neg (by omega), if_neg (by omega), if_neg (by omega), if_neg (by omega)]
  rw [e1, e2, okN_bad (by omega)]
theorem utf_4 (n b0 b1 b2 b3 : Nat) (hb : 240 <= b0 /\ b0 <= 244) (h1 : b1 < 256) (h2 : b2 < 256) (h3 : b3 < 256) : sizeN n b0 b1 b2 b3 = okN n b0 b1 b2 (Lib.decodeN n b0 b1 b2 b3) := by
 by_cases c : (1 < n /\ b1 / 64 = 2) /\ (2 < n /\ b2 / 64 = 2) /\ (3 < n /\ b3 / 64 = 2)
 ·by_cases d0 : b0 = 240
  ·by_cases d1 : 144 <= b1
   ·have e1 : sizeN n b0 b1 b2 b3 = 4 := by unfold sizeN; rw [if_neg (by omega), if_neg (by omega), if_neg (by omega), if_neg (by omega), if_neg (by omega), if_pos (by omega)]
    have e2 : Lib.decodeN n b0 b1 b2 b3 = (b0 % 8 * 262144 + b1 % 64 * 4096 + b2 % 64 * 64 + b3 % 64, 4) := by unfold Lib.decodeN; rw [if_neg (by omega), if_neg (by omega), if_neg (by omega), if_pos (by omega), if_pos (by omega)]
    rw [e1, e2, okN_good (by omega)]
   ·have e1 : sizeN n b0 b1 b2 b3 = 0 := by unfold sizeN; rw [if_neg (by omega), if_neg (by omega), if_neg (by omega), if_neg (by omega), if_neg (by omega), if_neg (by omega), if_neg (by omega), if_neg (by omega)]
    have e2 : Lib.decodeN n b0 b1 b2 b3 = (65533, 1) := by unfold Lib.decodeN; rw [if_neg (by omega), if_neg (by omega), if_neg (by omega), if_pos (by omega), if_neg (by omega)]
    rw [e1, e2, okN_bad (by omega)]
  ·by_cases d2 : b0 = 244
   ·by_cases d3 : b1 <= 143
    ·have e1 : sizeN n b0 b1 b2 b3 = 4 := by unfold sizeN; rw [if_neg (by omega), if_neg (by omega), if_neg (by omega), if_neg (by omega), if_neg (by omega), if_neg (by omega), if_neg (by omega), if_pos (by omega)]
     have e2 : Lib.decodeN n b0 b1 b2 b3 = (b0 % 8 * 262144 + b1 % 64 * 4096 + b2 % 64 * 64 + b3 % 64, 4) := by unfold Lib.decodeN; rw [if_neg (by omega), if_neg (by omega), if_neg (by omega), if_pos (by omega), if_pos (by omega)]
     rw [e1, e2, okN_good (by omega)]
    ·have e1 : sizeN n b0 b1 b2 b3 = 0 := by unfold sizeN; rw [if_neg (by omega), if_neg (by omega), if_neg (by omega), if_neg (by omega), if_neg (by omega), if_neg (by omega), if_neg (by omega), if_neg (by omega)]
     have e2 : Lib.decodeN n b0 b1 b2 b3 = (65533, 1) := by unfold Lib.decodeN; rw [if_neg (by omega), if_neg (by omega), if_neg (by omega), if_pos (by omega), if_neg (by omega)]
     rw [e1, e2, okN_bad (by omega)]
   ·have e1 : sizeN n b0 b1 b2 b3 = 4 := by unfold sizeN; rw [if_neg (by omega), if_neg (by omega), if_neg (by omega), if_neg (by omega), if_neg (by omega), if_neg (by omega), if_pos (by omega)]
    have e2 : Lib.decodeN n b0 b1 b2 b3 = (b0 % 8 * 262144 + b1 % 64 * 4096 + b2 % 64 * 64 + b3 % 64, 4) := by unfold Lib.decodeN; rw [if_neg (by omega), if_neg (by omega), if_neg (by omega), if_pos (by omega), if_pos (by omega)]
    rw [e1, e2, okN_good (by omega)]
 ·have e1 : sizeN n b0 b1 b2 b3 = 0 := by unfold sizeN; rw [if_neg (by omega), if_neg (by omega), if_neg (by omega), if_neg (by omega), if_neg (by omega), if_neg (by omega), if_neg (by omega), if_neg (by omega)]
  have e2 : Lib.decodeN n b0 b1 b2 b3 = (65533, 1) := by unfold Lib.decodeN; rw [if_neg (by omega), if_neg (by omega), if_neg (by omega), if_neg (by omega)]
  rw [e1, e2, okN_bad (by omega)]
theorem sizeN_decode (n b0 b1 b2 b3 : Nat) (h0 : b0 < 256) (h1 : b1 < 256) (h2 : b2 < 256) (h3 : b3 < 256) :
  sizeN n b0 b1 b2 b3 = if (Lib.decodeN n b0 b1 b2 b3).1 = 65533 /\ ¬ (2 < n /\ b0 = 239 /\ b1 = 191 /\ b2 = 189) then 0 else (Lib.decodeN n b0 b1 b2 b3).2 := by
 show _ = okN n b0 b1 b2 _
 by_cases c0 : b0 < 128
 ·unfold sizeN Lib.decodeN
  rw [if_pos c0, if_pos c0, okN_good (by omega)]
 by_cases c1 : b0 < 194
 ·exact utf_0 n b0 b1 b2 b3 (by omega) h0
 by_cases c2 : b0 < 224
 ·exact utf_2 n b0 b1 b2 b3 (by omega) h1
 by_cases c3 : b0 < 240
 ·exact utf_3 n b0 b1 b2 b3 (by omega) h1 h2
 by_cases c4 : b0 < 245
 ·exact utf_4 n b0 b1 b2 b3 (by omega) h1 h2 h3
 ·exact utf_0 n b0 b1 b2 b3 (by omega) h0
def sizeAt (s : ByteArray) (i : Nat) : Nat := sizeN (s.size - i) (s.get! i).toNat (s.get! (i + 1)).toNat (s.get! (i + 2)).toNat (s.get! (i + 3)).toNat
theorem sizeAt_le (s : ByteArray) (i : Nat) (h : i < s.size) : i + sizeAt s i <= s.size := by
 have := sizeN_le (s.size - i) (s.get! i).toNat (s.get! (i + 1)).toNat (s.get! (i + 2)).toNat (s.get! (i + 3)).toNat (by omega)
 unfold sizeAt
 omega
theorem sizeAt_decode (s : ByteArray) (i : Nat) : sizeAt s i = if (Utf8.decode s i).1 = 65533 /\ ¬ (2 < s.size - i /\ (s.get! i).toNat = 239 /\ (s.get! (i + 1)).toNat = 191 /\ (s.get! (i + 2)).toNat = 189) then 0 else (Utf8.decode s i).2 := by
 rw [Lib.decode_at]
 exact sizeN_decode _ _ _ _ _ (UInt8.toNat_lt _) (UInt8.toNat_lt _) (UInt8.toNat_lt _) (UInt8.toNat_lt _)
def badFrom (s : ByteArray) : Nat -> Nat -> Int
 | 0, _ => -1
 | f + 1, p => if p < s.size then (if sizeAt s p = 0 then p else badFrom s f (p + sizeAt s p)) else -1
def badZ (s : ByteArray) : Int := badFrom s s.size 0
theorem badFrom_more (s : ByteArray) : ∀ (f g p : Nat), s.size - p <= f -> s.size - p <= g -> badFrom s f p = badFrom s g p
 | 0, 0, _, _, _ => rfl
 | 0, g + 1, p, h, _ => by
  simp only [badFrom]; rw [if_neg (by omega)]
 | f + 1, 0, p, _, h => by
  simp only [badFrom]; rw [if_neg (by omega)]
 | f + 1, g + 1, p, h, h' => by
  simp only [badFrom]
  by_cases hp : p < s.size
  ·rw [if_pos hp, if_pos hp]
   by_cases h0 : sizeAt s p = 0
   ·rw [if_pos h0, if_pos h0]
   ·rw [if_neg h0, if_neg h0]
    exact badFrom_more s f g _ (by omega) (by omega)
  ·rw [if_neg hp, if_neg hp]
def badAt (s : ByteArray) (p : Nat) : Int := badFrom s (s.size - p) p
theorem badAt_end (s : ByteArray) (p : Nat) (h : s.size <= p) : badAt s p = -1 := by
 unfold badAt
 rw [show s.size - p = 0 by omega]; rfl
theorem badAt_bad (s : ByteArray) (p : Nat) (h : p < s.size) (h0 : sizeAt s p = 0) : badAt s p = p := by
 unfold badAt
 rw [show s.size - p = (s.size - p - 1) + 1 by omega]
 simp only [badFrom]
 rw [if_pos h, if_pos h0]
theorem badAt_on (s : ByteArray) (p : Nat) (h : p < s.size) (h0 : sizeAt s p ≠ 0) : badAt s p = badAt s (p + sizeAt s p) := by
 unfold badAt
 rw [show s.size - p = (s.size - p - 1) + 1 by omega]
 simp only [badFrom]
 rw [if_pos h, if_neg h0]
 exact badFrom_more s _ _ _ (by omega) (by omega)
def validB (s : ByteArray) : Bool := decide (badZ s < 0)
theorem byteN_get (s : ByteArray) (i : Nat) : byteN s i = (s.get! i).toNat := by
 unfold byteN byteAt
 have : s.data.toList.getD i 0 = s.get! i := by
  rw [List.getD_eq_getElem?_getD]
  show _ = s.data[i]!
  rw [getElem!_def, Array.getElem?_toList]
  cases s.data[i]? <;> rfl
 rw [this]; omega
def btw (s : ByteArray) (i lo hi : Nat) : Bool := decide (i < s.size /\ lo <= byteN s i /\ byteN s i <= hi)
theorem between_is (s : ByteArray) (i lo hi : Nat) : ref03_between s i lo hi (btw s i lo hi) := by
 have hb := byteN_eq s i
 have hn : ((i : Int)).toNat = i := by omega
 refine ref03_between_step _ _ _ _ _ ⟨fun b => b = decide (i < s.size /\ lo <= byteN s i), fun b hR => ⟨fun h => ?_, fun h => ?_⟩, fun h => ?_, fun h => ?_⟩
 ·rw [h] at hR
  have h2 := of_decide_eq_true hR.symm
  refine ⟨⟨by omega, by omega⟩, ?_⟩
  rw [hn, hb.1]
  unfold btw
  congr 1
  simp only [eq_iff_iff]
  omega
 ·rw [h] at hR
  have h2 := of_decide_eq_false hR.symm
  exact decide_eq_false (by omega)
 ·simp only [decide_eq_true_eq] at h
  refine ⟨⟨by omega, h⟩, ?_⟩
  rw [hn, hb.1]
  congr 1
  simp only [eq_iff_iff]
  omega
 ·simp only [decide_eq_false_iff_not] at h
  exact (decide_eq_false (by omega)).symm
def tailN (s : ByteArray) (i : Nat) : Nat -> Bool
 | 0 => true
 | n + 1 => btw s i 128 191 && tailN s (i + 1) n
theorem tail_j (s : ByteArray) (hz : s.size <= 140737488351232) (i : Nat) (hi : i <= 140737488351300) : ∀ m j : Nat, j <= 4 -> j + m <= 4 -> ref03_tail_j2 j s i ((j + m : Nat) : Int) (tailN s (i + j) m) := by
 intro m
 induction m with
 | zero =>
  intro j h1 h2
  exact ref03_tail_j2_step _ _ _ _ _ ⟨fun h => by simp at h, fun _ => rfl⟩
 | succ m ih =>
  intro j h1 h2
  refine ref03_tail_j2_step _ _ _ _ _ ⟨fun _ => ?_, fun h => by simp at h; omega⟩
  have e : wI ((i : Int) + j) = ((i + j : Nat) : Int) := by rw [wI, wrapI (by omega)]; omega
  rw [e]
  refine ⟨_, between_is s (i + j) 128 191, fun h => ?_, fun h => ?_⟩
  ·have : btw s (i + j) 128 191 = false := by simpa using h
   simp [tailN, this]
  ·have : btw s (i + j) 128 191 = true := by simpa using h
   rw [wI, wrapI (by omega)]
   have h3 := ih (j + 1) (by omega) (by omega)
   rw [tailN, this, Bool.true_and]
   have e2 : i + j + 1 = i + (j + 1) := by omega
   have e3 : j + (m + 1) = j + 1 + m := by omega
   rw [e2, e3]
   exact h3
theorem tail_is (s : ByteArray) (hz : s.size <= 140737488351232) (i n : Nat) (hi : i <= 140737488351300) (hn : n <= 4) : ref03_tail s i n (tailN s i n) := by
 have := tail_j s hz i hi n 0 (by omega) (by omega)
 simp only [Nat.zero_add, Nat.add_zero] at this
 exact ref03_tail_step _ _ _ _ this
def szB (s : ByteArray) (i : Nat) : Nat :=
 if byteN s i < 128 then 1
 else if (decide (194 <= byteN s i /\ byteN s i <= 223) && tailN s (i + 1) 1) = true then 2
 else if (decide (byteN s i = 224) && btw s (i + 1) 160 191 && tailN s (i + 2) 1) = true then 3
 else if (decide (byteN s i = 237) && btw s (i + 1) 128 159 && tailN s (i + 2) 1) = true then 3
 else if (decide (225 <= byteN s i /\ byteN s i <= 239 /\ byteN s i ≠ 237) && tailN s (i + 1) 2) = true then 3
 else if (decide (byteN s i = 240) && btw s (i + 1) 144 191 && tailN s (i + 2) 2) = true then 4
 else if (decide (241 <= byteN s i /\ byteN s i <= 243) && tailN s (i + 1) 3) = true then 4
 else if (decide (byteN s i = 244) && btw s (i + 1) 128 143 && tailN s (i + 2) 2) = true then 4
 else 0
theorem size_is (s : ByteArray) (hz : s.size <= 140737488351232) (i : Nat) (hi : i < s.size) : ref03_Size s i (szB s i) := by
 have hb := byteN_eq s i
 have hn : ((i : Int)).toNat = i := by omega
 have w1 : wI ((i : Int) + 1) = ((i + 1 : Nat) : Int) := by rw [wI, wrapI (by omega)]; omega
 have w2 : wI ((i : Int) + 2) = ((i + 2 : Nat) : Int) := by rw [wI, wrapI (by omega)]; omega
 have tl := fun k n (hk : k <= 4) (hn : n <= 4) => tail_is s hz (i + k) n (by omega) hn
 have bt := fun k lo hi => between_is s (i + k) lo hi
 refine ref03_Size_step _ _ _ ?_
 rw [hn, hb.1, w1, w2]
 unfold szB
 generalize hx : byteN s i = x at *
 refine ⟨⟨by omega, by omega⟩, fun h => ?_, fun h => ?_⟩
 ·rw [if_pos (by simp only [decide_eq_true_eq] at h; omega)]; rfl
 rw [if_neg (by simp only [decide_eq_false_iff_not] at h; omega)]
 refine ⟨fun b => b = (decide (194 <= x /\ x <= 223) && tailN s (i + 1) 1), fun b hR => ?_, fun h => ⟨_, tl 1 1 (by omega) (by omega), ?_⟩, fun h => ?_⟩
 rotate_left
 ·have : (194 <= x /\ x <= 223) := by simp only [Bool.and_eq_true, decide_eq_true_eq] at h; omega
  simp [this]
 ·have : ¬ (194 <= x /\ x <= 223) := by simp only [Bool.and_eq_false_iff, decide_eq_false_iff_not] at h; omega
  simp [this]
 subst hR
 refine ⟨fun h => by rw [if_pos h]; rfl, fun h => ?_⟩
 rw [if_neg (by rw [h]; decide)]
 refine ⟨fun b => b = (decide (x = 224) && btw s (i + 1) 160 191), fun b hR => ?_, fun h => ⟨_, bt 1 160 191, ?_⟩, fun h => ?_⟩
 rotate_left
 ·have : x = 224 := by simp only [beq_iff_eq] at h; omega
  simp [this]
 ·have : ¬ x = 224 := by simp only [beq_eq_false_iff_ne] at h; omega
  simp [this]
 refine ⟨fun b2 => b2 = (b && tailN s (i + 2) 1), fun b2 hR2 => ?_, fun h => ⟨_, tl 2 1 (by omega) (by omega), by rw [h]; rfl⟩, fun h => by rw [h]; rfl⟩
 subst hR2; subst hR
 refine ⟨fun h => by rw [if_pos h]; rfl, fun h => ?_⟩
 rw [if_neg (by rw [h]; decide)]
 refine ⟨fun b => b = (decide (x = 237) && btw s (i + 1) 128 159), fun b hR => ?_, fun h => ⟨_, bt 1 128 159, ?_⟩, fun h => ?_⟩
 rotate_left
 ·have : x = 237 := by simp only [beq_iff_eq] at h; omega
  simp [this]
 ·have : ¬ x = 237 := by simp only [beq_eq_false_iff_ne] at h; omega
  simp [this]
 refine ⟨fun b2 => b2 = (b && tailN s (i + 2) 1), fun b2 hR2 => ?_, fun h => ⟨_, tl 2 1 (by omega) (by omega), by rw [h]; rfl⟩, fun h => by rw [h]; rfl⟩
 subst hR2; subst hR
 refine ⟨fun h => by rw [if_pos h]; rfl, fun h => ?_⟩
 rw [if_neg (by rw [h]; decide)]
 refine ⟨fun b => b = (decide (225 <= x /\ x <= 239 /\ x ≠ 237) && tailN s (i + 1) 2), fun b hR => ?_, fun h => ⟨_, tl 1 2 (by omega) (by omega), ?_⟩, fun h => ?_⟩
 rotate_left
 ·have : (225 <= x /\ x <= 239 /\ x ≠ 237) := by simp only [Bool.and_eq_true, decide_eq_true_eq, bne_iff_ne] at h; omega
  simp [this]
 ·have : ¬ (225 <= x /\ x <= 239 /\ x ≠ 237) := by simp only [Bool.and_eq_false_iff, decide_eq_false_iff_not, bne_eq_false_iff_eq] at h; omega
  have h3 : decide (225 <= x /\ x <= 239 /\ x ≠ 237) = false := decide_eq_false this
  rw [h3]; rfl
 subst hR
 refine ⟨fun h => by rw [if_pos h]; rfl, fun h => ?_⟩
 rw [if_neg (by rw [h]; decide)]
 refine ⟨fun b => b = (decide (x = 240) && btw s (i + 1) 144 191), fun b hR => ?_, fun h => ⟨_, bt 1 144 191, ?_⟩, fun h => ?_⟩
 rotate_left
 ·have : x = 240 := by simp only [beq_iff_eq] at h; omega
  simp [this]
 ·have : ¬ x = 240 := by simp only [beq_eq_false_iff_ne] at h; omega
  simp [this]
 refine ⟨fun b2 => b2 = (b && tailN s (i + 2) 2), fun b2 hR2 => ?_, fun h => ⟨_, tl 2 2 (by omega) (by omega), by rw [h]; rfl⟩, fun h => by rw [h]; rfl⟩
 subst hR2; subst hR
 refine ⟨fun h => by rw [if_pos h]; rfl, fun h => ?_⟩
 rw [if_neg (by rw [h]; decide)]
 refine ⟨fun b => b = (decide (241 <= x /\ x <= 243) && tailN s (i + 1) 3), fun b hR => ?_, fun h => ⟨_, tl 1 3 (by omega) (by omega), ?_⟩, fun h => ?_⟩
 rotate_left
 ·have : (241 <= x /\ x <= 243) := by simp only [Bool.and_eq_true, decide_eq_true_eq] at h; omega
  simp [this]
 ·have : ¬ (241 <= x /\ x <= 243) := by simp only [Bool.and_eq_false_iff, decide_eq_false_iff_not] at h; omega
  simp [this]
 subst hR
 refine ⟨fun h => by rw [if_pos h]; rfl, fun h => ?_⟩
 rw [if_neg (by rw [h]; decide)]
 refine ⟨fun b => b = (decide (x = 244) && btw s (i + 1) 128 143), fun b hR => ?_, fun h => ⟨_, bt 1 128 143, ?_⟩, fun h => ?_⟩
 rotate_left
 ·have : x = 244 := by simp only [beq_iff_eq] at h; omega
  simp [this]
 ·have : ¬ x = 244 := by simp only [beq_eq_false_iff_ne] at h; omega
  simp [this]
 refine ⟨fun h => ⟨_, tl 2 2 (by omega) (by omega), fun h2 => ?_, fun h2 => ?_⟩, fun h => ?_⟩
 ·rw [if_pos (by rw [← hR, h, h2]; rfl)]; rfl
 ·rw [if_neg (by rw [← hR, h, h2]; decide)]; rfl
 ·rw [if_neg (by rw [← hR, h]; simp)]; rfl
theorem szB_at (s : ByteArray) (i : Nat) : szB s i = sizeAt s i := by
 unfold szB sizeAt sizeN
 simp only [← byteN_get, btw, tailN, Bool.and_eq_true, decide_eq_true_eq, Bool.and_true]
 have e1 : i + 1 + 1 = i + 2 := rfl
 have e2 : i + 1 + 1 + 1 = i + 3 := rfl
 have e3 : i + 2 + 1 = i + 3 := rfl
 simp only [e1, e2, e3]
 generalize byteN s i = a
 generalize byteN s (i + 1) = b
 generalize byteN s (i + 2) = c
 generalize byteN s (i + 3) = d
 generalize s.size = n
 by_cases h0 : a < 128
 ·rw [if_pos h0, if_pos h0]
 rw [if_neg h0, if_neg h0]
 have key : ∀ (p q : Prop) [Decidable p] [Decidable q] (x y z : Nat), (p ↔ q) -> y = z -> (if p then x else y) = (if q then x else z) := by
  intro p q _ _ x y z h1 h2
  subst h2
  by_cases hp : p
  ·rw [if_pos hp, if_pos (h1.1 hp)]
  ·rw [if_neg hp, if_neg (fun h => hp (h1.2 h))]
 refine key _ _ _ _ _ (by omega) (key _ _ _ _ _ (by omega) (key _ _ _ _ _ (by omega) (key _ _ _ _ _ (by omega) (key _ _ _ _ _ (by omega) (key _ _ _ _ _ (by omega) (key _ _ _ _ _ (by omega) rfl))))))
theorem rbad_j (s : ByteArray) (hz : s.size <= 140737488351232) : ∀ n p : Nat, s.size - p <= n -> p <= s.size -> ref03_Bad_j2 p s (badAt s p) := by
 intro n
 induction n with
 | zero =>
  intro p h1 h2
  refine ref03_Bad_j2_step _ _ _ ⟨fun h => by simp only [decide_eq_true_eq] at h; omega, fun h => badAt_end s p (by omega)⟩
 | succ n ih =>
  intro p h1 h2
  refine ref03_Bad_j2_step _ _ _ ⟨fun h => ?_, fun h => ?_⟩
  ·simp only [decide_eq_true_eq] at h
   have hp : p < s.size := by omega
   have hle := sizeAt_le s p hp
   refine ⟨_, size_is s hz p hp, fun h2 => ?_, fun h2 => ?_⟩
   ·simp only [beq_iff_eq] at h2
    exact badAt_bad s p hp (by rw [← szB_at]; omega)
   ·simp only [beq_eq_false_iff_ne] at h2
    rw [szB_at] at h2 ⊢
    have h3 : sizeAt s p ≠ 0 := by omega
    rw [badAt_on s p hp h3, wI, wrapI (by omega)]
    exact ih _ (by omega) hle
  ·simp only [decide_eq_false_iff_not] at h
   exact badAt_end s p (by omega)
theorem rvalid_is (s : ByteArray) (hz : s.size <= 140737488351232) : ref03_Valid s (validB s) :=
 ref03_Valid_step _ _ ⟨_, ref03_Bad_step _ _ (rbad_j s hz s.size 0 (by omega) (by omega)), rfl⟩
def fffd (s : ByteArray) (i : Nat) : Bool := decide (2 < s.size - i /\ byteN s i = 239 /\ byteN s (i + 1) = 191 /\ byteN s (i + 2) = 189)
theorem ba_ext {a b : ByteArray} (h : a.size = b.size) (hb : ∀ i, i < a.size -> byteN a i = byteN b i) : a = b := by
 apply ByteArray.ext
 refine Array.ext h fun i h1 h2 => ?_
 have := hb i h1
 rw [byteN_get, byteN_get] at this
 have e1 : a.get! i = a.data[i] := by show a.data[i]! = _; exact getElem!_pos a.data i h1
 have e2 : b.get! i = b.data[i] := by show b.data[i]! = _; exact getElem!_pos b.data i h2
 rw [e1, e2] at this
 exact UInt8.toNat_inj.1 this
theorem prefix_is (s : ByteArray) (i : Nat) (hi : i <= s.size) (hz : s.size <= 140737488351232) : strings_HasPrefix (s.extract i s.size) ⟨#[239, 191, 189]⟩ (fffd s i) := by
 refine strings_HasPrefix_step _ _ _ ⟨_, internal_stringslite_HasPrefix_step _ _ _ ⟨fun h => ⟨⟨by omega, by omega, by simpa using h⟩, ?_⟩, fun h => ?_⟩, rfl⟩
 ·have hs : (s.extract i s.size).size = s.size - i := size_cut s (Nat.le_refl _)
  simp only [decide_eq_true_eq, hs] at h
  have h3 : (⟨#[239, 191, 189]⟩ : ByteArray).size = 3 := rfl
  rw [h3] at h ⊢
  show fffd s i = decide ((s.extract i s.size).extract 0 3 = _)
  unfold fffd
  congr 1
  simp only [eq_iff_iff]
  have e0 := byteN_cut (s.extract i s.size) (l := 0) (u := 3) (i := 0) (by omega)
  have e1 := byteN_cut (s.extract i s.size) (l := 0) (u := 3) (i := 1) (by omega)
  have e2 := byteN_cut (s.extract i s.size) (l := 0) (u := 3) (i := 2) (by omega)
  rw [byteN_cut s (by omega)] at e0 e1 e2
  constructor
  ·rintro ⟨k1, k2, k3, k4⟩
   refine ba_ext (by rw [size_cut _ (by omega)]; rfl) fun j hj => ?_
   rw [size_cut _ (by omega)] at hj
   have : j = 0 ∨ j = 1 ∨ j = 2 := by omega
   rcases this with rfl | rfl | rfl
   ·rw [e0]; exact k2
   ·rw [e1]; exact k3
   ·rw [e2]; exact k4
  ·intro he
   rw [he] at e0 e1 e2
   refine ⟨by omega, e0.symm, e1.symm, e2.symm⟩
 ·have hs : (s.extract i s.size).size = s.size - i := size_cut s (Nat.le_refl _)
  simp only [decide_eq_false_iff_not, hs] at h
  have h3 : (⟨#[239, 191, 189]⟩ : ByteArray).size = 3 := rfl
  rw [h3] at h
  exact decide_eq_false (by omega)
theorem wrong_is (s : ByteArray) (i : Nat) (hi : i <= s.size) (hz : s.size <= 140737488351232) (c : Int) : utf_wrong s i c (decide (c = 65533) && !fffd s i) := by
 refine utf_wrong_step _ _ _ _ ⟨fun h => ⟨⟨by omega, by omega, by omega⟩, ?_⟩, fun h => ?_⟩
 ·simp only [beq_iff_eq] at h
  have e : ((s.size : Nat) : Int).toNat = s.size := by omega
  have e2 : ((i : Nat) : Int).toNat = i := by omega
  rw [e, e2]
  exact ⟨_, prefix_is s i hi hz, by simp [h]⟩
 ·simp only [beq_eq_false_iff_ne] at h
  simp [h]
theorem dec_pos (s : ByteArray) (p : Nat) : 1 <= (Utf8.decode s p).2 := by
 rw [Lib.decode_at]
 unfold Lib.decodeN
 (repeat' split) <;> simp
theorem bad_j (s : ByteArray) (hz : s.size <= 140737488351232) : ∀ n p : Nat, s.size - p <= n -> p <= s.size -> utf_Bad_j2 s p (badAt s p) := by
 intro n
 induction n with
 | zero =>
  intro p h1 h2
  exact utf_Bad_j2_step _ _ _ ⟨fun h => by omega, fun h => badAt_end s p (by omega)⟩
 | succ n ih =>
  intro p h1 h2
  refine utf_Bad_j2_step _ _ _ ⟨fun hp => ⟨_, wrong_is s p h2 hz _, fun h => ?_, fun h => ?_⟩, fun h => badAt_end s p (by omega)⟩
  ·have hd := sizeAt_decode s p
   simp only [← byteN_get] at hd
   rw [Bool.and_eq_true] at h
   have k1 := of_decide_eq_true h.1
   have k2 : fffd s p = false := by cases hf : fffd s p with
    | true => rw [hf] at h; exact absurd h.2 (by decide)
    | false => rfl
   have k3 := of_decide_eq_false k2
   rw [if_pos ⟨by omega, k3⟩] at hd
   exact badAt_bad s p hp hd
  ·have hd := sizeAt_decode s p
   simp only [← byteN_get] at hd
   have hle := sizeAt_le s p hp
   rw [if_neg] at hd
   ·have h3 : sizeAt s p ≠ 0 := by
     have := dec_pos s p
     omega
    rw [badAt_on s p hp h3, ← hd]
    exact ih _ (by omega) hle
   ·intro hc
    have k2 : fffd s p = false := decide_eq_false hc.2
    have k1 : decide (((Utf8.decode s p).1 : Int) = 65533) = true := decide_eq_true (by omega)
    rw [k1, k2] at h
    cases h
theorem valid_is (s : ByteArray) (hz : s.size <= 140737488351232) : utf_Valid s (validB s) :=
 utf_Valid_step _ _ ⟨_, utf_Bad_step _ _ (bad_j s hz s.size 0 (by omega) (by omega)), rfl⟩
structure OkV (v : GValue) : Prop where
 l : v.List_.length <= 140737488351232
 p : v.Pairs.length <= 140737488351232
 s : v.Slots.length <= 140737488351232
 r : v.Raws.length <= 140737488351232
 t : v.Text.size <= 140737488351232
 b0 : 0 <= v.Bits
 b1 : v.Bits < 18446744073709551616
def loneV (v : GValue) : Bool := decide (v.List_.length = 0 /\ v.Pairs.length = 0 /\ v.Slots.length = 0 /\ v.Raws.length = 0)
def withinB (k bits : Int) : Bool := if k = 1 then decide (bits <= 1) else if k = 2 then decide (-2147483648 <= wI bits /\ wI bits <= 2147483647) else if k = 9 then decide (bits <= 2147483647) else if k = 4 then decide (bits <= 4294967295) else true
def fitsV (k : Int) (v : GValue) : Bool :=
 decide (1 <= k /\ k <= 9 /\ v.Kind = k) && loneV v &&
  (if k = 7 ∨ k = 8 then decide (v.Bits = 0 /\ v.Text.size <= 4096) && (!decide (k = 7) || validB v.Text) else decide (v.Text = ⟨#[]⟩) && withinB k v.Bits)
theorem within_is (k bits : Int) : scalar_within k bits (withinB k bits) := by
 refine scalar_within_step _ _ _ ⟨fun h => ?_, fun h => ⟨fun h2 => ?_, fun h2 => ⟨fun h3 => ?_, fun h3 => ⟨fun h4 => ?_, fun h4 => ?_⟩⟩⟩⟩
 all_goals simp only [beq_iff_eq, beq_eq_false_iff_ne] at *
 ·rw [withinB, if_pos h]
 ·rw [withinB, if_neg h, if_pos h2, Bool.decide_and]
 ·rw [withinB, if_neg h, if_neg h2, if_pos h3]
 ·rw [withinB, if_neg h, if_neg h2, if_neg h3, if_pos h4]
 ·rw [withinB, if_neg h, if_neg h2, if_neg h3, if_neg h4]
def leanV (v : GValue) : Bool := loneV v && (if v.Kind = 7 ∨ v.Kind = 8 then decide (v.Bits = 0) else decide (v.Text = ⟨#[]⟩))
theorem lean_is (v : GValue) (hv : OkV v) : scalar_lean v (leanV v) := by
 have h1 := hv.l; have h2 := hv.p; have h3 := hv.s; have h4 := hv.r
 have e1 : wI ((v.List_.length : Int) + v.Pairs.length) = (v.List_.length : Int) + v.Pairs.length := wrapI (by omega)
 have e2 : wI ((v.List_.length : Int) + v.Pairs.length + v.Slots.length) = (v.List_.length : Int) + v.Pairs.length + v.Slots.length := wrapI (by omega)
 have e3 : wI ((v.List_.length : Int) + v.Pairs.length + v.Slots.length + v.Raws.length) = (v.List_.length : Int) + v.Pairs.length + v.Slots.length + v.Raws.length := wrapI (by omega)
 refine scalar_lean_step _ _ ?_
 rw [e1, e2, e3]
 refine ⟨fun h => ?_, fun h => ⟨_, scalar_texty_step _ _ rfl, fun h5 => ?_, fun h5 => ?_⟩⟩
 ·simp only [decide_eq_true_eq] at h
  have : loneV v = false := decide_eq_false (by omega)
  rw [leanV, this]; rfl
 all_goals
  simp only [decide_eq_false_iff_not] at h
  have : loneV v = true := decide_eq_true (by omega)
  rw [leanV, this, Bool.true_and]
 ·rw [if_pos (by simpa using h5)]; rfl
 ·rw [if_neg (by simpa using h5)]
theorem fits_is (k : Int) (v : GValue) (hv : OkV v) : scalar_Fits k v (fitsV k v) := by
 refine scalar_Fits_step _ _ _ ⟨_, scalar_Is_step _ _ rfl, fun b => b = !(decide (1 <= k /\ k <= 9 /\ v.Kind = k) && leanV v), fun b hR => ?_, fun h => ?_, fun h => ⟨_, lean_is v hv, ?_⟩⟩
 rotate_left
 ·have : decide (1 <= k /\ k <= 9 /\ v.Kind = k) = false := by
   refine decide_eq_false fun hn => ?_
   simp [hn.1, hn.2.1, hn.2.2] at h
  rw [this]; rfl
 ·have : decide (1 <= k /\ k <= 9 /\ v.Kind = k) = true := by
   refine decide_eq_true ?_
   simp at h
   omega
  rw [this]; rfl
 subst hR
 refine ⟨fun b => b = !(decide (1 <= k /\ k <= 9 /\ v.Kind = k) && leanV v && withinB k v.Bits), fun b hR => ?_, fun h => ?_, fun h => ⟨_, within_is k v.Bits, ?_⟩⟩
 rotate_left
 ·have : (decide (1 <= k /\ k <= 9 /\ v.Kind = k) && leanV v) = false := by rw [← Bool.not_eq_true']; exact h
  rw [this]; rfl
 ·have : (decide (1 <= k /\ k <= 9 /\ v.Kind = k) && leanV v) = true := by rw [← Bool.not_eq_false']; exact h
  rw [this]; rfl
 subst hR
 have main : ∀ A B C D : Bool, True := fun _ _ _ _ => trivial
 by_cases hk : 1 <= k /\ k <= 9 /\ v.Kind = k
 ·have hkd : decide (1 <= k /\ k <= 9 /\ v.Kind = k) = true := decide_eq_true hk
  unfold fitsV leanV
  rw [hkd, hk.2.2, Bool.true_and, Bool.true_and]
  cases hl : loneV v with
  | false => simp [ID, IF]
  | true =>
   simp only [Bool.true_and]
   by_cases h78 : k = 7 ∨ k = 8
   ·rw [if_pos h78, if_pos h78]
    have hw : withinB k v.Bits = true := by rw [withinB, if_neg (by omega), if_neg (by omega), if_neg (by omega), if_neg (by omega)]
    rw [hw, Bool.and_true]
    refine ⟨fun h => ?_, fun h => ⟨fun h2 => ?_, fun h2 => ⟨_, valid_is _ hv.t, ?_⟩⟩⟩
    ·have : ¬ (v.Bits = 0 /\ v.Text.size <= 4096) := by
      simp only [Bool.or_eq_true, Bool.not_eq_true', decide_eq_false_iff_not, decide_eq_true_eq] at h
      omega
     rw [decide_eq_false this]; rfl
    ·have : v.Bits = 0 /\ v.Text.size <= 4096 := by
      simp only [Bool.or_eq_false_iff, Bool.not_eq_false', decide_eq_false_iff_not, decide_eq_true_eq] at h
      omega
     rw [decide_eq_true this]
     have : ¬ k = 7 := by simpa using h2
     rw [decide_eq_false this]; rfl
    ·have : v.Bits = 0 /\ v.Text.size <= 4096 := by
      simp only [Bool.or_eq_false_iff, Bool.not_eq_false', decide_eq_false_iff_not, decide_eq_true_eq] at h
      omega
     rw [decide_eq_true this]
     have : k = 7 := by simpa using h2
     rw [decide_eq_true this]; simp
   ·rw [if_neg h78, if_neg h78]
    refine ⟨fun h => ?_, fun h => ⟨fun h2 => ?_, fun h2 => ?_⟩⟩
    ·simp only [Bool.or_eq_true, Bool.not_eq_true', decide_eq_true_eq] at h
     rcases h with h | h
     ·rw [h]
     ·have : ¬ v.Text = ⟨#[]⟩ := by
       intro he
       rw [he] at h
       have : ((⟨#[]⟩ : ByteArray).size : Int) = 0 := rfl
       omega
      rw [decide_eq_false this]; rfl
    ·simp only [Bool.or_eq_false_iff, Bool.not_eq_false'] at h
     rw [h.1]
    ·have : k = 7 := by simpa using h2
     omega
 ·have hkd : decide (1 <= k /\ k <= 9 /\ v.Kind = k) = false := decide_eq_false hk
  unfold fitsV
  rw [hkd]
  simp [ID, IF]
theorem rlone_is (v : GValue) : ref04_lone v (loneV v) := by
 refine ref04_lone_step _ _ ?_
 unfold loneV
 rw [Bool.eq_iff_iff]
 simp only [decide_eq_true_eq, Bool.and_eq_true, beq_iff_eq]
 omega
theorem rfits_is (k : Int) (v : GValue) (hv : OkV v) : ref04_Fits k v (fitsV k v) := by
 refine ref04_Fits_step _ _ _ ⟨_, ref04_Is_step _ _ rfl, fun b => b = !(decide (1 <= k /\ k <= 9 /\ v.Kind = k) && loneV v), fun b hR => ⟨fun h => ?_, fun h => ⟨_, ref04_texts_step _ _ rfl, fun h2 => ?_, fun h2 => ?_⟩⟩, fun h => ?_, fun h => ⟨_, rlone_is v, ?_⟩⟩
 ·have : (decide (1 <= k /\ k <= 9 /\ v.Kind = k) && loneV v) = false := by rw [← Bool.not_eq_true', ← hR]; exact h
  unfold fitsV; rw [this]; rfl
 ·have hb : (decide (1 <= k /\ k <= 9 /\ v.Kind = k) && loneV v) = true := by rw [← Bool.not_eq_false', ← hR]; exact h
  have h78 : k = 7 ∨ k = 8 := by simpa using h2
  unfold fitsV
  rw [hb, Bool.true_and, if_pos h78]
  refine ⟨fun c => c = (decide (v.Bits = 0 /\ v.Text.size <= 4096) && (!decide (k = 7) || validB v.Text)), fun c hc => hc.symm, fun h3 => ?_, fun h3 => ?_⟩
  ·have h4 : v.Bits = 0 /\ v.Text.size <= 4096 := by
    simp only [Bool.and_eq_true, beq_iff_eq, decide_eq_true_eq] at h3
    omega
   rw [decide_eq_true h4, Bool.true_and]
   refine ⟨fun c => c = (!decide (k = 7) || validB v.Text), fun c hc => hc, fun h5 => ?_, fun h5 => ⟨_, rvalid_is _ hv.t, ?_⟩⟩
   ·have : ¬ k = 7 := by simp only [beq_iff_eq] at h5; omega
    rw [decide_eq_false this]; rfl
   ·have : k = 7 := by simp only [beq_eq_false_iff_ne] at h5; omega
    rw [decide_eq_true this]; rfl
  ·have h4 : ¬ (v.Bits = 0 /\ v.Text.size <= 4096) := by
    simp only [Bool.and_eq_false_iff, beq_eq_false_iff_ne, decide_eq_false_iff_not] at h3
    omega
   rw [decide_eq_false h4]; rfl
 ·have hb : (decide (1 <= k /\ k <= 9 /\ v.Kind = k) && loneV v) = true := by rw [← Bool.not_eq_false', ← hR]; exact h
  have h78 : ¬ (k = 7 ∨ k = 8) := by simpa using h2
  unfold fitsV
  rw [hb, Bool.true_and, if_neg h78]
  refine ⟨fun h3 => ?_, fun h3 => ?_⟩
  ·have : decide (v.Text = ⟨#[]⟩) = false := by rw [← Bool.not_eq_true']; exact h3
   rw [this]; rfl
  ·have : decide (v.Text = ⟨#[]⟩) = true := by rw [← Bool.not_eq_false']; exact h3
   rw [this, Bool.true_and]
   refine ⟨fun h4 => ?_, fun h4 => ⟨fun h5 => ?_, fun h5 => ⟨fun h6 => ?_, fun h6 => ⟨fun h7 => ?_, fun h7 => ?_⟩⟩⟩⟩
   all_goals simp only [beq_iff_eq, beq_eq_false_iff_ne] at *
   ·rw [withinB, if_pos h4]
   ·rw [withinB, if_neg h4, if_pos h5, Bool.decide_and]
   ·rw [withinB, if_neg h4, if_neg h5, if_neg (by omega), if_pos h6]
    congr 1; simp only [eq_iff_iff]; omega
   ·rw [withinB, if_neg h4, if_neg h5, if_pos h7]
    congr 1; simp only [eq_iff_iff]; omega
   ·rw [withinB, if_neg h4, if_neg h5, if_neg h7, if_neg h6]
 ·have : decide (1 <= k /\ k <= 9 /\ v.Kind = k) = false := by
   refine decide_eq_false fun hn => ?_
   simp [hn.1, hn.2.1, hn.2.2] at h
  rw [this]; rfl
 ·have : decide (1 <= k /\ k <= 9 /\ v.Kind = k) = true := by
   refine decide_eq_true ?_
   simp at h
   omega
  rw [this]; rfl
def accB (p : GPlan) (enum num : Int) : Bool :=
 if enum < 0 ∨ (p.Enums.length : Int) <= enum ∨ 2147483647 < num then false else (p.Enums[enum.toNat]?).any fun y => y.Open || y.Items.any fun it => decide (it.Num = num)
structure OkE (p : GPlan) : Prop where
 n : p.Enums.length <= 140737488351232
 i : ∀ y ∈ p.Enums, y.Items.length <= 140737488351232 /\ ∀ it ∈ y.Items, -9223372036854775808 <= it.Num /\ it.Num <= 9223372036854775807
def accF (num : Int) : GFn := ⟨87, [], [.elt [.v (.int .u64 num)] 0], by simp [plainL, plain]⟩
theorem acc_index (num : Int) (hn : 0 <= num /\ num <= 2147483647) (l : List GItem) (hl : l.length <= 140737488351232) (hi : ∀ it ∈ l, -9223372036854775808 <= it.Num /\ it.Num <= 9223372036854775807) : ∀ n i : Nat, l.length - i <= n -> i <= l.length ->
  ∃ r, slices_IndexFunc_LItem_Item_j2 i l (accF num) r /\ (0 <= r ↔ ∃ it ∈ l.drop i, it.Num = num) := by
 intro n
 induction n with
 | zero =>
  intro i h1 h2
  refine ⟨-1, slices_IndexFunc_LItem_Item_j2_step _ _ _ _ ⟨fun h => by simp only [decide_eq_true_eq] at h; omega, fun _ => rfl⟩, ?_⟩
  have : l.drop i = [] := List.drop_eq_nil_of_le (by omega)
  simp [this]
 | succ n ih =>
  intro i h1 h2
  rcases Nat.lt_or_ge i l.length with hlt | hge
  ·have hy : l[i]? = some l[i] := List.getElem?_eq_getElem hlt
   have hmem : l[i] ∈ l := List.getElem_mem hlt
   have hr := hi _ hmem
   have hd : l.drop i = l[i] :: l.drop (i + 1) := List.drop_eq_getElem_cons hlt
   have ht : ((i : Int)).toNat = i := by omega
   have hw : (wU (l[i]).Num == num) = decide ((l[i]).Num = num) := by
    rw [Bool.eq_iff_iff]
    simp only [beq_iff_eq, decide_eq_true_eq]
    rcases Int.lt_or_le (l[i]).Num 0 with h0 | h0
    ·rw [wU_neg ⟨hr.1, h0⟩]; omega
    ·have : wU (l[i]).Num = (l[i]).Num := wrapU (by omega)
     rw [this]
   have hc := plan_Accepts_1_clo l[i] num _ (plan_Accepts_1_step l[i] num _ rfl)
   by_cases he : (l[i]).Num = num
   ·refine ⟨i, slices_IndexFunc_LItem_Item_j2_step _ _ _ _ ⟨fun _ => ⟨l[i], by rw [ht]; exact hy, by omega, _, hc, fun _ => rfl, fun h => ?_⟩, fun h => by simp only [decide_eq_false_iff_not] at h; omega⟩, ?_⟩
    ·rw [hw, decide_eq_true he] at h; cases h
    ·rw [hd]
     exact ⟨fun _ => ⟨_, List.mem_cons_self, he⟩, fun _ => by omega⟩
   ·obtain ⟨r, hr1, hr2⟩ := ih (i + 1) (by omega) (by omega)
    refine ⟨r, slices_IndexFunc_LItem_Item_j2_step _ _ _ _ ⟨fun _ => ⟨l[i], by rw [ht]; exact hy, by omega, _, hc, fun h => ?_, fun _ => ?_⟩, fun h => by simp only [decide_eq_false_iff_not] at h; omega⟩, ?_⟩
    ·rw [hw, decide_eq_false he] at h; cases h
    ·rw [wI, wrapI (by omega)]; exact hr1
    ·rw [hr2, hd]
     exact ⟨fun ⟨it, k1, k2⟩ => ⟨it, List.mem_cons_of_mem _ k1, k2⟩, fun ⟨it, k1, k2⟩ => (List.mem_cons.1 k1).elim (fun e => (he (by rw [← e]; exact k2)).elim) fun k1 => ⟨it, k1, k2⟩⟩
  ·refine ⟨-1, slices_IndexFunc_LItem_Item_j2_step _ _ _ _ ⟨fun h => by simp only [decide_eq_true_eq] at h; omega, fun _ => rfl⟩, ?_⟩
   have : l.drop i = [] := List.drop_eq_nil_of_le (by omega)
   simp [this]
theorem accepts_is (p : GPlan) (hp : OkE p) (enum num : Int) (hn : 0 <= num) : plan_Accepts p enum num (accB p enum num) := by
 refine plan_Accepts_step _ _ _ _ ⟨fun h => ?_, fun h => ?_⟩
 ·rw [accB, if_pos]
  simp only [Bool.or_eq_true, decide_eq_true_eq] at h
  omega
 ·simp only [Bool.or_eq_false_iff, decide_eq_false_iff_not] at h
  have hlt : enum.toNat < p.Enums.length := by omega
  have hy : p.Enums[enum.toNat]? = some p.Enums[enum.toNat] := List.getElem?_eq_getElem hlt
  obtain ⟨hl, hi⟩ := hp.i _ (List.getElem_mem hlt)
  rw [accB, if_neg (by omega), hy]
  generalize p.Enums[enum.toNat] = y at *
  refine ⟨y, hy, by omega, fun h2 => by simp [h2], fun h2 => ?_⟩
  obtain ⟨r, hr1, hr2⟩ := acc_index num ⟨hn, by omega⟩ y.Items hl hi y.Items.length 0 (by omega) (by omega)
  refine ⟨_, slices_ContainsFunc_LItem_Item_step _ _ _ ⟨r, slices_IndexFunc_LItem_Item_step _ _ _ hr1, rfl⟩, ?_⟩
  simp only [h2, Option.any_some, Bool.false_or]
  rw [Bool.eq_iff_iff, decide_eq_true_eq, hr2, List.drop_zero, List.any_eq_true]
  simp
theorem racc_j (p : GPlan) (enum num : Int) (y : GEnum) (hy : p.Enums[enum.toNat]? = some y) (he : 0 <= enum) (hn : 0 <= num /\ num <= 2147483647) (hl : y.Items.length <= 140737488351232) : ∀ n i : Nat, ∀ b : Bool, y.Items.length - i <= n -> i <= y.Items.length -> ref22_Accepts_j2 i b enum num p (b || (y.Items.drop i).any fun it => decide (it.Num = num)) := by
 intro n
 induction n with
 | zero =>
  intro i b h1 h2
  refine ref22_Accepts_j2_step _ _ _ _ _ _ ⟨y, hy, he, fun h => by simp only [decide_eq_true_eq] at h; omega, fun _ => ?_⟩
  rw [List.drop_eq_nil_of_le (by omega)]; simp
 | succ n ih =>
  intro i b h1 h2
  refine ref22_Accepts_j2_step _ _ _ _ _ _ ⟨y, hy, he, fun h => ?_, fun h => ?_⟩
  ·simp only [decide_eq_true_eq] at h
   have hlt : i < y.Items.length := by omega
   have hd := List.drop_eq_getElem_cons hlt
   have ht : ((i : Int)).toNat = i := by omega
   have ei : wI ((i : Int) + 1) = ((i + 1 : Nat) : Int) := by rw [wI, wrapI (by omega)]; omega
   rw [ei]
   refine ⟨fun hb => ?_, fun hb => ⟨y, hy, he, y.Items[i], by rw [ht]; exact List.getElem?_eq_getElem hlt, by omega, ?_⟩⟩
   ·have := ih (i + 1) true (by omega) (by omega)
    rw [hb]; exact this
   ·have := ih (i + 1) (y.Items[i].Num == wI num) (by omega) (by omega)
    have ew : wI num = num := wrapI (by omega)
    rw [ew] at this ⊢
    rw [hb, hd]
    simp only [List.any_cons, Bool.false_or]
    exact this
  ·simp only [decide_eq_false_iff_not] at h
   rw [List.drop_eq_nil_of_le (by omega)]; simp
theorem raccepts_is (p : GPlan) (hp : OkE p) (enum num : Int) (hn : 0 <= num) : ref22_Accepts p enum num (accB p enum num) := by
 refine ref22_Accepts_step _ _ _ _ ⟨fun h => ?_, fun h => ?_⟩
 ·rw [accB, if_pos]
  simp only [Bool.or_eq_true, decide_eq_true_eq] at h
  omega
 ·simp only [Bool.or_eq_false_iff, decide_eq_false_iff_not] at h
  have hlt : enum.toNat < p.Enums.length := by omega
  have hy : p.Enums[enum.toNat]? = some p.Enums[enum.toNat] := List.getElem?_eq_getElem hlt
  obtain ⟨hl, hi⟩ := hp.i _ (List.getElem_mem hlt)
  rw [accB, if_neg (by omega), hy]
  generalize p.Enums[enum.toNat] = y at *
  have := racc_j p enum num y hy (by omega) ⟨hn, by omega⟩ hl y.Items.length 0 y.Open (by omega) (by omega)
  exact ⟨y, hy, by omega, this⟩
theorem byteN_left (a b : ByteArray) {j : Nat} (h : j < a.size) : byteN (a ++ b) j = byteN a j := by
 have h2 : j < a.data.size := h
 unfold byteN byteAt
 simp [ByteArray.data_append, List.getElem?_append_left (show j < a.data.toList.length by simpa using h2)]
theorem ba_size (a b : ByteArray) : (a ++ b).size = a.size + b.size := ByteArray.size_append
theorem fits_facts (v : GValue) (h : fitsV v.Kind v = true) : 1 <= v.Kind /\ v.Kind <= 9 /\ ((v.Kind = 7 ∨ v.Kind = 8) -> v.Bits = 0 /\ v.Text.size <= 4096 /\ (v.Kind = 7 -> validB v.Text = true)) /\ (¬ (v.Kind = 7 ∨ v.Kind = 8) -> withinB v.Kind v.Bits = true) := by
 unfold fitsV at h
 simp only [Bool.and_eq_true, decide_eq_true_eq] at h
 obtain ⟨⟨h1, _⟩, h2⟩ := h
 refine ⟨h1.1, h1.2.1, fun h3 => ?_, fun h3 => ?_⟩
 ·rw [if_pos h3] at h2
  simp only [Bool.and_eq_true, decide_eq_true_eq, Bool.or_eq_true, Bool.not_eq_true', decide_eq_false_iff_not] at h2
  exact ⟨h2.1.1, h2.1.2, fun h7 => by rcases h2.2 with h | h; exact absurd h7 h; exact h⟩
 ·rw [if_neg h3] at h2
  simp only [Bool.and_eq_true] at h2
  exact h2.2
def Ex {α : Type} (Q p : α -> Prop) : Prop := ∃ r, p r /\ Q r
section
variable {α β : Type} {Q : α -> Prop}
theorem ex_eq {e : α} (h : Q e) : Ex Q (fun r => r = e) := ⟨e, rfl, h⟩
theorem ex_if {c : Prop} [Decidable c] {p q : α -> Prop} (h1 : c -> Ex Q p) (h2 : ¬ c -> Ex Q q) : Ex Q (fun r => (decide c = true -> p r) /\ (decide c = false -> q r)) := by
 by_cases h : c
 ·obtain ⟨r, a, b⟩ := h1 h
  exact ⟨r, ⟨fun _ => a, fun h' => absurd h (of_decide_eq_false h')⟩, b⟩
 ·obtain ⟨r, a, b⟩ := h2 h
  exact ⟨r, ⟨fun h' => absurd (of_decide_eq_true h') h, fun _ => a⟩, b⟩
theorem ex_ne {c : Prop} [Decidable c] {p q : α -> Prop} (h1 : ¬ c -> Ex Q p) (h2 : c -> Ex Q q) : Ex Q (fun r => ((!decide c) = true -> p r) /\ ((!decide c) = false -> q r)) := by
 by_cases h : c
 ·obtain ⟨r, a, b⟩ := h2 h
  exact ⟨r, ⟨fun h' => by simp [h] at h', fun _ => a⟩, b⟩
 ·obtain ⟨r, a, b⟩ := h1 h
  exact ⟨r, ⟨fun _ => a, fun h' => by simp [h] at h'⟩, b⟩
theorem ex_cond (B : Bool) {p q : α -> Prop} (h1 : B = true -> Ex Q p) (h2 : B = false -> Ex Q q) : Ex Q (fun r => (B = true -> p r) /\ (B = false -> q r)) := by
 cases hB : B with
 | true => obtain ⟨r, a, b⟩ := h1 hB; exact ⟨r, ⟨fun _ => a, fun h => by cases h⟩, b⟩
 | false => obtain ⟨r, a, b⟩ := h2 hB; exact ⟨r, ⟨fun h => (by cases h), fun _ => a⟩, b⟩
theorem ex_call {F : β -> Prop} {G : β -> α -> Prop} {S : β -> Prop} (h : Ex S F) (k : ∀ y, S y -> Ex Q (G y)) : Ex Q (fun r => ∃ y, F y /\ G y r) := by
 obtain ⟨y, hy, hs⟩ := h
 obtain ⟨r, a, b⟩ := k y hs
 exact ⟨r, ⟨y, hy, a⟩, b⟩
theorem ex_val {F : β -> Prop} {G : β -> α -> Prop} {v : β} (h : F v) (k : Ex Q (G v)) : Ex Q (fun r => ∃ y, F y /\ G y r) := by
 obtain ⟨r, a, b⟩ := k
 exact ⟨r, ⟨v, h, a⟩, b⟩
theorem ex_idx {l : List β} {i : Int} {G : β -> α -> Prop} (h : 0 <= i /\ i < l.length) (k : ∀ y, l[i.toNat]? = some y -> y ∈ l -> Ex Q (G y)) : Ex Q (fun r => ∃ y, l[i.toNat]? = some y /\ 0 <= i /\ G y r) := by
 have hlt : i.toNat < l.length := by omega
 have he := List.getElem?_eq_getElem hlt
 obtain ⟨r, a, b⟩ := k _ he (List.getElem_mem hlt)
 exact ⟨r, ⟨_, he, h.1, a⟩, b⟩
theorem ex_at {l : List β} {i : Int} {G : β -> α -> Prop} (y : β) (hy : l[i.toNat]? = some y) (h : 0 <= i) (k : Ex Q (G y)) : Ex Q (fun r => ∃ y, l[i.toNat]? = some y /\ 0 <= i /\ G y r) := by
 obtain ⟨r, a, b⟩ := k
 exact ⟨r, ⟨y, hy, h, a⟩, b⟩
theorem ex_and {A : Prop} {G : α -> Prop} (h : A) (k : Ex Q G) : Ex Q (fun r => A /\ G r) := by
 obtain ⟨r, a, b⟩ := k
 exact ⟨r, ⟨h, a⟩, b⟩
theorem ex_join {G : β -> α -> Prop} {H : (β -> Prop) -> α -> Prop} (k : Ex Q (fun r => H (fun z => G z r) r)) : Ex Q (fun r => ∃ R : β -> Prop, (∀ z, R z -> G z r) /\ H R r) := by
 obtain ⟨r, a, b⟩ := k
 exact ⟨r, ⟨fun z => G z r, fun z h => h, a⟩, b⟩
theorem ex_step {p F : α -> Prop} (h : ∀ r, p r -> F r) (k : Ex Q p) : Ex Q F := by
 obtain ⟨r, a, b⟩ := k
 exact ⟨r, h r a, b⟩
theorem ex_mono {p : α -> Prop} {S : α -> Prop} (h : Ex S p) (k : ∀ r, S r -> Q r) : Ex Q p := by
 obtain ⟨r, a, b⟩ := h
 exact ⟨r, a, k r b⟩
theorem Ex.to {p : α -> Prop} (h : Ex Q p) : ∃ r, p r /\ Q r := h
end
theorem upn {T : Nat -> Prop} (n : Nat) (step : ∀ i, i < n -> T (i + 1) -> T i) (fin : ∀ i, n <= i -> T i) : ∀ i, T i := by
 have : ∀ k i, n - i <= k -> T i := by
  intro k
  induction k with
  | zero => exact fun i h => fin i (by omega)
  | succ k ih =>
   intro i h
   rcases Nat.lt_or_ge i n with h1 | h1
   ·exact step i h1 (ih (i + 1) (by omega))
   ·exact fin i h1
 exact fun i => this (n - i) i (Nat.le_refl _)
theorem wI_up {i : Nat} (h : i <= 4611686018427387904) : wI ((i : Int) + 1) = ((i + 1 : Nat) : Int) := by rw [wI, wrapI (by omega)]; omega
theorem wI_dn {i : Nat} (h : 0 < i /\ i <= 4611686018427387904) : wI ((i : Int) - 1) = ((i - 1 : Nat) : Int) := by rw [wI, wrapI (by omega)]; omega
def yes {α : Type} : α -> Prop := fun _ => True
theorem t_small (b : Int) : Ex yes (ref06_small b) := ex_step (ref06_small_step _) (ex_eq trivial)
theorem t_capital (b : Int) : Ex yes (ref06_capital b) := ex_step (ref06_capital_step _) (ex_eq trivial)
theorem t_part_j (s : ByteArray) (hs : s.size <= 140737488351232) : ∀ i : Nat, Ex yes (ref06_IsPart_j2 (i : Int) s) := by
 refine upn (s.size) (fun i hi ih => ?_) (fun i hi => ?_)
 ·refine ex_step (ref06_IsPart_j2_step _ _) ?_
  rw [wI_up (by omega)]
  repeat' first | exact ex_eq trivial | exact ih | assumption | refine ex_join ?_ | refine ex_if (fun h => ?_) (fun h => ?_) | refine ex_ne (fun h => ?_) (fun h => ?_) | refine ex_cond _ (fun h => ?_) (fun h => ?_) | refine ex_idx (by omega) (fun y hy hm => ?_) | refine ex_and (by omega) ?_ | refine ex_call (t_small _) (fun y hq => ?_) | refine ex_call (t_capital _) (fun y hq => ?_)
 ·refine ex_step (ref06_IsPart_j2_step _ _) ?_
  repeat' first | exact ex_eq trivial | exact ih | assumption | exact absurd ‹_› (by omega) | (exfalso; omega) | refine ex_join ?_ | refine ex_if (fun h => ?_) (fun h => ?_) | refine ex_ne (fun h => ?_) (fun h => ?_) | refine ex_cond _ (fun h => ?_) (fun h => ?_) | refine ex_idx (by omega) (fun y hy hm => ?_) | refine ex_and (by omega) ?_ | refine ex_call (t_small _) (fun y hq => ?_) | refine ex_call (t_capital _) (fun y hq => ?_)
theorem t_part (s : ByteArray) (hs : s.size <= 140737488351232) : Ex yes (ref06_IsPart s) := by
 refine ex_step (ref06_IsPart_step _) ?_
 repeat' first | exact ex_eq trivial | exact ih | assumption | exact t_part_j s hs 1 | refine ex_join ?_ | refine ex_if (fun h => ?_) (fun h => ?_) | refine ex_ne (fun h => ?_) (fun h => ?_) | refine ex_cond _ (fun h => ?_) (fun h => ?_) | refine ex_idx (by first | omega | (simp only [Bool.or_eq_false_iff, Bool.or_eq_true, Bool.and_eq_true, Bool.and_eq_false_iff, beq_iff_eq, beq_eq_false_iff_ne, decide_eq_false_iff_not, decide_eq_true_eq, ne_eq] at *; omega)) (fun y hy hm => ?_) | refine ex_and (by first | omega | (simp only [Bool.or_eq_false_iff, Bool.or_eq_true, Bool.and_eq_true, Bool.and_eq_false_iff, beq_iff_eq, beq_eq_false_iff_ne, decide_eq_false_iff_not, decide_eq_true_eq, ne_eq] at *; omega)) ?_ | refine ex_call (t_small _) (fun y hq => ?_) | refine ex_call (t_capital _) (fun y hq => ?_)
theorem t_word (s : ByteArray) : Ex yes (ref06_IsWord s) := by
 refine ex_step (ref06_IsWord_step _) ?_
 repeat' first | exact ex_eq trivial | exact ih | assumption | refine ex_join ?_ | refine ex_if (fun h => ?_) (fun h => ?_) | refine ex_ne (fun h => ?_) (fun h => ?_) | refine ex_cond _ (fun h => ?_) (fun h => ?_) | refine ex_idx (by omega) (fun y hy hm => ?_) | refine ex_and (by omega) ?_
theorem t_full_j (s : ByteArray) (hs : s.size <= 140737488351232) : ∀ i : Nat, ∀ w : ByteArray, w.size <= i /\ i <= 140737488351232 -> Ex yes (ref06_IsFull_j2 (i : Int) w s) := by
 refine upn s.size (fun i hi ih w hw => ?_) (fun i hi w hw => ?_)
 ·have hz : (s.extract ((i : Int)).toNat (((i + 1 : Nat) : Int)).toNat).size <= 1 := by rw [size_cut _ (by omega)]; omega
  refine ex_step (ref06_IsFull_j2_step _ _ _) ?_
  rw [wI_up (by omega)]
  repeat' first | exact ex_eq trivial | exact ih | assumption | exact ih _ (by rw [ba_size]; omega) | exact ih ⟨#[]⟩ ⟨Nat.zero_le _, by omega⟩ | refine ex_join ?_ | refine ex_if (fun h => ?_) (fun h => ?_) | refine ex_ne (fun h => ?_) (fun h => ?_) | refine ex_cond _ (fun h => ?_) (fun h => ?_) | refine ex_idx (by omega) (fun y hy hm => ?_) | refine ex_and (by omega) ?_ | refine ex_call (t_part _ (by omega)) (fun y hq => ?_)
 ·refine ex_step (ref06_IsFull_j2_step _ _ _) ?_
  repeat' first | exact ex_eq trivial | exact ih | assumption | exact absurd ‹_› (by omega) | refine ex_join ?_ | refine ex_if (fun h => ?_) (fun h => ?_) | refine ex_ne (fun h => ?_) (fun h => ?_) | refine ex_cond _ (fun h => ?_) (fun h => ?_) | refine ex_idx (by omega) (fun y hy hm => ?_) | refine ex_and (by omega) ?_ | refine ex_call (t_part _ (by omega)) (fun y hq => ?_)
theorem t_full (s : ByteArray) (hs : s.size <= 140737488351232) : Ex yes (ref06_IsFull s) := by
 refine ex_step (ref06_IsFull_step _) ?_
 repeat' first | exact ex_eq trivial | exact ih | assumption | exact t_full_j s hs 0 ⟨#[]⟩ ⟨Nat.zero_le _, by omega⟩ | refine ex_join ?_ | refine ex_if (fun h => ?_) (fun h => ?_) | refine ex_ne (fun h => ?_) (fun h => ?_) | refine ex_cond _ (fun h => ?_) (fun h => ?_) | refine ex_idx (by omega) (fun y hy hm => ?_) | refine ex_and (by omega) ?_
def splitQ (s : ByteArray) (r : ByteArray × ByteArray) : Prop := r.1.size <= s.size - 1
theorem t_split_j (s : ByteArray) (hs : s.size <= 140737488351232) : ∀ k : Nat, k <= s.size -> Ex (splitQ s) (ref06_Split_j2 ((k : Int) - 1) s) := by
 intro k
 induction k with
 | zero => exact fun _ => ex_step (ref06_Split_j2_step _ _) (ex_if (fun h => absurd h (by omega)) fun _ => ex_eq (Nat.zero_le _))
 | succ k ih =>
  intro hk
  have e : wI (((k + 1 : Nat) : Int) - 1 - 1) = (k : Int) - 1 := by rw [wI, wrapI (by omega)]; omega
  refine ex_step (ref06_Split_j2_step _ _) ?_
  rw [e]
  refine ex_if (fun h => ex_and (by omega) (ex_cond _ (fun _ => ex_and (by omega) (ex_and ?_ (ex_eq ?_))) fun _ => ih (by omega))) fun h => absurd (show (0 : Int) <= ((k + 1 : Nat) : Int) - 1 by omega) h
  ·rw [wI, wrapI (by omega)]; omega
  ·unfold splitQ; simp only; rw [size_cut _ (by omega)]; omega
theorem t_split (s : ByteArray) (hs : s.size <= 140737488351232) : Ex (splitQ s) (ref06_Split s) := by
 refine ex_step (ref06_Split_step _) ?_
 rw [wI, wrapI (by omega)]
 exact t_split_j s hs s.size (Nat.le_refl _)
theorem size0 {s : ByteArray} (h : s.size = 0) : s = ⟨#[]⟩ := ByteArray.ext (Array.eq_empty_of_size_eq_zero h)
theorem t_defined_j : ∀ n : Nat, ∀ s : ByteArray, s.size <= n -> n <= 140737488351232 -> Ex yes (ref22_defined_j2 s) := by
 intro n
 induction n with
 | zero =>
  intro s h _
  refine ex_step (ref22_defined_j2_step _) (ex_ne (fun h0 => ?_) fun _ => ex_eq trivial)
  exact absurd (size0 (by omega)) h0
 | succ n ih =>
  intro s h hn
  refine ex_step (ref22_defined_j2_step _) (ex_ne (fun h0 => ?_) fun _ => ex_eq trivial)
  refine ex_call (t_split s (by omega)) fun y hy => ex_call (t_word _) fun y2 _ => ex_cond _ (fun _ => ex_eq trivial) fun _ => ?_
  unfold splitQ at hy
  exact ih _ (by omega) (by omega)
theorem t_defined (s : ByteArray) (hs : s.size <= 140737488351232) : Ex yes (ref22_defined s) := by
 refine ex_step (ref22_defined_step _) ?_
 repeat' first | exact ex_eq trivial | exact ih | assumption | exact t_defined_j _ s (Nat.le_refl _) hs | refine ex_join ?_ | refine ex_if (fun h => ?_) (fun h => ?_) | refine ex_ne (fun h => ?_) (fun h => ?_) | refine ex_cond _ (fun h => ?_) (fun h => ?_) | refine ex_idx (by omega) (fun y hy hm => ?_) | refine ex_and (by omega) ?_ | refine ex_call (t_full s hs) (fun y hq => ?_)
section
open Go.RowKit Go.ChangeShapes Go.WideShapes Go.ChangeAt
def TyV (P : Program) (n : Nat) (t : TypeId) (av : AV) : Prop :=
 match P.underlying t with
 | some (.struct _) | some (.array _ _) => ∃ avs, av = .agg avs /\ Ty P n t avs
 | _ => Ty P n t [av]
theorem cells_agg {σ : Sg} {avs : List AV} {cs : Array Value} (h : Cells σ avs cs.toList) : Rel σ (.agg avs) (.agg cs) := by
 refine .agg avs cs (by simpa using h.1) (fun i av hi => (h.2 i av hi).1) (fun i => cs.toList[i]?.getD (.bool false)) (fun i av hi => ?_) (fun i av hi => ?_)
 ·obtain ⟨_, x, hx, _⟩ := h.2 i av hi
  rw [hx]; simpa using hx
 ·obtain ⟨_, x, hx, hr⟩ := h.2 i av hi
  rw [hx]; exact hr
theorem cells_one {σ : Sg} {av : AV} {v : Value} (h : Cells σ [av] v.cells.toList) (hv : ∀ cs, v ≠ .agg cs) : Rel σ av v := by
 obtain ⟨_, x, hx, hr⟩ := h.2 0 av rfl
 cases v with
 | agg cs => exact absurd rfl (hv cs)
 | _ => simp [Value.cells] at hx; subst hx; exact hr
section
variable {H : Type} {enc : TypeId × Value -> H} {P : Program} {W : World} {base b0 : Nat} {spare : Nat -> Bool} {held : Bool}
end
def typesIn (P : Program) (t : TypeId) : List TypeId :=
 match P.underlying t with
 | some (.slice e) => [e]
 | some (.struct fs) => fs.toList.map (·.type)
 | some (.array _ e) => [e]
 | _ => []
def typesAdd : List TypeId -> List TypeId -> List TypeId
 | l, [] => l
 | l, t :: r => typesAdd (if l.contains t then l else l ++ [t]) r
def typesFrom (P : Program) : Nat -> List TypeId -> List TypeId
 | 0, l => l
 | n + 1, l => typesFrom P n (typesAdd l (l.flatMap (typesIn P)))
theorem rels_nil' (σ : Sg) : Rels σ [] [] := ⟨rfl, fun i av h => by simp at h⟩
theorem rels_cons' {σ : Sg} {a : AV} {v : Value} {l : List AV} {xs : List Value} (h : Rel σ a v) (hr : Rels σ l xs) : Rels σ (a :: l) (v :: xs) := by
 refine ⟨by simp [hr.1], fun i av hi => ?_⟩
 cases i with
 | zero => simp at hi; subst hi; exact ⟨v, rfl, h⟩
 | succ i => obtain ⟨x, h1, h2⟩ := hr.2 i av (by simpa using hi); exact ⟨x, by simpa using h1, h2⟩
theorem nz_true {av : AV} (h : nz av = .v (.bool true)) : av = .v (.bool true) := by
 cases av with
 | v x => simpa [nz, nzA, nz1] using h
 | _ => simp [nz, nzA, nz1] at h
end
def I64 (n : Int) : Prop := -9223372036854775808 <= n /\ n <= 9223372036854775807
def U64 (n : Int) : Prop := 0 <= n /\ n < 18446744073709551616
def Sz (n : Nat) : Prop := n <= 140737488351232
structure OkRaw (x : GRaw) : Prop where
 num : I64 x.Num
 wire : I64 x.Wire
 bits : U64 x.Bits
 data : Sz x.Data.size
inductive OkD : GValue -> Prop
 | mk (v : GValue) (k : I64 v.Kind) (b : U64 v.Bits) (t : Sz v.Text.size) (l : Sz v.List_.length) (p : Sz v.Pairs.length) (s : Sz v.Slots.length) (r : Sz v.Raws.length)
   (hl : ∀ x ∈ v.List_, OkD x) (hk : ∀ x ∈ v.Pairs, OkD x.1) (hv : ∀ x ∈ v.Pairs, OkD x.2) (hn : ∀ x ∈ v.Slots, I64 x.1) (hs : ∀ x ∈ v.Slots, OkD x.2) (hr : ∀ x ∈ v.Raws, OkRaw x) (w : Sz (v.List_.length * 128) /\ Sz (v.Pairs.length * 256) /\ Sz (v.Slots.length * 136) /\ Sz (v.Raws.length * 40)) : OkD v
section
variable {P : Program} {n : Nat} {t : TypeId} {avs : List AV}
def TyL (P : Program) (m : Nat) : List TypeId -> List AV -> Prop
 | [], avs => avs = []
 | t :: ts, avs => ∃ a b, avs = a ++ b /\ Ty P m t a /\ TyL P m ts b
theorem tyL_of {m : Nat} : ∀ (fs : List Field) (parts : List (List AV)), parts.length = fs.length -> (∀ (i : Nat) (f : Field), fs[i]? = some f -> ∃ p, parts[i]? = some p /\ Ty P m f.type p) -> TyL P m (fs.map (·.type)) parts.flatten
 | [], [], _, _ => rfl
 | [], _ :: _, h, _ => by cases h
 | _ :: _, [], h, _ => by cases h
 | f :: fs, p :: parts, hl, h => by
  obtain ⟨q, hq, hty⟩ := h 0 f rfl
  cases hq
  exact ⟨p, parts.flatten, by simp, hty, tyL_of fs parts (by simpa using hl) fun i g hg => h (i + 1) g (by simpa using hg)⟩
def fieldTypes (P : Program) (t : TypeId) : Option (List TypeId) := match P.underlying t with | some (.struct fs) => some (fs.toList.map (·.type)) | _ => none
theorem ty_st {ts : List TypeId} (hu : fieldTypes P t = some ts) (h : Ty P n t avs) : ∃ m, n = m + 1 /\ TyL P m ts avs := by
 cases n with
 | zero => exact absurd h (by unfold Ty; exact id)
 | succ m =>
  unfold fieldTypes at hu
  unfold Ty at h
  split at hu
  ·rename_i fs hfs
   rw [hfs] at h
   obtain ⟨parts, rfl, hl, hp⟩ := h
   cases hu
   exact ⟨m, rfl, tyL_of fs.toList parts (by simpa using hl) (fun i f hf => hp i f (by simpa using hf))⟩
  ·cases hu
theorem ty_int {k : IntKind} (hu : P.underlying t = some (.int k)) (h : Ty P n t avs) : ∃ m, avs = [.v (.int k m)] /\ (Lit.int k m).wf = true := by
 cases n with
 | zero => exact absurd h (by unfold Ty; exact id)
 | succ m => unfold Ty at h; rw [hu] at h; exact h
theorem ty_i64 (hu : P.underlying t = some (.int .i64)) (h : Ty P n t avs) : ∃ m, avs = [.v (.int .i64 m)] /\ I64 m := by
 obtain ⟨m, h1, h2⟩ := ty_int hu h
 refine ⟨m, h1, ?_⟩
 simp only [Lit.wf, Bool.and_eq_true, decide_eq_true_eq] at h2
 exact h2
theorem ty_u64 (hu : P.underlying t = some (.int .u64)) (h : Ty P n t avs) : ∃ m, avs = [.v (.int .u64 m)] /\ U64 m := by
 obtain ⟨m, h1, h2⟩ := ty_int hu h
 refine ⟨m, h1, ?_⟩
 simp only [Lit.wf, Bool.and_eq_true, decide_eq_true_eq] at h2
 have e1 : IntKind.u64.min = 0 := by decide
 have e2 : IntKind.u64.max = 18446744073709551615 := by decide
 unfold U64
 omega
theorem ty_bool (hu : P.underlying t = some .bool) (h : Ty P n t avs) : ∃ b, avs = [.v (.bool b)] := by
 cases n with
 | zero => exact absurd h (by unfold Ty; exact id)
 | succ m => unfold Ty at h; rw [hu] at h; exact h
theorem ty_str (hu : P.underlying t = some .string) (h : Ty P n t avs) : ∃ s : ByteArray, avs = [.v (.string s)] /\ Sz s.size := by
 cases n with
 | zero => exact absurd h (by unfold Ty; exact id)
 | succ m => unfold Ty at h; rw [hu] at h; exact h
theorem ty_slw {e : TypeId} {G : Type} {enc : G -> List AV} {Ok : G -> Prop} (hu : P.underlying t = some (.slice e)) {w : Nat} (hw : P.bytesOf e = w) (hb : 1 <= P.bytesOf e) (hel : ∀ m avs, m < n -> Ty P m e avs -> ∃ x, avs = enc x /\ Ok x) (h : Ty P n t avs) : ∃ l : List G, avs = [.sl (l.map enc) .no] /\ (Sz l.length /\ Sz (l.length * w)) /\ ∀ x ∈ l, Ok x := by
 cases n with
 | zero => exact absurd h (by unfold Ty; exact id)
 | succ m =>
  unfold Ty at h; rw [hu] at h
  obtain ⟨els, rfl, hl, hty⟩ := h
  have hn : els.length <= 140737488351232 := Nat.le_trans (Nat.le_mul_of_pos_right _ hb) hl
  have : ∀ els : List (List AV), (∀ el ∈ els, Ty P m e el) -> ∃ l : List G, els = l.map enc /\ ∀ x ∈ l, Ok x := by
   intro els
   induction els with
   | nil => exact fun _ => ⟨[], rfl, fun x h => by cases h⟩
   | cons a els ih =>
    intro h
    obtain ⟨l, rfl, hl⟩ := ih fun el hel => h el (List.mem_cons_of_mem _ hel)
    obtain ⟨x, rfl, hx⟩ := hel m a (Nat.lt_succ_self m) (h a List.mem_cons_self)
    exact ⟨x :: l, rfl, fun y hy => (List.mem_cons.1 hy).elim (fun e => e ▸ hx) (hl y)⟩
  obtain ⟨l, rfl, hok⟩ := this els hty
  exact ⟨l, rfl, ⟨by simpa [Sz] using hn, by subst hw; simpa [Sz] using hl⟩, hok⟩
theorem ty_sl {e : TypeId} {G : Type} {enc : G -> List AV} {Ok : G -> Prop} (hu : P.underlying t = some (.slice e)) (hb : 1 <= P.bytesOf e) (hel : ∀ m avs, m < n -> Ty P m e avs -> ∃ x, avs = enc x /\ Ok x) (h : Ty P n t avs) : ∃ l : List G, avs = [.sl (l.map enc) .no] /\ Sz l.length /\ ∀ x ∈ l, Ok x := by
 obtain ⟨l, h1, h2, h3⟩ := ty_slw hu rfl hb hel h
 exact ⟨l, h1, h2.1, h3⟩
theorem tyV_st {av : AV} {ts : List TypeId} (hu : fieldTypes P t = some ts) (h : TyV P n t av) : ∃ avs, av = .agg avs /\ Ty P n t avs := by
 unfold TyV at h
 unfold fieldTypes at hu
 split at hu
 ·rename_i fs hfs; rw [hfs] at h; exact h
 ·cases hu
end
section
variable {n : Nat} {avs : List AV} {av : AV}
theorem op_raw (h : Ty Tryz.prog n 102 avs) : ∃ x, avs = eGRaw x /\ OkRaw x := by
 obtain ⟨m, rfl, a1, b1, rfl, h1, a2, b2, rfl, h2, a3, b3, rfl, h3, a4, b4, rfl, h4, rfl⟩ := ty_st (ts := [3, 3, 26, 9]) (by kernel_rfl) h
 obtain ⟨x1, rfl, k1⟩ := ty_i64 (by kernel_rfl) h1
 obtain ⟨x2, rfl, k2⟩ := ty_i64 (by kernel_rfl) h2
 obtain ⟨x3, rfl, k3⟩ := ty_u64 (by kernel_rfl) h3
 obtain ⟨x4, rfl, k4⟩ := ty_str (by kernel_rfl) h4
 exact ⟨⟨x1, x2, x3, x4⟩, rfl, ⟨k1, k2, k3, k4⟩⟩
theorem op_value : ∀ (n : Nat) (avs : List AV), Ty Tryz.prog n 32 avs -> ∃ x, avs = eGValue' x /\ OkD x := by
 intro n
 induction n using Nat.strongRecOn with
 | _ n ih =>
  intro avs h
  obtain ⟨m, rfl, a1, b1, rfl, h1, a2, b2, rfl, h2, a3, b3, rfl, h3, a4, b4, rfl, h4, a5, b5, rfl, h5, a6, b6, rfl, h6, a7, b7, rfl, h7, rfl⟩ := ty_st (ts := [3, 26, 9, 27, 28, 29, 30]) (by kernel_rfl) h
  obtain ⟨x1, rfl, k1⟩ := ty_i64 (by kernel_rfl) h1
  obtain ⟨x2, rfl, k2⟩ := ty_u64 (by kernel_rfl) h2
  obtain ⟨x3, rfl, k3⟩ := ty_str (by kernel_rfl) h3
  obtain ⟨x4, rfl, ⟨n4, w4⟩, k4⟩ := ty_slw (w := 128) (e := 32) (enc := eGValue') (Ok := OkD) (by kernel_rfl) (by kernel_rfl) (of_decide_eq_true (by kernel_rfl)) (fun k a hk ha => ih k (by omega) a ha) h4
  obtain ⟨x5, rfl, ⟨n5, w5⟩, k5⟩ := ty_slw (w := 256) (e := 100) (enc := eGPair') (Ok := fun x => OkD x.1 /\ OkD x.2) (by kernel_rfl) (by kernel_rfl) (of_decide_eq_true (by kernel_rfl)) (fun k a hk ha => by
   obtain ⟨q, rfl, a1, b1, rfl, h1, a2, b2, rfl, h2, rfl⟩ := ty_st (ts := [32, 32]) (by kernel_rfl) ha
   obtain ⟨y1, rfl, z1⟩ := ih q (by omega) _ h1
   obtain ⟨y2, rfl, z2⟩ := ih q (by omega) _ h2
   exact ⟨(y1, y2), by simp [eGPair'], z1, z2⟩) h5
  obtain ⟨x6, rfl, ⟨n6, w6⟩, k6⟩ := ty_slw (w := 136) (e := 52) (enc := eGSlot') (Ok := fun x => I64 x.1 /\ OkD x.2) (by kernel_rfl) (by kernel_rfl) (of_decide_eq_true (by kernel_rfl)) (fun k a hk ha => by
   obtain ⟨q, rfl, a1, b1, rfl, h1, a2, b2, rfl, h2, rfl⟩ := ty_st (ts := [3, 32]) (by kernel_rfl) ha
   obtain ⟨y1, rfl, z1⟩ := ty_i64 (by kernel_rfl) h1
   obtain ⟨y2, rfl, z2⟩ := ih q (by omega) _ h2
   exact ⟨(y1, y2), by simp [eGSlot'], z1, z2⟩) h6
  obtain ⟨x7, rfl, ⟨n7, w7⟩, k7⟩ := ty_slw (w := 40) (e := 102) (enc := eGRaw) (Ok := OkRaw) (by kernel_rfl) (by kernel_rfl) (of_decide_eq_true (by kernel_rfl)) (fun k a hk ha => op_raw ha) h7
  refine ⟨⟨x1, x2, x3, x4, x5, x6, x7⟩, ?_, .mk _ k1 k2 k3 n4 n5 n6 n7 k4 (fun x hx => (k5 x hx).1) (fun x hx => (k5 x hx).2) (fun x hx => (k6 x hx).1) (fun x hx => (k6 x hx).2) k7 ⟨w4, w5, w6, w7⟩⟩
  rw [eGValue'_eq]; rfl
theorem ar_V (h : TyV Tryz.prog n 32 av) : ∃ x, av = .agg (eGValue x) /\ OkD x := by
 obtain ⟨avs, rfl, g⟩ := tyV_st (ts := [3, 26, 9, 27, 28, 29, 30]) (by kernel_rfl) h
 obtain ⟨x, rfl, k⟩ := op_value _ _ g
 exact ⟨x, by rw [eGValue'_eq], k⟩
theorem ar_s (h : TyV Tryz.prog n 9 av) : ∃ x : ByteArray, av = .v (.string x) /\ Sz x.size := by
 have hu : Tryz.prog.underlying 9 = some .string := by kernel_rfl
 unfold TyV at h; rw [hu] at h
 obtain ⟨x, hx, k⟩ := ty_str hu h
 exact ⟨x, by simpa using hx, k⟩
end
structure OkOp (o : GOp) : Prop where
 num : I64 o.Num
 name : Sz o.Name.size
 alias_ : Sz o.Alias.size
 card : I64 o.Card
 key : I64 o.Key
 kind : I64 o.Kind
 target : I64 o.Target
 union : I64 o.Union
structure OkProg (g : GProg) : Prop where
 name : Sz g.Name.size
 n : Sz g.Ops.length
 ops : ∀ o ∈ g.Ops, OkOp o
 unions : I64 g.Unions
structure OkNote (n : GNote) : Prop where
 name : Sz n.Name.size
 val : OkD n.Val
structure OkItem (x : GItem) : Prop where
 name : Sz x.Name.size
 num : I64 x.Num
 nn : Sz x.Notes.length
 notes : ∀ n ∈ x.Notes, OkNote n
structure OkSpan (x : GSpan) : Prop where
 from_ : I64 x.From
 to_ : I64 x.To
structure OkEnum (e : GEnum) : Prop where
 name : Sz e.Name.size
 ni : Sz e.Items.length
 items : ∀ x ∈ e.Items, OkItem x
 nr : Sz e.Reserved.length
 reserved : ∀ x ∈ e.Reserved, OkSpan x
 nn : Sz e.Notes.length
 notes : ∀ x ∈ e.Notes, OkNote x
structure OkPlan (p : GPlan) : Prop where
 np : Sz p.Progs.length
 progs : ∀ g ∈ p.Progs, OkProg g
 ne : Sz p.Enums.length
 enums : ∀ e ∈ p.Enums, OkEnum e
section
variable {n : Nat} {avs : List AV} {av : AV}
theorem op_note (h : Ty Tryz.prog n 107 avs) : ∃ x, avs = eGNote x /\ OkNote x := by
 obtain ⟨m, rfl, a1, b1, rfl, h1, a2, b2, rfl, h2, rfl⟩ := ty_st (ts := [9, 32]) (by kernel_rfl) h
 obtain ⟨x1, rfl, k1⟩ := ty_str (by kernel_rfl) h1
 obtain ⟨x2, rfl, k2⟩ := op_value _ _ h2
 exact ⟨⟨x1, x2⟩, by rw [eGValue'_eq]; rfl, ⟨k1, k2⟩⟩
theorem op_notes {t : TypeId} (hu : Tryz.prog.underlying t = some (.slice 107)) (h : Ty Tryz.prog n t avs) : ∃ l : List GNote, avs = [.sl (l.map eGNote) .no] /\ Sz l.length /\ ∀ x ∈ l, OkNote x := ty_sl hu (of_decide_eq_true (by kernel_rfl)) (fun k a hk ha => op_note ha) h
theorem op_item (h : Ty Tryz.prog n 85 avs) : ∃ x, avs = eGItem x /\ OkItem x := by
 obtain ⟨m, rfl, a1, b1, rfl, h1, a2, b2, rfl, h2, a3, b3, rfl, h3, rfl⟩ := ty_st (ts := [9, 3, 83]) (by kernel_rfl) h
 obtain ⟨x1, rfl, k1⟩ := ty_str (by kernel_rfl) h1
 obtain ⟨x2, rfl, k2⟩ := ty_i64 (by kernel_rfl) h2
 obtain ⟨x3, rfl, n3, k3⟩ := op_notes (by kernel_rfl) h3
 exact ⟨⟨x1, x2, x3⟩, rfl, ⟨k1, k2, n3, k3⟩⟩
theorem op_span (h : Ty Tryz.prog n 105 avs) : ∃ x, avs = eGSpan x /\ OkSpan x := by
 obtain ⟨m, rfl, a1, b1, rfl, h1, a2, b2, rfl, h2, rfl⟩ := ty_st (ts := [3, 3]) (by kernel_rfl) h
 obtain ⟨x1, rfl, k1⟩ := ty_i64 (by kernel_rfl) h1
 obtain ⟨x2, rfl, k2⟩ := ty_i64 (by kernel_rfl) h2
 exact ⟨⟨x1, x2⟩, rfl, ⟨k1, k2⟩⟩
theorem op_enum (h : Ty Tryz.prog n 95 avs) : ∃ x, avs = eGEnum x /\ OkEnum x := by
 obtain ⟨m, rfl, a1, b1, rfl, h1, a2, b2, rfl, h2, a3, b3, rfl, h3, a4, b4, rfl, h4, a5, b5, rfl, h5, rfl⟩ := ty_st (ts := [9, 4, 92, 93, 83]) (by kernel_rfl) h
 obtain ⟨x1, rfl, k1⟩ := ty_str (by kernel_rfl) h1
 obtain ⟨x2, rfl⟩ := ty_bool (by kernel_rfl) h2
 obtain ⟨x3, rfl, n3, k3⟩ := ty_sl (e := 85) (enc := eGItem) (Ok := OkItem) (by kernel_rfl) (of_decide_eq_true (by kernel_rfl)) (fun k a hk ha => op_item ha) h3
 obtain ⟨x4, rfl, n4, k4⟩ := ty_sl (e := 105) (enc := eGSpan) (Ok := OkSpan) (by kernel_rfl) (of_decide_eq_true (by kernel_rfl)) (fun k a hk ha => op_span ha) h4
 obtain ⟨x5, rfl, n5, k5⟩ := op_notes (by kernel_rfl) h5
 exact ⟨⟨x1, x2, x3, x4, x5⟩, rfl, ⟨k1, n3, k3, n4, k4, n5, k5⟩⟩
theorem op_op (h : Ty Tryz.prog n 40 avs) : ∃ x, avs = eGOp x /\ OkOp x := by
 obtain ⟨m, rfl, a1, b1, rfl, h1, a2, b2, rfl, h2, a3, b3, rfl, h3, a4, b4, rfl, h4, a5, b5, rfl, h5, a6, b6, rfl, h6, a7, b7, rfl, h7, a8, b8, rfl, h8, rfl⟩ := ty_st (ts := [3, 9, 9, 3, 3, 3, 3, 3]) (by kernel_rfl) h
 obtain ⟨x1, rfl, k1⟩ := ty_i64 (by kernel_rfl) h1
 obtain ⟨x2, rfl, k2⟩ := ty_str (by kernel_rfl) h2
 obtain ⟨x3, rfl, k3⟩ := ty_str (by kernel_rfl) h3
 obtain ⟨x4, rfl, k4⟩ := ty_i64 (by kernel_rfl) h4
 obtain ⟨x5, rfl, k5⟩ := ty_i64 (by kernel_rfl) h5
 obtain ⟨x6, rfl, k6⟩ := ty_i64 (by kernel_rfl) h6
 obtain ⟨x7, rfl, k7⟩ := ty_i64 (by kernel_rfl) h7
 obtain ⟨x8, rfl, k8⟩ := ty_i64 (by kernel_rfl) h8
 exact ⟨⟨x1, x2, x3, x4, x5, x6, x7, x8⟩, rfl, ⟨k1, k2, k3, k4, k5, k6, k7, k8⟩⟩
theorem op_prog (h : Ty Tryz.prog n 50 avs) : ∃ x, avs = eGProg x /\ OkProg x := by
 obtain ⟨m, rfl, a1, b1, rfl, h1, a2, b2, rfl, h2, a3, b3, rfl, h3, rfl⟩ := ty_st (ts := [9, 48, 3]) (by kernel_rfl) h
 obtain ⟨x1, rfl, k1⟩ := ty_str (by kernel_rfl) h1
 obtain ⟨x2, rfl, n2, k2⟩ := ty_sl (e := 40) (enc := eGOp) (Ok := OkOp) (by kernel_rfl) (of_decide_eq_true (by kernel_rfl)) (fun k a hk ha => op_op ha) h2
 obtain ⟨x3, rfl, k3⟩ := ty_i64 (by kernel_rfl) h3
 exact ⟨⟨x1, x2, x3⟩, rfl, ⟨k1, n2, k2, k3⟩⟩
theorem op_plan (h : Ty Tryz.prog n 25 avs) : ∃ x, avs = eGPlan x /\ OkPlan x := by
 obtain ⟨m, rfl, a1, b1, rfl, h1, a2, b2, rfl, h2, rfl⟩ := ty_st (ts := [22, 23]) (by kernel_rfl) h
 obtain ⟨x1, rfl, n1, k1⟩ := ty_sl (e := 50) (enc := eGProg) (Ok := OkProg) (by kernel_rfl) (of_decide_eq_true (by kernel_rfl)) (fun k a hk ha => op_prog ha) h1
 obtain ⟨x2, rfl, n2, k2⟩ := ty_sl (e := 95) (enc := eGEnum) (Ok := OkEnum) (by kernel_rfl) (of_decide_eq_true (by kernel_rfl)) (fun k a hk ha => op_enum ha) h2
 exact ⟨⟨x1, x2⟩, rfl, ⟨n1, k1, n2, k2⟩⟩
theorem ar_P (h : TyV Tryz.prog n 25 av) : ∃ x, av = .agg (eGPlan x) /\ OkPlan x := by
 obtain ⟨avs, rfl, g⟩ := tyV_st (ts := [22, 23]) (by kernel_rfl) h
 obtain ⟨x, rfl, k⟩ := op_plan g
 exact ⟨x, rfl, k⟩
end
structure OpF (p : GPlan) (o : GOp) : Prop where
 card : 1 <= o.Card /\ o.Card <= 5
 kind : 1 <= o.Kind /\ o.Kind <= 10
 key : (o.Card ≠ 5 -> o.Key = 0) /\ (o.Card = 5 -> (1 <= o.Key /\ o.Key <= 5) ∨ o.Key = 7)
 msg : o.Kind = 10 -> 0 <= o.Target /\ o.Target < p.Progs.length /\ o.Card ≠ 3
 enum : o.Kind = 9 -> 0 <= o.Target /\ o.Target < p.Enums.length
 other : o.Kind ≠ 9 -> o.Kind ≠ 10 -> o.Target = -1
 union : o.Union = -1 ∨ o.Card = 2
theorem sz_le {n : Nat} (h : Sz n) : n <= 140737488351232 := h
theorem OkD.okv {v : GValue} (h : OkD v) : OkV v := by
 cases h with
 | mk _ k b t l p s r => exact ⟨l, p, s, r, t, b.1, b.2⟩
theorem getN {α : Type} {l : List α} {i : Nat} (h : i < l.length) : ∃ y, l[((i : Int)).toNat]? = some y /\ y ∈ l := ⟨l[i], by simp [h], List.getElem_mem h⟩
def Asc (l : List GOp) (n : Nat) : Prop := ∀ m x y, m + 1 < n -> l[m]? = some x -> l[m + 1]? = some y -> x.Num < y.Num
theorem asc_more {l : List GOp} {i : Nat} {x y : GOp} (h : Asc l i) (hx : l[i - 1]? = some x) (hy : l[i]? = some y) (hlt : x.Num < y.Num) : Asc l (i + 1) := by
 intro m x' y' hm h1 h2
 by_cases e : m + 1 = i
 ·have : m = i - 1 := by omega
  subst this
  rw [hx] at h1; cases h1
  rw [e, hy] at h2; cases h2
  exact hlt
 ·exact h m x' y' (by omega) h1 h2
theorem past_more {α : Type} {l : List α} {T : α -> Prop} {k : Nat} {g : α} (h : ∀ j g, j < k -> l[j]? = some g -> T g) (hg : l[k]? = some g) (ht : T g) : ∀ j g, j < k + 1 -> l[j]? = some g -> T g := by
 intro j g' hj hj2
 by_cases e : j = k
 ·subst e; rw [hg] at hj2; cases hj2; exact ht
 ·exact h j g' (by omega) hj2
theorem past_all {α : Type} {l : List α} {T : α -> Prop} {k : Nat} (h : ∀ j g, j < k -> l[j]? = some g -> T g) (hk : l.length <= k) : ∀ g ∈ l, T g := by
 intro g hg
 obtain ⟨j, hj⟩ := List.mem_iff_getElem?.1 hg
 exact h j g (by have := (List.getElem?_eq_some_iff.1 hj).1; omega) hj
section
variable (p : GPlan) (hp : OkPlan p)
 include hp
theorem t_lim6  : ∀ i : Nat, ∀ b, Ex yes (ref22_limits_j6 (i : Int) b p) := by
 have b1 := sz_le hp.np; have b2 := sz_le hp.ne
 refine upn (p.Enums.length) (fun i hi ih b => ?_) (fun i hi b => ?_)
 ·refine ex_step (ref22_limits_j6_step _ _ _) ?_
  try rw [wI_up (by omega)]
  repeat' first | exact ex_eq trivial | exact ih | assumption | exact ih _ | refine ex_join ?_ | refine ex_if (fun h => ?_) (fun h => ?_) | refine ex_ne (fun h => ?_) (fun h => ?_) | refine ex_cond _ (fun h => ?_) (fun h => ?_) | refine ex_idx (by omega) (fun y hy hm => ?_) | refine ex_and (by omega) ?_
 ·refine ex_step (ref22_limits_j6_step _ _ _) ?_
  repeat' first | exact ex_eq trivial | exact ih | assumption | exact ih _ | exact absurd ‹_› (by omega) | (exfalso; omega) | refine ex_join ?_ | refine ex_if (fun h => ?_) (fun h => ?_) | refine ex_ne (fun h => ?_) (fun h => ?_) | refine ex_cond _ (fun h => ?_) (fun h => ?_) | refine ex_idx (by omega) (fun y hy hm => ?_) | refine ex_and (by omega) ?_
theorem t_lim4  : ∀ i : Nat, ∀ b, Ex yes (ref22_limits_j4 (i : Int) b p) := by
 have b1 := sz_le hp.np; have b2 := sz_le hp.ne
 refine upn (p.Progs.length) (fun i hi ih b => ?_) (fun i hi b => ?_)
 ·refine ex_step (ref22_limits_j4_step _ _ _) ?_
  try rw [wI_up (by omega)]
  repeat' first | exact ex_eq trivial | exact ih | assumption | exact ih _ | exact t_lim6 p hp 0 _ | refine ex_join ?_ | refine ex_if (fun h => ?_) (fun h => ?_) | refine ex_ne (fun h => ?_) (fun h => ?_) | refine ex_cond _ (fun h => ?_) (fun h => ?_) | refine ex_idx (by omega) (fun y hy hm => ?_) | refine ex_and (by omega) ?_
 ·refine ex_step (ref22_limits_j4_step _ _ _) ?_
  repeat' first | exact ex_eq trivial | exact ih | assumption | exact ih _ | exact t_lim6 p hp 0 _ | exact absurd ‹_› (by omega) | (exfalso; omega) | refine ex_join ?_ | refine ex_if (fun h => ?_) (fun h => ?_) | refine ex_ne (fun h => ?_) (fun h => ?_) | refine ex_cond _ (fun h => ?_) (fun h => ?_) | refine ex_idx (by omega) (fun y hy hm => ?_) | refine ex_and (by omega) ?_
theorem t_limits : Ex yes (ref22_limits p) := by
 refine ex_step (ref22_limits_step _) ?_
 exact t_lim4 p hp 0 _
theorem t_ord16 (A : Prop) (k : Nat) (hk : k < p.Enums.length) (g : GEnum) (hg : p.Enums[((k : Int)).toNat]? = some g) (og : OkEnum g) (H : ∀ b, (b = true -> A) -> Ex (fun r => r = true -> A) (ref22_ordered_j14 ((k + 1 : Nat) : Int) b p)) : ∀ i : Nat, 1 <= i -> ∀ b, (b = true -> A) -> Ex (fun r => r = true -> A) (ref22_ordered_j16 (i : Int) b (k : Int) p) := by
 have b1 := sz_le hp.np; have b2 := sz_le hp.ne
 have b3 := sz_le og.ni; have b4 := sz_le og.nr
 refine upn (g.Items.length) (fun i hi ih h1 b hA => ?_) (fun i hi h1 b hA => ?_)
 ·refine ex_step (ref22_ordered_j16_step _ _ _ _) ?_
  try rw [wI_up (by omega)]
  repeat' first | exact ex_eq (fun h => by first | exact hA ‹_› | exact hA h | cases h) | exact ih | assumption | exact ih (by omega) _ (fun h => by first | exact hA ‹_› | cases h) | exact H _ hA | refine ex_at g hg (by omega) ?_ | rw [wI_up (by omega)] | rw [wI_dn (by omega)] | refine ex_join ?_ | refine ex_if (fun h => ?_) (fun h => ?_) | refine ex_ne (fun h => ?_) (fun h => ?_) | refine ex_cond _ (fun h => ?_) (fun h => ?_) | refine ex_idx (by omega) (fun y hy hm => ?_) | refine ex_and (by omega) ?_
 ·refine ex_step (ref22_ordered_j16_step _ _ _ _) ?_
  repeat' first | exact ex_eq (fun h => by first | exact hA ‹_› | exact hA h | cases h) | exact ih | assumption | exact ih (by omega) _ (fun h => by first | exact hA ‹_› | cases h) | exact H _ hA | refine ex_at g hg (by omega) ?_ | rw [wI_up (by omega)] | rw [wI_dn (by omega)] | exact absurd ‹_› (by omega) | (exfalso; omega) | refine ex_join ?_ | refine ex_if (fun h => ?_) (fun h => ?_) | refine ex_ne (fun h => ?_) (fun h => ?_) | refine ex_cond _ (fun h => ?_) (fun h => ?_) | refine ex_idx (by omega) (fun y hy hm => ?_) | refine ex_and (by omega) ?_
theorem t_ord14 (A : Prop) : ∀ i : Nat, ∀ b, (b = true -> A) -> Ex (fun r => r = true -> A) (ref22_ordered_j14 (i : Int) b p) := by
 have b1 := sz_le hp.np; have b2 := sz_le hp.ne
 refine upn (p.Enums.length) (fun i hi ih b hA => ?_) (fun i hi b hA => ?_)
 ·obtain ⟨g, hg, gm⟩ := getN hi
  refine ex_step (ref22_ordered_j14_step _ _ _) ?_
  try rw [wI_up (by omega)]
  repeat' first | exact ex_eq (fun h => by first | exact hA ‹_› | exact hA h | cases h) | exact ih | assumption | exact t_ord16 p hp A i hi g hg (hp.enums g gm) ih 1 (Nat.le_refl _) _ (fun h => by first | exact hA ‹_› | cases h) | rw [wI_dn (by omega)] | refine ex_join ?_ | refine ex_if (fun h => ?_) (fun h => ?_) | refine ex_ne (fun h => ?_) (fun h => ?_) | refine ex_cond _ (fun h => ?_) (fun h => ?_) | refine ex_idx (by omega) (fun y hy hm => ?_) | refine ex_and (by omega) ?_
 ·refine ex_step (ref22_ordered_j14_step _ _ _) ?_
  repeat' first | exact ex_eq (fun h => by first | exact hA ‹_› | exact hA h | cases h) | exact ih | assumption | exact t_ord16 p hp A i hi g hg (hp.enums g gm) ih 1 (Nat.le_refl _) _ (fun h => by first | exact hA ‹_› | cases h) | rw [wI_dn (by omega)] | exact absurd ‹_› (by omega) | (exfalso; omega) | refine ex_join ?_ | refine ex_if (fun h => ?_) (fun h => ?_) | refine ex_ne (fun h => ?_) (fun h => ?_) | refine ex_cond _ (fun h => ?_) (fun h => ?_) | refine ex_idx (by omega) (fun y hy hm => ?_) | refine ex_and (by omega) ?_
theorem t_ord18 (k : Nat) (hk : k < p.Progs.length) (g : GProg) (hg : p.Progs[((k : Int)).toNat]? = some g) (og : OkProg g) (H : ∀ b, (b = true -> ∀ j g, j < k + 1 -> p.Progs[j]? = some g -> Asc g.Ops g.Ops.length) -> Ex (fun r => r = true -> ∀ g ∈ p.Progs, Asc g.Ops g.Ops.length) (ref22_ordered_j10 ((k + 1 : Nat) : Int) b p)) :
  ∀ i : Nat, 1 <= i -> (i = 1 ∨ i <= g.Ops.length) -> ∀ b, (b = true -> (∀ j g, j < k -> p.Progs[j]? = some g -> Asc g.Ops g.Ops.length) /\ Asc g.Ops i) -> Ex (fun r => r = true -> ∀ g ∈ p.Progs, Asc g.Ops g.Ops.length) (ref22_ordered_j18 (i : Int) b (k : Int) p) := by
 have b1 := sz_le hp.np; have b2 := sz_le hp.ne
 have b3 := sz_le og.n
 have e3 : ((k : Int)).toNat = k := by omega
 refine upn g.Ops.length (fun i hi ih h1 hi2 b hA => ?_) (fun i hi h1 hi2 b hA => ?_)
 ·refine ex_step (ref22_ordered_j18_step _ _ _ _) (ex_at g hg (by omega) (ex_if (fun _ => ex_cond _ (fun hb => ?_) (fun hb => ?_)) fun h => absurd (show (i : Int) < g.Ops.length by omega) h))
  ·rw [wI_dn (by omega), wI_up (by omega)]
   refine ex_at g hg (by omega) (ex_idx (by omega) fun x hx hm => ex_at g hg (by omega) (ex_idx (by omega) fun y hy hm2 => ih (by omega) (by omega) _ fun h => ⟨(hA hb).1, ?_⟩))
   have e1 : (((i - 1 : Nat) : Int)).toNat = i - 1 := by omega
   have e2 : ((i : Int)).toNat = i := by omega
   rw [e1] at hx; rw [e2] at hy
   exact asc_more (hA hb).2 hx hy (of_decide_eq_true h)
  ·rw [wI_up (by omega)]
   exact ih (by omega) (by omega) _ fun h => by cases h
 ·refine ex_step (ref22_ordered_j18_step _ _ _ _) (ex_at g hg (by omega) (ex_if (fun h => absurd h (by omega)) fun _ => ?_))
  rw [wI_up (by omega)]
  refine H _ fun h => past_more (hA h).1 (by rw [← e3]; exact hg) ?_
  rcases hi2 with e | e
  ·intro m x y hm; omega
  ·have : i = g.Ops.length := by omega
   rw [← this]; exact (hA h).2
theorem t_ord10 : ∀ i : Nat, i <= p.Progs.length -> ∀ b, (b = true -> ∀ j g, j < i -> p.Progs[j]? = some g -> Asc g.Ops g.Ops.length) -> Ex (fun r => r = true -> ∀ g ∈ p.Progs, Asc g.Ops g.Ops.length) (ref22_ordered_j10 (i : Int) b p) := by
 have b1 := sz_le hp.np; have b2 := sz_le hp.ne
 have b1 := sz_le hp.np; have b2 := sz_le hp.ne
 refine upn p.Progs.length (fun i hi ih hle b hA => ?_) (fun i hi hle b hA => ?_)
 ·obtain ⟨g, hg, gm⟩ := getN hi
  have fin : ∀ b', (b' = true -> b = true) -> Ex (fun r => r = true -> ∀ g ∈ p.Progs, Asc g.Ops g.Ops.length) (ref22_ordered_j18 1 b' (i : Int) p) := fun b' hb' => t_ord18 p hp i hi g hg (hp.progs g gm) (fun b h => ih (by omega) b h) 1 (Nat.le_refl _) (.inl rfl) b' fun h => ⟨hA (hb' h), fun m x y hm => by omega⟩
  refine ex_step (ref22_ordered_j10_step _ _ _) (ex_if (fun _ => ex_join (ex_cond _ (fun hb => ex_join ?_) fun hb => fin _ (fun h => by cases h))) fun h => absurd (show (i : Int) < p.Progs.length by omega) h)
  refine ex_cond _ (fun h => fin _ fun _ => hb) fun h => ?_
  have : 0 < i := by simp at h; omega
  rw [wI_dn (by omega)]
  exact ex_idx (by omega) fun _ _ _ => ex_idx (by omega) fun _ _ _ => fin _ fun _ => hb
 ·refine ex_step (ref22_ordered_j10_step _ _ _) (ex_if (fun h => absurd h (by omega)) fun _ => t_ord14 p hp _ 0 b fun h => past_all (hA h) hi)
theorem t_ordered : Ex (fun r => r = true -> ∀ g ∈ p.Progs, Asc g.Ops g.Ops.length) (ref22_ordered p) :=
 ex_step (ref22_ordered_step _) (t_ord10 p hp 0 (Nat.zero_le _) true fun _ j g h => by omega)
end
section
variable (p : GPlan) (hp : OkPlan p)
 include hp
theorem t_res_j (l : List GSpan) (hl : Sz l.length) (n : Int) : ∀ i : Nat, Ex yes (ref12_Reserved_j2 (i : Int) l n) := by
 have b1 := sz_le hp.np; have b2 := sz_le hp.ne
 have b1 := sz_le hl
 refine upn (l.length) (fun i hi ih => ?_) (fun i hi => ?_)
 ·refine ex_step (ref12_Reserved_j2_step _ _ _) ?_
  rw [wI_up (by omega)]
  repeat' first | exact ex_eq trivial | exact ih | assumption | refine ex_join ?_ | refine ex_if (fun h => ?_) (fun h => ?_) | refine ex_ne (fun h => ?_) (fun h => ?_) | refine ex_cond _ (fun h => ?_) (fun h => ?_) | refine ex_idx (by omega) (fun y hy hm => ?_) | refine ex_and (by omega) ?_
 ·refine ex_step (ref12_Reserved_j2_step _ _ _) ?_
  repeat' first | exact ex_eq trivial | exact ih | assumption | exact absurd ‹_› (by omega) | (exfalso; omega) | refine ex_join ?_ | refine ex_if (fun h => ?_) (fun h => ?_) | refine ex_ne (fun h => ?_) (fun h => ?_) | refine ex_cond _ (fun h => ?_) (fun h => ?_) | refine ex_idx (by omega) (fun y hy hm => ?_) | refine ex_and (by omega) ?_
theorem t_res (l : List GSpan) (hl : Sz l.length) (n : Int) : Ex yes (ref12_Reserved l n) := ex_step (ref12_Reserved_step _ _) (t_res_j p hp l hl n 0)
theorem t_ran32 (A : Prop) (k : Nat) (hk : k < p.Enums.length) (g : GEnum) (og : OkEnum g) (H : ∀ b, (b = true -> A) -> Ex (fun r => r = true -> A) (ref22_ranges_j26 ((k + 1 : Nat) : Int) b p)) : ∀ i : Nat, ∀ b, (b = true -> A) -> Ex (fun r => r = true -> A) (ref22_ranges_j32 (i : Int) (k : Int) b p g) := by
 have b1 := sz_le hp.np; have b2 := sz_le hp.ne
 have b3 := sz_le og.ni; have b4 := sz_le og.nr
 refine upn (g.Reserved.length) (fun i hi ih b hA => ?_) (fun i hi b hA => ?_)
 ·refine ex_step (ref22_ranges_j32_step _ _ _ _ _) ?_
  try rw [wI_up (by omega)]
  repeat' first | exact ex_eq (fun h => by first | exact hA ‹_› | exact hA h | cases h) | exact ih | assumption | exact ih _ (fun h => hA (by simp only [Bool.and_eq_true] at *; simp [*])) | exact ih _ (fun h => by cases h) | rw [wI_up (by omega)] | exact H _ hA | rw [wI_dn (by omega)] | refine ex_join ?_ | refine ex_if (fun h => ?_) (fun h => ?_) | refine ex_ne (fun h => ?_) (fun h => ?_) | refine ex_cond _ (fun h => ?_) (fun h => ?_) | refine ex_idx (by omega) (fun y hy hm => ?_) | refine ex_and (by omega) ?_
 ·refine ex_step (ref22_ranges_j32_step _ _ _ _ _) ?_
  repeat' first | exact ex_eq (fun h => by first | exact hA ‹_› | exact hA h | cases h) | exact ih | assumption | exact ih _ (fun h => hA (by simp only [Bool.and_eq_true] at *; simp [*])) | exact ih _ (fun h => by cases h) | rw [wI_up (by omega)] | exact H _ hA | rw [wI_dn (by omega)] | exact absurd ‹_› (by omega) | (exfalso; omega) | refine ex_join ?_ | refine ex_if (fun h => ?_) (fun h => ?_) | refine ex_ne (fun h => ?_) (fun h => ?_) | refine ex_cond _ (fun h => ?_) (fun h => ?_) | refine ex_idx (by omega) (fun y hy hm => ?_) | refine ex_and (by omega) ?_
theorem t_ran30 (A : Prop) (k : Nat) (hk : k < p.Enums.length) (g : GEnum) (og : OkEnum g) (H : ∀ b, (b = true -> A) -> Ex (fun r => r = true -> A) (ref22_ranges_j26 ((k + 1 : Nat) : Int) b p)) : ∀ i : Nat, ∀ b, (b = true -> A) -> Ex (fun r => r = true -> A) (ref22_ranges_j30 (i : Int) (k : Int) b p g) := by
 have b1 := sz_le hp.np; have b2 := sz_le hp.ne
 have b3 := sz_le og.ni; have b4 := sz_le og.nr
 refine upn (g.Items.length) (fun i hi ih b hA => ?_) (fun i hi b hA => ?_)
 ·refine ex_step (ref22_ranges_j30_step _ _ _ _ _) ?_
  try rw [wI_up (by omega)]
  repeat' first | exact ex_eq (fun h => by first | exact hA ‹_› | exact hA h | cases h) | exact ih | assumption | exact ih _ (fun h => hA (by simp only [Bool.and_eq_true] at *; simp [*])) | exact ih _ (fun h => by cases h) | exact t_ran32 p hp A k hk g og H 0 _ hA | refine ex_join ?_ | refine ex_if (fun h => ?_) (fun h => ?_) | refine ex_ne (fun h => ?_) (fun h => ?_) | refine ex_cond _ (fun h => ?_) (fun h => ?_) | refine ex_idx (by omega) (fun y hy hm => ?_) | refine ex_and (by omega) ?_ | refine ex_call (t_res p hp _ og.nr _) (fun y hq => ?_)
 ·refine ex_step (ref22_ranges_j30_step _ _ _ _ _) ?_
  repeat' first | exact ex_eq (fun h => by first | exact hA ‹_› | exact hA h | cases h) | exact ih | assumption | exact ih _ (fun h => hA (by simp only [Bool.and_eq_true] at *; simp [*])) | exact ih _ (fun h => by cases h) | exact t_ran32 p hp A k hk g og H 0 _ hA | exact absurd ‹_› (by omega) | (exfalso; omega) | refine ex_join ?_ | refine ex_if (fun h => ?_) (fun h => ?_) | refine ex_ne (fun h => ?_) (fun h => ?_) | refine ex_cond _ (fun h => ?_) (fun h => ?_) | refine ex_idx (by omega) (fun y hy hm => ?_) | refine ex_and (by omega) ?_ | refine ex_call (t_res p hp _ og.nr _) (fun y hq => ?_)
theorem t_ran26 (A : Prop) : ∀ i : Nat, ∀ b, (b = true -> A) -> Ex (fun r => r = true -> A) (ref22_ranges_j26 (i : Int) b p) := by
 have b1 := sz_le hp.np; have b2 := sz_le hp.ne
 refine upn (p.Enums.length) (fun i hi ih b hA => ?_) (fun i hi b hA => ?_)
 ·refine ex_step (ref22_ranges_j26_step _ _ _) ?_
  try rw [wI_up (by omega)]
  repeat' first | exact ex_eq (fun h => by first | exact hA ‹_› | exact hA h | cases h) | exact ih | assumption | exact t_ran30 p hp A i hi _ (hp.enums _ ‹_›) ih 0 _ hA | refine ex_join ?_ | refine ex_if (fun h => ?_) (fun h => ?_) | refine ex_ne (fun h => ?_) (fun h => ?_) | refine ex_cond _ (fun h => ?_) (fun h => ?_) | refine ex_idx (by omega) (fun y hy hm => ?_) | refine ex_and (by omega) ?_
 ·refine ex_step (ref22_ranges_j26_step _ _ _) ?_
  repeat' first | exact ex_eq (fun h => by first | exact hA ‹_› | exact hA h | cases h) | exact ih | assumption | exact t_ran30 p hp A i hi _ (hp.enums _ ‹_›) ih 0 _ hA | exact absurd ‹_› (by omega) | (exfalso; omega) | refine ex_join ?_ | refine ex_if (fun h => ?_) (fun h => ?_) | refine ex_ne (fun h => ?_) (fun h => ?_) | refine ex_cond _ (fun h => ?_) (fun h => ?_) | refine ex_idx (by omega) (fun y hy hm => ?_) | refine ex_and (by omega) ?_
def NumF (o : GOp) : Prop := 1 <= o.Num /\ o.Num <= 65535
theorem t_ran34 (k : Nat) (hk : k < p.Progs.length) (g : GProg) (hg : p.Progs[((k : Int)).toNat]? = some g) (og : OkProg g) (H : ∀ b, (b = true -> ∀ j g, j < k + 1 -> p.Progs[j]? = some g -> ∀ o ∈ g.Ops, NumF o) -> Ex (fun r => r = true -> ∀ g ∈ p.Progs, ∀ o ∈ g.Ops, NumF o) (ref22_ranges_j18 ((k + 1 : Nat) : Int) b p)) :
  ∀ i : Nat, ∀ b, (b = true -> (∀ j g, j < k -> p.Progs[j]? = some g -> ∀ o ∈ g.Ops, NumF o) /\ ∀ j o, j < i -> g.Ops[j]? = some o -> NumF o) -> Ex (fun r => r = true -> ∀ g ∈ p.Progs, ∀ o ∈ g.Ops, NumF o) (ref22_ranges_j34 (i : Int) (k : Int) b p) := by
 have b1 := sz_le hp.np; have b2 := sz_le hp.ne
 have b3 := sz_le og.n
 have e3 : ((k : Int)).toNat = k := by omega
 refine upn g.Ops.length (fun i hi ih b hA => ?_) (fun i hi b hA => ?_)
 ·refine ex_step (ref22_ranges_j34_step _ _ _ _) (ex_at g hg (by omega) (ex_if (fun _ => ex_at g hg (by omega) (ex_idx (by omega) fun y hy hm => ?_)) fun h => absurd (show (i : Int) < g.Ops.length by omega) h))
  rw [wI_up (by omega)]
  refine ih _ fun h => ?_
  simp only [Bool.and_eq_true, decide_eq_true_eq] at h
  have e2 : ((i : Int)).toNat = i := by omega
  rw [e2] at hy
  exact ⟨(hA h.1.1).1, past_more (hA h.1.1).2 hy ⟨h.1.2, h.2⟩⟩
 ·refine ex_step (ref22_ranges_j34_step _ _ _ _) (ex_at g hg (by omega) (ex_if (fun h => absurd h (by omega)) fun _ => ?_))
  rw [wI_up (by omega)]
  exact H _ fun h => past_more (hA h).1 (by rw [← e3]; exact hg) (past_all (hA h).2 hi)
theorem t_ran18 : ∀ i : Nat, ∀ b, (b = true -> ∀ j g, j < i -> p.Progs[j]? = some g -> ∀ o ∈ g.Ops, NumF o) -> Ex (fun r => r = true -> ∀ g ∈ p.Progs, ∀ o ∈ g.Ops, NumF o) (ref22_ranges_j18 (i : Int) b p) := by
 have b1 := sz_le hp.np; have b2 := sz_le hp.ne
 have b1 := sz_le hp.np; have b2 := sz_le hp.ne
 refine upn p.Progs.length (fun i hi ih b hA => ?_) (fun i hi b hA => ?_)
 ·obtain ⟨g, hg, gm⟩ := getN hi
  exact ex_step (ref22_ranges_j18_step _ _ _) (ex_if (fun _ => t_ran34 p hp i hi g hg (hp.progs g gm) ih 0 b fun h => ⟨hA h, fun j o hj => by omega⟩) fun h => absurd (show (i : Int) < p.Progs.length by omega) h)
 ·exact ex_step (ref22_ranges_j18_step _ _ _) (ex_if (fun h => absurd h (by omega)) fun _ => t_ran26 p hp _ 0 b fun h => past_all (hA h) hi)
theorem t_ranges : Ex (fun r => r = true -> ∀ g ∈ p.Progs, ∀ o ∈ g.Ops, NumF o) (ref22_ranges p) := ex_step (ref22_ranges_step _) (t_ran18 p hp 0 true fun _ j g h => by omega)
end
theorem t_kind14 (b : Bool) (s : ByteArray) : Ex yes (ref08_Kind_j14 b s) := by
 refine ex_step (ref08_Kind_j14_step _ _) ?_
 repeat' first | exact ex_eq trivial | exact ih | assumption | refine ex_join ?_ | refine ex_if (fun h => ?_) (fun h => ?_) | refine ex_ne (fun h => ?_) (fun h => ?_) | refine ex_cond _ (fun h => ?_) (fun h => ?_) | refine ex_idx (by omega) (fun y hy hm => ?_) | refine ex_and (by omega) ?_
theorem t_kind12 (b : Bool) (s : ByteArray) : Ex yes (ref08_Kind_j12 b s) := by
 refine ex_step (ref08_Kind_j12_step _ _) ?_
 repeat' first | exact ex_eq trivial | exact ih | assumption | exact t_kind14 _ s | refine ex_join ?_ | refine ex_if (fun h => ?_) (fun h => ?_) | refine ex_ne (fun h => ?_) (fun h => ?_) | refine ex_cond _ (fun h => ?_) (fun h => ?_) | refine ex_idx (by omega) (fun y hy hm => ?_) | refine ex_and (by omega) ?_
theorem t_kind8 (b : Bool) (s : ByteArray) : Ex yes (ref08_Kind_j8 b s) := by
 refine ex_step (ref08_Kind_j8_step _ _) ?_
 repeat' first | exact ex_eq trivial | exact ih | assumption | exact t_kind12 _ s | refine ex_join ?_ | refine ex_if (fun h => ?_) (fun h => ?_) | refine ex_ne (fun h => ?_) (fun h => ?_) | refine ex_cond _ (fun h => ?_) (fun h => ?_) | refine ex_idx (by omega) (fun y hy hm => ?_) | refine ex_and (by omega) ?_
theorem t_kind (s : ByteArray) : Ex yes (ref08_Kind s) := by
 refine ex_step (ref08_Kind_step _) ?_
 repeat' first | exact ex_eq trivial | exact ih | assumption | exact t_kind8 _ s | refine ex_join ?_ | refine ex_if (fun h => ?_) (fun h => ?_) | refine ex_ne (fun h => ?_) (fun h => ?_) | refine ex_cond _ (fun h => ?_) (fun h => ?_) | refine ex_idx (by omega) (fun y hy hm => ?_) | refine ex_and (by omega) ?_
theorem t_fit30 (b : Bool) (t : Int) : Ex yes (ref08_fits_j30 b t) := by
 refine ex_step (ref08_fits_j30_step _ _) ?_
 repeat' first | exact ex_eq trivial | exact ih | assumption | refine ex_join ?_ | refine ex_if (fun h => ?_) (fun h => ?_) | refine ex_ne (fun h => ?_) (fun h => ?_) | refine ex_cond _ (fun h => ?_) (fun h => ?_) | refine ex_idx (by omega) (fun y hy hm => ?_) | refine ex_and (by omega) ?_
theorem t_fit28 (b : Bool) (s : ByteArray) (t : Int) : Ex yes (ref08_fits_j28 b s t) := by
 refine ex_step (ref08_fits_j28_step _ _ _) ?_
 repeat' first | exact ex_eq trivial | exact ih | assumption | exact t_fit30 _ t | refine ex_join ?_ | refine ex_if (fun h => ?_) (fun h => ?_) | refine ex_ne (fun h => ?_) (fun h => ?_) | refine ex_cond _ (fun h => ?_) (fun h => ?_) | refine ex_idx (by omega) (fun y hy hm => ?_) | refine ex_and (by omega) ?_
theorem t_fit24 (b : Bool) (s : ByteArray) (t : Int) : Ex yes (ref08_fits_j24 b s t) := by
 refine ex_step (ref08_fits_j24_step _ _ _) ?_
 repeat' first | exact ex_eq trivial | exact ih | assumption | exact t_fit28 _ s t | refine ex_join ?_ | refine ex_if (fun h => ?_) (fun h => ?_) | refine ex_ne (fun h => ?_) (fun h => ?_) | refine ex_cond _ (fun h => ?_) (fun h => ?_) | refine ex_idx (by omega) (fun y hy hm => ?_) | refine ex_and (by omega) ?_
theorem t_fit16 (b : Bool) (s : ByteArray) (t : Int) : Ex yes (ref08_fits_j16 b s t) := by
 refine ex_step (ref08_fits_j16_step _ _ _) ?_
 repeat' first | exact ex_eq trivial | exact ih | assumption | exact t_fit24 _ s t | refine ex_join ?_ | refine ex_if (fun h => ?_) (fun h => ?_) | refine ex_ne (fun h => ?_) (fun h => ?_) | refine ex_cond _ (fun h => ?_) (fun h => ?_) | refine ex_idx (by omega) (fun y hy hm => ?_) | refine ex_and (by omega) ?_
theorem t_fit (s : ByteArray) (t : Int) : Ex yes (ref08_fits s t) := by
 refine ex_step (ref08_fits_step _ _) ?_
 repeat' first | exact ex_eq trivial | exact ih | assumption | exact t_fit16 _ s t | refine ex_join ?_ | refine ex_if (fun h => ?_) (fun h => ?_) | refine ex_ne (fun h => ?_) (fun h => ?_) | refine ex_cond _ (fun h => ?_) (fun h => ?_) | refine ex_idx (by omega) (fun y hy hm => ?_) | refine ex_and (by omega) ?_
theorem t_right (n : GNote) (hn : OkNote n) : Ex yes (ref08_Right n) := by
 refine ex_step (ref08_Right_step _) ?_
 repeat' first | exact ex_eq trivial | exact ih | assumption | refine ex_val (rfits_is _ _ hn.val.okv) ?_ | refine ex_join ?_ | refine ex_if (fun h => ?_) (fun h => ?_) | refine ex_ne (fun h => ?_) (fun h => ?_) | refine ex_cond _ (fun h => ?_) (fun h => ?_) | refine ex_idx (by omega) (fun y hy hm => ?_) | refine ex_and (by omega) ?_ | refine ex_call (t_kind _) (fun y hq => ?_)
theorem t_chk_j (l : List GNote) (hl : Sz l.length) (hn : ∀ n ∈ l, OkNote n) (t : Int) : ∀ i : Nat, Ex yes (ref08_Check_j2 (i : Int) l t) := by
 have b1 := sz_le hl
 refine upn (l.length) (fun i hi ih => ?_) (fun i hi => ?_)
 ·refine ex_step (ref08_Check_j2_step _ _ _) ?_
  rw [wI_up (by omega)]
  repeat' first | exact ex_eq trivial | exact ih | assumption | rw [wI_dn (by omega)] | refine ex_join ?_ | refine ex_if (fun h => ?_) (fun h => ?_) | refine ex_ne (fun h => ?_) (fun h => ?_) | refine ex_cond _ (fun h => ?_) (fun h => ?_) | refine ex_idx (by omega) (fun y hy hm => ?_) | refine ex_and (by omega) ?_ | refine ex_call (t_kind _) (fun y hq => ?_) | refine ex_call (t_fit _ _) (fun y hq => ?_) | refine ex_call (t_right _ (hn _ (by assumption))) (fun y hq => ?_)
 ·refine ex_step (ref08_Check_j2_step _ _ _) ?_
  repeat' first | exact ex_eq trivial | exact ih | assumption | rw [wI_dn (by omega)] | exact absurd ‹_› (by omega) | (exfalso; omega) | refine ex_join ?_ | refine ex_if (fun h => ?_) (fun h => ?_) | refine ex_ne (fun h => ?_) (fun h => ?_) | refine ex_cond _ (fun h => ?_) (fun h => ?_) | refine ex_idx (by omega) (fun y hy hm => ?_) | refine ex_and (by omega) ?_ | refine ex_call (t_kind _) (fun y hq => ?_) | refine ex_call (t_fit _ _) (fun y hq => ?_) | refine ex_call (t_right _ (hn _ (by assumption))) (fun y hq => ?_)
theorem t_chk (l : List GNote) (hl : Sz l.length) (hn : ∀ n ∈ l, OkNote n) (t : Int) : Ex yes (ref08_Check l t) := by
 refine ex_step (ref08_Check_step _ _) ?_
 repeat' first | exact ex_eq trivial | exact ih | assumption | exact t_chk_j l hl hn t 0 | refine ex_join ?_ | refine ex_if (fun h => ?_) (fun h => ?_) | refine ex_ne (fun h => ?_) (fun h => ?_) | refine ex_cond _ (fun h => ?_) (fun h => ?_) | refine ex_idx (by omega) (fun y hy hm => ?_) | refine ex_and (by omega) ?_
theorem t_target (p : GPlan) (o : GOp) : Ex (fun r => r = true -> (o.Kind = 10 -> 0 <= o.Target /\ o.Target < p.Progs.length /\ o.Card ≠ 3) /\ (o.Kind = 9 -> 0 <= o.Target /\ o.Target < p.Enums.length) /\ (o.Kind ≠ 9 -> o.Kind ≠ 10 -> o.Target = -1)) (ref22_target p o) := by
 refine ex_step (ref22_target_step _ _) (ex_cond _ (fun h => ex_eq fun h2 => ?_) fun h => ex_cond _ (fun h3 => ex_eq fun h2 => ?_) fun h3 => ex_eq fun h2 => ?_)
 all_goals simp only [Bool.and_eq_true, decide_eq_true_eq, bne_iff_ne, beq_iff_eq, beq_eq_false_iff_ne, ne_eq] at *
 ·exact ⟨fun _ => ⟨h2.1.1, h2.1.2, h2.2⟩, fun h => by omega, fun h => by omega⟩
 ·exact ⟨fun h => by omega, fun _ => h2, fun h => by omega⟩
 ·exact ⟨fun h => by omega, fun h => by omega, fun _ _ => h2⟩
theorem t_oper2 (p : GPlan) (o : GOp) (b : Bool) : Ex (fun r => r = true -> b = true /\ (o.Kind = 10 -> 0 <= o.Target /\ o.Target < p.Progs.length /\ o.Card ≠ 3) /\ (o.Kind = 9 -> 0 <= o.Target /\ o.Target < p.Enums.length) /\ (o.Kind ≠ 9 -> o.Kind ≠ 10 -> o.Target = -1) /\ (o.Union = -1 ∨ o.Card = 2)) (ref22_operation_j2 b p o) := by
 refine ex_step (ref22_operation_j2_step _ _ _) (ex_join (ex_cond _ (fun h => ex_call (t_target p o) fun y hy => ex_eq fun h2 => ?_) fun h => ex_eq fun h2 => ?_))
 ·simp only [Bool.and_eq_true, Bool.or_eq_true, beq_iff_eq] at h2
  obtain ⟨a1, a2, a3⟩ := hy h2.1
  exact ⟨h, a1, a2, a3, h2.2⟩
 ·simp at h2
theorem t_oper (p : GPlan) (o : GOp) (ho : OkOp o) : Ex (fun r => r = true -> OpF p o) (ref22_operation p o) := by
 refine ex_step (ref22_operation_step _ _) (ex_val (rvalid_is _ ho.alias_) (ex_cond _ (fun h => ex_eq fun h2 => by cases h2) fun h => ex_cond _ (fun h2 => ex_mono (t_oper2 p o _) fun r hr h3 => ?_) fun h2 => ex_mono (t_oper2 p o _) fun r hr h3 => ?_))
 all_goals
  obtain ⟨a0, a1, a2, a3, a4⟩ := hr h3
  simp only [Bool.or_eq_false_iff, decide_eq_false_iff_not, bne_iff_ne, bne_eq_false_iff_eq, ne_eq, Bool.or_eq_true, Bool.and_eq_true, decide_eq_true_eq, beq_iff_eq] at h h2 a0
  refine ⟨by omega, by omega, ⟨fun _ => by omega, fun _ => by omega⟩, a1, a2, a3, a4⟩
def UniF (o : GOp) : Prop := -1 <= o.Union
theorem t_join_j (g : GProg) (hg : OkProg g) : ∀ i : Nat, ∀ n : Nat, n <= i /\ i <= g.Ops.length -> (∀ j o, j < i -> g.Ops[j]? = some o -> UniF o) -> Ex (fun r => r = true -> ∀ o ∈ g.Ops, UniF o) (ref22_joined_j2 (i : Int) (n : Int) g) := by
 have b1 := sz_le hg.n
 refine upn g.Ops.length (fun i hi ih n hn hA => ?_) (fun i hi n hn hA => ?_)
 ·have e2 : ((i : Int)).toNat = i := by omega
  refine ex_step (ref22_joined_j2_step _ _ _) (ex_if (fun _ => ex_idx (by omega) fun y hy hm => ?_) fun h => absurd (show (i : Int) < g.Ops.length by omega) h)
  rw [wI_up (by omega), wI_up (by omega)]
  have hy' := hy
  rw [e2] at hy'
  refine ex_cond _ (fun h => ih _ (by omega) (past_more hA hy' ?_)) fun h => ex_join ?_
  ·simp only [beq_iff_eq] at h; unfold UniF; omega
  have no : ∀ b, (b = false -> UniF y) -> Ex (α := Bool) (fun r => r = true -> ∀ o ∈ g.Ops, UniF o) (fun r => (b = true -> r = false) /\ (b = false -> ref22_joined_j2 ((i + 1 : Nat) : Int) (n : Int) g r)) := fun b hb => ex_cond b (fun _ => ex_eq fun h => by cases h) fun h => ih _ (by omega) (past_more hA hy' (hb h))
  refine ex_cond _ (fun h2 => ex_cond _ (fun h3 => no _ fun h => by cases h) fun h3 => ?_) fun h2 => no _ fun _ => ?_
  ·have : 0 < i := by simp only [beq_eq_false_iff_ne] at h3; omega
   rw [wI_dn (by omega)]
   refine ex_idx (by omega) fun z hz _ => no _ fun h => ?_
   have e3 : (((i - 1 : Nat) : Int)).toNat = i - 1 := by omega
   rw [e3] at hz
   have := hA (i - 1) z (by omega) hz
   simp only [bne_eq_false_iff_eq] at h
   unfold UniF at *; omega
  ·simp only [bne_eq_false_iff_eq] at h2
   unfold UniF; omega
 ·exact ex_step (ref22_joined_j2_step _ _ _) (ex_if (fun h => absurd h (by omega)) fun _ => ex_eq fun _ => past_all hA hi)
theorem t_join (g : GProg) (hg : OkProg g) : Ex (fun r => r = true -> ∀ o ∈ g.Ops, UniF o) (ref22_joined g) := ex_step (ref22_joined_step _) (t_join_j g hg 0 0 (by omega) fun j o h => by omega)
section
variable (p : GPlan) (hp : OkPlan p)
 include hp
def ProF (g : GProg) : Prop := (∀ o ∈ g.Ops, UniF o) /\ ∀ o ∈ g.Ops, OpF p o
theorem t_arg16 (k : Nat) (hk : k < p.Progs.length) (g : GProg) (hg : p.Progs[((k : Int)).toNat]? = some g) (og : OkProg g) (H : ∀ b, (b = true -> ∀ j g, j < k + 1 -> p.Progs[j]? = some g -> ProF p g) -> Ex (fun r => r = true -> ∀ g ∈ p.Progs, ProF p g) (ref22_arguments_j14 ((k + 1 : Nat) : Int) b p)) :
  ∀ i : Nat, ∀ b, (b = true -> (∀ j g, j < k -> p.Progs[j]? = some g -> ProF p g) /\ (∀ o ∈ g.Ops, UniF o) /\ ∀ j o, j < i -> g.Ops[j]? = some o -> OpF p o) -> Ex (fun r => r = true -> ∀ g ∈ p.Progs, ProF p g) (ref22_arguments_j16 (i : Int) b (k : Int) p) := by
 have b1 := sz_le hp.np; have b2 := sz_le hp.ne
 have b3 := sz_le og.n
 have e3 : ((k : Int)).toNat = k := by omega
 refine upn g.Ops.length (fun i hi ih b hA => ?_) (fun i hi b hA => ?_)
 ·refine ex_step (ref22_arguments_j16_step _ _ _ _) (ex_at g hg (by omega) (ex_if (fun _ => ?_) fun h => absurd (show (i : Int) < g.Ops.length by omega) h))
  rw [wI_up (by omega)]
  refine ex_cond _ (fun hb => ex_at g hg (by omega) (ex_idx (by omega) fun y hy hm => ex_call (t_oper p y (og.ops y hm)) fun z hz => ih _ fun h => ?_)) fun hb => ih _ fun h => by cases h
  have e2 : ((i : Int)).toNat = i := by omega
  rw [e2] at hy
  exact ⟨(hA hb).1, (hA hb).2.1, past_more (hA hb).2.2 hy (hz h)⟩
 ·refine ex_step (ref22_arguments_j16_step _ _ _ _) (ex_at g hg (by omega) (ex_if (fun h => absurd h (by omega)) fun _ => ?_))
  rw [wI_up (by omega)]
  exact H _ fun h => past_more (hA h).1 (by rw [← e3]; exact hg) ⟨(hA h).2.1, past_all (hA h).2.2 hi⟩
theorem t_arg14 : ∀ i : Nat, ∀ b, (b = true -> ∀ j g, j < i -> p.Progs[j]? = some g -> ProF p g) -> Ex (fun r => r = true -> ∀ g ∈ p.Progs, ProF p g) (ref22_arguments_j14 (i : Int) b p) := by
 have b1 := sz_le hp.np; have b2 := sz_le hp.ne
 refine upn p.Progs.length (fun i hi ih b hA => ?_) (fun i hi b hA => ?_)
 ·obtain ⟨g, hg, gm⟩ := getN hi
  have go := t_arg16 p hp i hi g hg (hp.progs g gm) ih 0
  exact ex_step (ref22_arguments_j14_step _ _ _) (ex_if (fun _ => ex_join (ex_cond _ (fun hb => ex_at g hg (by omega) (ex_call (t_join g (hp.progs g gm)) fun y hy => go _ fun h => ⟨hA hb, hy h, fun j o hj => by omega⟩)) fun hb => go _ fun h => by cases h)) fun h => absurd (show (i : Int) < p.Progs.length by omega) h)
 ·exact ex_step (ref22_arguments_j14_step _ _ _) (ex_if (fun h => absurd h (by omega)) fun _ => ex_eq fun h => past_all (hA h) hi)
theorem t_arg18 (k : Nat) (hk : k < p.Enums.length) (g : GEnum) (hg : p.Enums[((k : Int)).toNat]? = some g) (og : OkEnum g) (H : ∀ b, Ex (fun r => r = true -> ∀ g ∈ p.Progs, ProF p g) (ref22_arguments_j10 ((k + 1 : Nat) : Int) b p)) : ∀ i : Nat, ∀ b, Ex (fun r => r = true -> ∀ g ∈ p.Progs, ProF p g) (ref22_arguments_j18 (i : Int) b (k : Int) p) := by
 have b1 := sz_le hp.np; have b2 := sz_le hp.ne; have b3 := sz_le og.ni
 refine upn (g.Items.length) (fun i hi ih b => ?_) (fun i hi b => ?_)
 ·refine ex_step (ref22_arguments_j18_step _ _ _ _) ?_
  try rw [wI_up (by omega)]
  repeat' first | exact ex_eq trivial | exact ih | assumption | exact ih _ | exact H _ | refine ex_at g hg (by omega) ?_ | rw [wI_up (by omega)] | refine ex_join ?_ | refine ex_if (fun h => ?_) (fun h => ?_) | refine ex_ne (fun h => ?_) (fun h => ?_) | refine ex_cond _ (fun h => ?_) (fun h => ?_) | refine ex_idx (by first | omega | (simp only [beq_iff_eq] at *; omega)) (fun y hy hm => ?_) | refine ex_and (by first | omega | (simp only [beq_iff_eq] at *; omega)) ?_ | refine ex_call (t_chk _ (og.items _ ‹_›).nn (og.items _ ‹_›).notes _) (fun y hq => ?_)
 ·refine ex_step (ref22_arguments_j18_step _ _ _ _) ?_
  repeat' first | exact ex_eq trivial | exact ih | assumption | exact ih _ | exact H _ | refine ex_at g hg (by omega) ?_ | rw [wI_up (by omega)] | exact absurd ‹_› (by omega) | (exfalso; omega) | refine ex_join ?_ | refine ex_if (fun h => ?_) (fun h => ?_) | refine ex_ne (fun h => ?_) (fun h => ?_) | refine ex_cond _ (fun h => ?_) (fun h => ?_) | refine ex_idx (by first | omega | (simp only [beq_iff_eq] at *; omega)) (fun y hy hm => ?_) | refine ex_and (by first | omega | (simp only [beq_iff_eq] at *; omega)) ?_ | refine ex_call (t_chk _ (og.items _ ‹_›).nn (og.items _ ‹_›).notes _) (fun y hq => ?_)
theorem t_arg10  : ∀ i : Nat, ∀ b, Ex (fun r => r = true -> ∀ g ∈ p.Progs, ProF p g) (ref22_arguments_j10 (i : Int) b p) := by
 have b1 := sz_le hp.np; have b2 := sz_le hp.ne
 refine upn (p.Enums.length) (fun i hi ih b => ?_) (fun i hi b => ?_)
 ·obtain ⟨g, hg, gm⟩ := getN hi
  refine ex_step (ref22_arguments_j10_step _ _ _) ?_
  try rw [wI_up (by omega)]
  repeat' first | exact ex_eq trivial | exact ih | assumption | exact ih _ | exact t_arg18 p hp i hi g hg (hp.enums g gm) ih 0 _ | exact t_arg14 p hp 0 _ (fun _ j g h => by omega) | refine ex_at g hg (by omega) ?_ | refine ex_join ?_ | refine ex_if (fun h => ?_) (fun h => ?_) | refine ex_ne (fun h => ?_) (fun h => ?_) | refine ex_cond _ (fun h => ?_) (fun h => ?_) | refine ex_idx (by omega) (fun y hy hm => ?_) | refine ex_and (by omega) ?_
 ·refine ex_step (ref22_arguments_j10_step _ _ _) ?_
  repeat' first | exact ex_eq trivial | exact ih | assumption | exact ih _ | exact t_arg18 p hp i hi g hg (hp.enums g gm) ih 0 _ | exact t_arg14 p hp 0 _ (fun _ j g h => by omega) | refine ex_at g hg (by omega) ?_ | exact absurd ‹_› (by omega) | (exfalso; omega) | refine ex_join ?_ | refine ex_if (fun h => ?_) (fun h => ?_) | refine ex_ne (fun h => ?_) (fun h => ?_) | refine ex_cond _ (fun h => ?_) (fun h => ?_) | refine ex_idx (by omega) (fun y hy hm => ?_) | refine ex_and (by omega) ?_
theorem t_args : Ex (fun r => r = true -> ∀ g ∈ p.Progs, ProF p g) (ref22_arguments p) := ex_step (ref22_arguments_step _) (t_arg10 p hp 0 _)
variable (hF : ∀ g ∈ p.Progs, ProF p g)
 include hF
theorem t_fin14 (k : Nat) (hk : k < p.Progs.length) (g : GProg) (hg : p.Progs[((k : Int)).toNat]? = some g) (gm : g ∈ p.Progs) (m : Int) (c : Bool) (H : ∀ b (l : List Bool), l.length = p.Progs.length -> Ex yes (ref22_finite_j12 ((k + 1 : Nat) : Int) b m p l)) :
  ∀ i : Nat, ∀ b (l : List Bool), l.length = p.Progs.length -> Ex yes (ref22_finite_j14 (i : Int) b (k : Int) c m p l) := by
 have b1 := sz_le hp.np; have b2 := sz_le hp.ne
 have b3 := sz_le (hp.progs g gm).n
 refine upn g.Ops.length (fun i hi ih b l hl => ?_) (fun i hi b l hl => ?_)
 ·refine ex_step (ref22_finite_j14_step _ _ _ _ _ _ _) (ex_at g hg (by omega) (ex_if (fun _ => ex_at g hg (by omega) (ex_idx (by omega) fun y hy hm => ?_)) fun h => absurd (show (i : Int) < g.Ops.length by omega) h))
  rw [wI_up (by omega)]
  refine ex_cond _ (fun hb => ex_cond _ (fun h => ih _ l hl) fun h => ?_) fun hb => ih _ l hl
  have h10 : y.Kind = 10 := by simp only [Bool.or_eq_false_iff, bne_eq_false_iff_eq] at h; exact h.2
  have ht := ((hF g gm).2 y hm).msg h10
  refine ex_and (by omega) (ex_val (List.getElem?_eq_getElem (show y.Target.toNat < l.length by omega)) (ih _ l hl))
 ·refine ex_step (ref22_finite_j14_step _ _ _ _ _ _ _) (ex_at g hg (by omega) (ex_if (fun h => absurd h (by omega)) fun _ => ex_and (by omega) (ex_and (by omega) ?_)))
  rw [wI_up (by omega)]
  exact H _ _ (by simpa using hl)
theorem t_fin12 (m : Nat) (hm : m < p.Progs.length) (H : ∀ b (l : List Bool), l.length = p.Progs.length -> Ex yes (ref22_finite_j8 ((m + 1 : Nat) : Int) p b l)) :
  ∀ i : Nat, ∀ b (l : List Bool), l.length = p.Progs.length -> Ex yes (ref22_finite_j12 (i : Int) b (m : Int) p l) := by
 have b1 := sz_le hp.np
 refine upn p.Progs.length (fun i hi ih b l hl => ?_) (fun i hi b l hl => ?_)
 ·obtain ⟨g, hg, gm⟩ := getN hi
  exact ex_step (ref22_finite_j12_step _ _ _ _ _) (ex_if (fun _ => t_fin14 p hp hF i hi g hg gm m b ih 0 true l hl) fun h => absurd (show (i : Int) < p.Progs.length by omega) h)
 ·refine ex_step (ref22_finite_j12_step _ _ _ _ _) (ex_if (fun h => absurd h (by omega)) fun _ => ?_)
  rw [wI_up (by omega)]
  exact H _ l hl
theorem t_fin8 : ∀ i : Nat, ∀ b (l : List Bool), l.length = p.Progs.length -> Ex yes (ref22_finite_j8 (i : Int) p b l) := by
 refine upn p.Progs.length (fun i hi ih b l hl => ?_) (fun i hi b l hl => ?_)
 ·exact ex_step (ref22_finite_j8_step _ _ _ _) (ex_if (fun _ => t_fin12 p hp hF i hi ih 0 true l hl) fun h => absurd (show (i : Int) < p.Progs.length by omega) h)
 ·exact ex_step (ref22_finite_j8_step _ _ _ _) (ex_if (fun h => absurd h (by omega)) fun _ => ex_eq trivial)
theorem t_finite : Ex yes (ref22_finite p) := by
 have b1 := sz_le hp.np
 exact ex_step (ref22_finite_step _) (ex_and (by omega) (t_fin8 p hp hF 0 _ _ (by simp)))
end
section
open Go.Shelf
def Tryz.laysM171_ren : Go.Shelf.Ren := ⟨fun | 171 => 76 | 243 => 141 | 246 => 191 | 283 => 193 | 284 => 194 | 285 => 195 | 286 => 196 | 129 => 228 | 317 => 227 | 318 => 229 | 319 => 230 | 320 => 231 | 337 => 271 | 338 => 272 | n => n, fun | 3 => 3 | 9 => 9 | 2 => 2 | 4 => 4 | 171 => 226 | 0 => 0 | 53 => 26 | 37 => 66 | 5 => 5 | 173 => 228 | 212 => 258 | 51 => 182 | 20 => 20 | 213 => 259 | 46 => 131 | 232 => 305 | 233 => 306 | n => n, fun | 17 => 1 | 18 => 4 | 19 => 5 | n => n⟩
theorem Tryz.laysM171 : Go.Proofs.LaysM.n171 Tryz.prog Tryz.laysM171_ren := {
 mixed := by kernel_rfl
 f129 := Tryz.func228.trans (congrArg some (by kernel_rfl))
 f171 := Tryz.func76.trans (congrArg some (by kernel_rfl))
 f243 := Tryz.func141.trans (congrArg some (by kernel_rfl))
 f246 := Tryz.func191.trans (congrArg some (by kernel_rfl))
 f283 := Tryz.func193.trans (congrArg some (by kernel_rfl))
 f284 := Tryz.func194.trans (congrArg some (by kernel_rfl))
 f285 := Tryz.func195.trans (congrArg some (by kernel_rfl))
 f286 := Tryz.func196.trans (congrArg some (by kernel_rfl))
 f317 := Tryz.func227.trans (congrArg some (by kernel_rfl))
 f318 := Tryz.func229.trans (congrArg some (by kernel_rfl))
 f319 := Tryz.func230.trans (congrArg some (by kernel_rfl))
 f320 := Tryz.func231.trans (congrArg some (by kernel_rfl))
 f337 := Tryz.func271.trans (congrArg some (by kernel_rfl))
 f338 := Tryz.func272.trans (congrArg some (by kernel_rfl))
 t0 := Tryz.underlying0
 a0 := Tryz.isAgg0
 z0 := Tryz.sizeOf0
 v0 := Tryz.zeroValue0
 t2 := Tryz.underlying2
 a2 := Tryz.isAgg2
 z2 := Tryz.sizeOf2
 v2 := Tryz.zeroValue2
 t3 := Tryz.underlying3
 a3 := Tryz.isAgg3
 z3 := Tryz.sizeOf3
 v3 := Tryz.zeroValue3
 t4 := Tryz.underlying4
 a4 := Tryz.isAgg4
 z4 := Tryz.sizeOf4
 v4 := Tryz.zeroValue4
 t5 := Tryz.underlying5
 a5 := Tryz.isAgg5
 z5 := Tryz.sizeOf5
 v5 := Tryz.zeroValue5
 t9 := Tryz.underlying9
 a9 := Tryz.isAgg9
 z9 := Tryz.sizeOf9
 v9 := Tryz.zeroValue9
 t20 := Tryz.underlying20
 a20 := Tryz.isAgg20
 z20 := Tryz.sizeOf20
 v20 := Tryz.zeroValue20
 t37 := Tryz.underlying66
 a37 := Tryz.isAgg66
 z37 := Tryz.sizeOf66
 v37 := Tryz.zeroValue66
 t46 := Tryz.underlying131
 a46 := Tryz.isAgg131
 z46 := Tryz.sizeOf131
 v46 := Tryz.zeroValue131
 t51 := Tryz.underlying182
 a51 := Tryz.isAgg182
 z51 := Tryz.sizeOf182
 v51 := Tryz.zeroValue182
 t53 := Tryz.underlying26
 a53 := Tryz.isAgg26
 z53 := Tryz.sizeOf26
 v53 := Tryz.zeroValue26
 t171 := Tryz.underlying226
 a171 := Tryz.isAgg226
 z171 := Tryz.sizeOf226
 v171 := Tryz.zeroValue226
 t173 := Tryz.underlying228
 a173 := Tryz.isAgg228
 z173 := Tryz.sizeOf228
 v173 := Tryz.zeroValue228
 t212 := Tryz.underlying258
 a212 := Tryz.isAgg258
 z212 := Tryz.sizeOf258
 v212 := Tryz.zeroValue258
 t213 := Tryz.underlying259
 a213 := Tryz.isAgg259
 z213 := Tryz.sizeOf259
 t232 := Tryz.underlying305
 a232 := Tryz.isAgg305
 z232 := Tryz.sizeOf305
 v232 := Tryz.zeroValue305
 t233 := Tryz.underlying306
 a233 := Tryz.isAgg306
 z233 := Tryz.sizeOf306
 v233 := Tryz.zeroValue306
 g17 := by kernel_rfl
 g18 := by kernel_rfl
 g19 := by kernel_rfl
 i0 := by kernel_rfl
 i2 := by kernel_rfl
 i3 := by kernel_rfl
 i4 := by kernel_rfl
 i5 := by kernel_rfl
 i9 := by kernel_rfl
 i20 := by kernel_rfl
 i37 := by kernel_rfl
 i46 := by kernel_rfl
 i51 := by kernel_rfl
 i53 := by kernel_rfl
 i171 := by kernel_rfl
 i173 := by kernel_rfl
 i212 := by kernel_rfl
 i232 := by kernel_rfl
 i233 := by kernel_rfl
 m17 := by kernel_rfl
 m18 := by kernel_rfl
 m19 := by kernel_rfl }
open Go.RowKit Go.Sort Go.Lib in
theorem Tryz.strconv_Itoa (n : Int) (h0 : -9223372036854775808 <= n) (h1 : n <= 9223372036854775807) (w : World) (htab : Lib.TabIs Tryz.prog w "internal/strconv.uint64pow10" .u64 Lib.pow10Tab) :
  Calls Tryz.prog 76 #[.int .i64 n] w fun e w' => e = .returned (.string ⟨(Lib.itoa n).toArray⟩) /\ ∃ k os, w' = grow (w.drewN k) os := Any.strconv_Itoa Tryz.laysM171 n h0 h1 w htab
def Tryz.laysC245_ren : Go.Shelf.Ren := ⟨fun | 245 => 198 | 279 => 234 | 280 => 235 | 281 => 236 | 282 => 237 | 316 => 273 | 171 => 76 | 205 => 274 | 243 => 141 | 246 => 191 | 283 => 193 | 284 => 194 | 285 => 195 | 286 => 196 | 129 => 228 | 317 => 227 | 318 => 229 | 319 => 230 | 320 => 231 | 337 => 271 | 338 => 272 | n => n, fun | 9 => 9 | 3 => 3 | 75 => 70 | 167 => 261 | 4 => 4 | 168 => 263 | 210 => 292 | 37 => 66 | 0 => 0 | 127 => 137 | 145 => 309 | 143 => 307 | 2 => 2 | 171 => 226 | 53 => 26 | 5 => 5 | 173 => 228 | 212 => 258 | 51 => 182 | 20 => 20 | 213 => 259 | 46 => 131 | 232 => 305 | 233 => 306 | 80 => 75 | n => n, fun | 15 => 2 | 16 => 3 | 17 => 1 | 18 => 4 | 19 => 5 | n => n⟩
theorem Tryz.laysC245 : Go.Proofs.LaysC.n245 Tryz.prog Tryz.laysC245_ren := {
 mixed := by kernel_rfl
 f129 := Tryz.func228.trans (congrArg some (by kernel_rfl))
 f171 := Tryz.func76.trans (congrArg some (by kernel_rfl))
 f205 := Tryz.func274.trans (congrArg some (by kernel_rfl))
 f243 := Tryz.func141.trans (congrArg some (by kernel_rfl))
 f245 := Tryz.func198.trans (congrArg some (by kernel_rfl))
 f246 := Tryz.func191.trans (congrArg some (by kernel_rfl))
 f279 := Tryz.func234.trans (congrArg some (by kernel_rfl))
 f280 := Tryz.func235.trans (congrArg some (by kernel_rfl))
 f281 := Tryz.func236.trans (congrArg some (by kernel_rfl))
 f282 := Tryz.func237.trans (congrArg some (by kernel_rfl))
 f283 := Tryz.func193.trans (congrArg some (by kernel_rfl))
 f284 := Tryz.func194.trans (congrArg some (by kernel_rfl))
 f285 := Tryz.func195.trans (congrArg some (by kernel_rfl))
 f286 := Tryz.func196.trans (congrArg some (by kernel_rfl))
 f316 := Tryz.func273.trans (congrArg some (by kernel_rfl))
 f317 := Tryz.func227.trans (congrArg some (by kernel_rfl))
 f318 := Tryz.func229.trans (congrArg some (by kernel_rfl))
 f319 := Tryz.func230.trans (congrArg some (by kernel_rfl))
 f320 := Tryz.func231.trans (congrArg some (by kernel_rfl))
 f337 := Tryz.func271.trans (congrArg some (by kernel_rfl))
 f338 := Tryz.func272.trans (congrArg some (by kernel_rfl))
 t0 := Tryz.underlying0
 a0 := Tryz.isAgg0
 z0 := Tryz.sizeOf0
 v0 := Tryz.zeroValue0
 t2 := Tryz.underlying2
 a2 := Tryz.isAgg2
 z2 := Tryz.sizeOf2
 v2 := Tryz.zeroValue2
 t3 := Tryz.underlying3
 a3 := Tryz.isAgg3
 z3 := Tryz.sizeOf3
 v3 := Tryz.zeroValue3
 t4 := Tryz.underlying4
 a4 := Tryz.isAgg4
 z4 := Tryz.sizeOf4
 v4 := Tryz.zeroValue4
 t5 := Tryz.underlying5
 a5 := Tryz.isAgg5
 z5 := Tryz.sizeOf5
 v5 := Tryz.zeroValue5
 t9 := Tryz.underlying9
 a9 := Tryz.isAgg9
 z9 := Tryz.sizeOf9
 v9 := Tryz.zeroValue9
 t20 := Tryz.underlying20
 a20 := Tryz.isAgg20
 z20 := Tryz.sizeOf20
 v20 := Tryz.zeroValue20
 t37 := Tryz.underlying66
 a37 := Tryz.isAgg66
 z37 := Tryz.sizeOf66
 v37 := Tryz.zeroValue66
 t46 := Tryz.underlying131
 a46 := Tryz.isAgg131
 z46 := Tryz.sizeOf131
 v46 := Tryz.zeroValue131
 t51 := Tryz.underlying182
 a51 := Tryz.isAgg182
 z51 := Tryz.sizeOf182
 v51 := Tryz.zeroValue182
 t53 := Tryz.underlying26
 a53 := Tryz.isAgg26
 z53 := Tryz.sizeOf26
 v53 := Tryz.zeroValue26
 t75 := Tryz.underlying70
 a75 := Tryz.isAgg70
 z75 := Tryz.sizeOf70
 v75 := Tryz.zeroValue70
 t127 := Tryz.underlying137
 a127 := Tryz.isAgg137
 z127 := Tryz.sizeOf137
 v127 := Tryz.zeroValue137
 t143 := Tryz.underlying307
 a143 := Tryz.isAgg307
 z143 := Tryz.sizeOf307
 v143 := Tryz.zeroValue307
 t145 := Tryz.underlying309
 a145 := Tryz.isAgg309
 z145 := Tryz.sizeOf309
 v145 := Tryz.zeroValue309
 t167 := Tryz.underlying261
 a167 := Tryz.isAgg261
 z167 := Tryz.sizeOf261
 v167 := Tryz.zeroValue261
 t168 := Tryz.underlying263
 a168 := Tryz.isAgg263
 z168 := Tryz.sizeOf263
 v168 := Tryz.zeroValue263
 t171 := Tryz.underlying226
 a171 := Tryz.isAgg226
 z171 := Tryz.sizeOf226
 v171 := Tryz.zeroValue226
 t173 := Tryz.underlying228
 a173 := Tryz.isAgg228
 z173 := Tryz.sizeOf228
 v173 := Tryz.zeroValue228
 t210 := Tryz.underlying292
 a210 := Tryz.isAgg292
 z210 := Tryz.sizeOf292
 v210 := Tryz.zeroValue292
 t212 := Tryz.underlying258
 a212 := Tryz.isAgg258
 z212 := Tryz.sizeOf258
 v212 := Tryz.zeroValue258
 t213 := Tryz.underlying259
 a213 := Tryz.isAgg259
 z213 := Tryz.sizeOf259
 t232 := Tryz.underlying305
 a232 := Tryz.isAgg305
 z232 := Tryz.sizeOf305
 v232 := Tryz.zeroValue305
 t233 := Tryz.underlying306
 a233 := Tryz.isAgg306
 z233 := Tryz.sizeOf306
 v233 := Tryz.zeroValue306
 g15 := by kernel_rfl
 g16 := by kernel_rfl
 g17 := by kernel_rfl
 g18 := by kernel_rfl
 g19 := by kernel_rfl
 t80 := Tryz.underlying75
 a80 := Tryz.isAgg75
 z80 := Tryz.sizeOf75
 v80 := Tryz.zeroValue75
 i0 := by kernel_rfl
 i2 := by kernel_rfl
 i3 := by kernel_rfl
 i4 := by kernel_rfl
 i5 := by kernel_rfl
 i9 := by kernel_rfl
 i20 := by kernel_rfl
 i37 := by kernel_rfl
 i46 := by kernel_rfl
 i51 := by kernel_rfl
 i53 := by kernel_rfl
 i75 := by kernel_rfl
 i80 := by kernel_rfl
 i127 := by kernel_rfl
 i143 := by kernel_rfl
 i145 := by kernel_rfl
 i167 := by kernel_rfl
 i168 := by kernel_rfl
 i171 := by kernel_rfl
 i173 := by kernel_rfl
 i210 := by kernel_rfl
 i212 := by kernel_rfl
 i232 := by kernel_rfl
 i233 := by kernel_rfl
 m15 := by kernel_rfl
 m16 := by kernel_rfl
 m17 := by kernel_rfl
 m18 := by kernel_rfl
 m19 := by kernel_rfl
 c0 := by kernel_rfl
 c2 := by kernel_rfl
 c3 := by kernel_rfl
 c4 := by kernel_rfl
 c5 := by kernel_rfl
 c9 := by kernel_rfl
 c20 := by kernel_rfl
 c37 := by kernel_rfl
 c46 := by kernel_rfl
 c51 := by kernel_rfl
 c53 := by kernel_rfl
 c75 := by kernel_rfl
 c80 := by kernel_rfl
 c127 := by kernel_rfl
 c143 := by kernel_rfl
 c145 := by kernel_rfl
 c167 := by kernel_rfl
 c168 := by kernel_rfl
 c171 := by kernel_rfl
 c173 := by kernel_rfl
 c210 := by kernel_rfl
 c212 := by kernel_rfl
 c213 := by kernel_rfl
 c232 := by kernel_rfl
 c233 := by kernel_rfl }
open Go.RowKit in
theorem Tryz.strconv_toError_syntax (fn s : ByteArray) (base bits : Int) (ev : Value) (w : World) (hlim : s.size <= 281474976710656) (hv : w.cell? ⟨2, 0, none⟩ = some ev) (hev : ev = .nilIface ∨ ∃ te pe, ev = .iface te pe) :
  Calls Tryz.prog 198 #[.string fn, .string s, .int .i64 base, .int .i64 bits, .iface 261 (.int .i64 2)] w fun e w' => ∃ N, e = .returned (.iface 263 (.pointer (some ⟨N, 0, none⟩))) /\ w.heap.size <= N /\ w'.heap[N]? = some (.cells #[.string fn, .string s, ev] 292 (0, 0)) /\ Below w.heap.size w w' := Any.strconv_toError_syntax Tryz.laysC245 fn s base bits ev w hlim hv hev
open Go.RowKit in
theorem Tryz.strconv_toError_range (fn s : ByteArray) (base bits : Int) (ev : Value) (w : World) (hlim : s.size <= 281474976710656) (hv : w.cell? ⟨3, 0, none⟩ = some ev) (hev : ev = .nilIface ∨ ∃ te pe, ev = .iface te pe) :
  Calls Tryz.prog 198 #[.string fn, .string s, .int .i64 base, .int .i64 bits, .iface 261 (.int .i64 1)] w fun e w' => ∃ N, e = .returned (.iface 263 (.pointer (some ⟨N, 0, none⟩))) /\ w.heap.size <= N /\ w'.heap[N]? = some (.cells #[.string fn, .string s, ev] 292 (0, 0)) /\ Below w.heap.size w w' := Any.strconv_toError_range Tryz.laysC245 fn s base bits ev w hlim hv hev
def Tryz.laysC174_ren : Go.Shelf.Ren := ⟨fun | 174 => 150 | 247 => 202 | 245 => 198 | 287 => 197 | 279 => 234 | 280 => 235 | 281 => 236 | 282 => 237 | 321 => 232 | 322 => 233 | 316 => 273 | 171 => 76 | 205 => 274 | 243 => 141 | 246 => 191 | 283 => 193 | 284 => 194 | 285 => 195 | 286 => 196 | 129 => 228 | 317 => 227 | 318 => 229 | 319 => 230 | 320 => 231 | 337 => 271 | 338 => 272 | n => n, fun | 9 => 9 | 3 => 3 | 2 => 2 | 75 => 70 | 85 => 194 | 4 => 4 | 167 => 261 | 5 => 5 | 53 => 26 | 175 => 190 | 46 => 131 | 168 => 263 | 37 => 66 | 0 => 0 | 210 => 292 | 21 => 21 | 127 => 137 | 145 => 309 | 143 => 307 | 171 => 226 | 173 => 228 | 212 => 258 | 51 => 182 | 20 => 20 | 213 => 259 | 232 => 305 | 233 => 306 | 80 => 75 | n => n, fun | 15 => 2 | 16 => 3 | 17 => 1 | 18 => 4 | 19 => 5 | n => n⟩
theorem Tryz.laysC174 : Go.Proofs.LaysC.n174 Tryz.prog Tryz.laysC174_ren := {
 mixed := by kernel_rfl
 f129 := Tryz.func228.trans (congrArg some (by kernel_rfl))
 f171 := Tryz.func76.trans (congrArg some (by kernel_rfl))
 f174 := Tryz.func150.trans (congrArg some (by kernel_rfl))
 f205 := Tryz.func274.trans (congrArg some (by kernel_rfl))
 f243 := Tryz.func141.trans (congrArg some (by kernel_rfl))
 f245 := Tryz.func198.trans (congrArg some (by kernel_rfl))
 f246 := Tryz.func191.trans (congrArg some (by kernel_rfl))
 f247 := Tryz.func202.trans (congrArg some (by kernel_rfl))
 f279 := Tryz.func234.trans (congrArg some (by kernel_rfl))
 f280 := Tryz.func235.trans (congrArg some (by kernel_rfl))
 f281 := Tryz.func236.trans (congrArg some (by kernel_rfl))
 f282 := Tryz.func237.trans (congrArg some (by kernel_rfl))
 f283 := Tryz.func193.trans (congrArg some (by kernel_rfl))
 f284 := Tryz.func194.trans (congrArg some (by kernel_rfl))
 f285 := Tryz.func195.trans (congrArg some (by kernel_rfl))
 f286 := Tryz.func196.trans (congrArg some (by kernel_rfl))
 f287 := Tryz.func197.trans (congrArg some (by kernel_rfl))
 f316 := Tryz.func273.trans (congrArg some (by kernel_rfl))
 f317 := Tryz.func227.trans (congrArg some (by kernel_rfl))
 f318 := Tryz.func229.trans (congrArg some (by kernel_rfl))
 f319 := Tryz.func230.trans (congrArg some (by kernel_rfl))
 f320 := Tryz.func231.trans (congrArg some (by kernel_rfl))
 f321 := Tryz.func232.trans (congrArg some (by kernel_rfl))
 f322 := Tryz.func233.trans (congrArg some (by kernel_rfl))
 f337 := Tryz.func271.trans (congrArg some (by kernel_rfl))
 f338 := Tryz.func272.trans (congrArg some (by kernel_rfl))
 t0 := Tryz.underlying0
 a0 := Tryz.isAgg0
 z0 := Tryz.sizeOf0
 v0 := Tryz.zeroValue0
 t2 := Tryz.underlying2
 a2 := Tryz.isAgg2
 z2 := Tryz.sizeOf2
 v2 := Tryz.zeroValue2
 t3 := Tryz.underlying3
 a3 := Tryz.isAgg3
 z3 := Tryz.sizeOf3
 v3 := Tryz.zeroValue3
 t4 := Tryz.underlying4
 a4 := Tryz.isAgg4
 z4 := Tryz.sizeOf4
 v4 := Tryz.zeroValue4
 t5 := Tryz.underlying5
 a5 := Tryz.isAgg5
 z5 := Tryz.sizeOf5
 v5 := Tryz.zeroValue5
 t9 := Tryz.underlying9
 a9 := Tryz.isAgg9
 z9 := Tryz.sizeOf9
 v9 := Tryz.zeroValue9
 t20 := Tryz.underlying20
 a20 := Tryz.isAgg20
 z20 := Tryz.sizeOf20
 v20 := Tryz.zeroValue20
 t21 := Tryz.underlying21
 a21 := Tryz.isAgg21
 z21 := Tryz.sizeOf21
 v21 := Tryz.zeroValue21
 t37 := Tryz.underlying66
 a37 := Tryz.isAgg66
 z37 := Tryz.sizeOf66
 v37 := Tryz.zeroValue66
 t46 := Tryz.underlying131
 a46 := Tryz.isAgg131
 z46 := Tryz.sizeOf131
 v46 := Tryz.zeroValue131
 t51 := Tryz.underlying182
 a51 := Tryz.isAgg182
 z51 := Tryz.sizeOf182
 v51 := Tryz.zeroValue182
 t53 := Tryz.underlying26
 a53 := Tryz.isAgg26
 z53 := Tryz.sizeOf26
 v53 := Tryz.zeroValue26
 t75 := Tryz.underlying70
 a75 := Tryz.isAgg70
 z75 := Tryz.sizeOf70
 v75 := Tryz.zeroValue70
 t85 := Tryz.underlying194
 a85 := Tryz.isAgg194
 z85 := Tryz.sizeOf194
 v85 := Tryz.zeroValue194
 t127 := Tryz.underlying137
 a127 := Tryz.isAgg137
 z127 := Tryz.sizeOf137
 v127 := Tryz.zeroValue137
 t143 := Tryz.underlying307
 a143 := Tryz.isAgg307
 z143 := Tryz.sizeOf307
 v143 := Tryz.zeroValue307
 t145 := Tryz.underlying309
 a145 := Tryz.isAgg309
 z145 := Tryz.sizeOf309
 v145 := Tryz.zeroValue309
 t167 := Tryz.underlying261
 a167 := Tryz.isAgg261
 z167 := Tryz.sizeOf261
 v167 := Tryz.zeroValue261
 t168 := Tryz.underlying263
 a168 := Tryz.isAgg263
 z168 := Tryz.sizeOf263
 v168 := Tryz.zeroValue263
 t171 := Tryz.underlying226
 a171 := Tryz.isAgg226
 z171 := Tryz.sizeOf226
 v171 := Tryz.zeroValue226
 t173 := Tryz.underlying228
 a173 := Tryz.isAgg228
 z173 := Tryz.sizeOf228
 v173 := Tryz.zeroValue228
 t175 := Tryz.underlying190
 a175 := Tryz.isAgg190
 z175 := Tryz.sizeOf190
 v175 := Tryz.zeroValue190
 t210 := Tryz.underlying292
 a210 := Tryz.isAgg292
 z210 := Tryz.sizeOf292
 v210 := Tryz.zeroValue292
 t212 := Tryz.underlying258
 a212 := Tryz.isAgg258
 z212 := Tryz.sizeOf258
 v212 := Tryz.zeroValue258
 t213 := Tryz.underlying259
 a213 := Tryz.isAgg259
 z213 := Tryz.sizeOf259
 t232 := Tryz.underlying305
 a232 := Tryz.isAgg305
 z232 := Tryz.sizeOf305
 v232 := Tryz.zeroValue305
 t233 := Tryz.underlying306
 a233 := Tryz.isAgg306
 z233 := Tryz.sizeOf306
 v233 := Tryz.zeroValue306
 g15 := by kernel_rfl
 g16 := by kernel_rfl
 g17 := by kernel_rfl
 g18 := by kernel_rfl
 g19 := by kernel_rfl
 t80 := Tryz.underlying75
 a80 := Tryz.isAgg75
 z80 := Tryz.sizeOf75
 v80 := Tryz.zeroValue75
 i0 := by kernel_rfl
 i2 := by kernel_rfl
 i3 := by kernel_rfl
 i4 := by kernel_rfl
 i5 := by kernel_rfl
 i9 := by kernel_rfl
 i20 := by kernel_rfl
 i21 := by kernel_rfl
 i37 := by kernel_rfl
 i46 := by kernel_rfl
 i51 := by kernel_rfl
 i53 := by kernel_rfl
 i75 := by kernel_rfl
 i80 := by kernel_rfl
 i85 := by kernel_rfl
 i127 := by kernel_rfl
 i143 := by kernel_rfl
 i145 := by kernel_rfl
 i167 := by kernel_rfl
 i168 := by kernel_rfl
 i171 := by kernel_rfl
 i173 := by kernel_rfl
 i175 := by kernel_rfl
 i210 := by kernel_rfl
 i212 := by kernel_rfl
 i232 := by kernel_rfl
 i233 := by kernel_rfl
 m15 := by kernel_rfl
 m16 := by kernel_rfl
 m17 := by kernel_rfl
 m18 := by kernel_rfl
 m19 := by kernel_rfl
 c0 := by kernel_rfl
 c2 := by kernel_rfl
 c3 := by kernel_rfl
 c4 := by kernel_rfl
 c5 := by kernel_rfl
 c9 := by kernel_rfl
 c20 := by kernel_rfl
 c21 := by kernel_rfl
 c37 := by kernel_rfl
 c46 := by kernel_rfl
 c51 := by kernel_rfl
 c53 := by kernel_rfl
 c75 := by kernel_rfl
 c80 := by kernel_rfl
 c85 := by kernel_rfl
 c127 := by kernel_rfl
 c143 := by kernel_rfl
 c145 := by kernel_rfl
 c167 := by kernel_rfl
 c168 := by kernel_rfl
 c171 := by kernel_rfl
 c173 := by kernel_rfl
 c175 := by kernel_rfl
 c210 := by kernel_rfl
 c212 := by kernel_rfl
 c213 := by kernel_rfl
 c232 := by kernel_rfl
 c233 := by kernel_rfl }
open Go.RowKit in
theorem Tryz.strconv_ParseInt_10_at64_ok (s : ByteArray) (hmax : s.size <= 9223372036854775806) (v : Int) (h : Lib.parseIntB 64 s.data.toList = .ok v) (w : World) :
  Calls Tryz.prog 150 #[.string s, .int .i64 10, .int .i64 64] w fun e w' => e = .returned (.tuple #[.int .i64 v, .nilIface]) /\ (w' = w ∨ ∃ t, w' = Lib.bytesWorld w 5 t) := Any.strconv_ParseInt_10_at64_ok Tryz.laysC174 s hmax v h w
open Go.RowKit in
theorem Tryz.strconv_ParseInt_10_at64_range (s : ByteArray) (hlim : s.size <= 281474976710656) (h : Lib.parseIntB 64 s.data.toList = .range) (ev : Value) (w : World) (hv : w.cell? ⟨3, 0, none⟩ = some ev) (hev : ev = .nilIface ∨ ∃ te pe, ev = .iface te pe) :
  Calls Tryz.prog 150 #[.string s, .int .i64 10, .int .i64 64] w fun e w' => ∃ N, e = .returned (.tuple #[.int .i64 (Lib.intSat 64 s.data.toList), .iface 263 (.pointer (some ⟨N, 0, none⟩))]) /\ w.heap.size <= N /\ w'.heap[N]? = some (.cells #[.string ⟨#[80, 97, 114, 115, 101, 73, 110, 116]⟩, .string s, ev] 292 (0, 0)) /\ Below w.heap.size w w' := Any.strconv_ParseInt_10_at64_range Tryz.laysC174 s hlim h ev w hv hev
end
section
open Go.Shelf Go.RowKit Go.Sort Go.Lib
section
variable {P : Program} {ρ : Ren}
def PowAt (g : Nat) (w : World) : Prop := ∀ i, i < 20 -> w.cell? ⟨g, i, none⟩ = some (.int .u64 ((10 ^ i : Nat) : Int))
theorem PowAt.below {g : Nat} {w w' : World} (h : PowAt g w) (hb : Below w.heap.size w w') : PowAt g w' := by
 intro i hi
 have h1 := h i hi
 have hlt : g < w.heap.size := by
  rcases Nat.lt_or_ge g w.heap.size with h' | h'
  ·exact h'
  ·simp [World.cell?, Array.getElem?_eq_none h'] at h1
 have h2 := hb.block g hlt
 simp only [World.cell?] at h1 ⊢
 rw [h2]; exact h1
end
theorem small_c (i : Nat) (hi : i < 100) (w : World) : Calls Tryz.prog 193 #[.int .i64 i] w fun e w' => e = .returned (.string ⟨(Lib.decDigits i).toArray⟩) /\ w' = w :=
 Any.internal_strconv_small (ρ := Tryz.laysM171_ren) { Tryz.laysM171 with } i hi w
theorem len64_c (x : Int) (w : World) (h0 : 0 <= x) (h1 : x <= 18446744073709551615) : Calls Tryz.prog 228 #[.int .u64 x] w fun e w' => e = .returned (.int .i64 (Lib.bitLen x.toNat)) /\ w' = w := Any.bits_Len64 (ρ := Tryz.laysM171_ren) { Tryz.laysM171 with } x w h0 h1
theorem log_c (x : Nat) (h : x <= 64) (w : World) : Calls Tryz.prog 227 #[.int .i64 x] w fun e w' => e = .returned (.int .i64 (Lib.l10 x)) /\ w' = w := Any.internal_strconv_log10Pow2 (ρ := Tryz.laysM171_ren) { Tryz.laysM171 with } x h w
theorem b2i_c (b : Bool) (w : World) : Calls Tryz.prog 229 #[.bool b] w fun e w' => e = .returned (.int .i64 (if b then 1 else 0)) /\ w' = w := Any.internal_strconv_bool2_int (ρ := Tryz.laysM171_ren) { Tryz.laysM171 with } b w
theorem nd_c (u : Nat) (h1 : 1 <= u) (h2 : u < 18446744073709551616) (w : World) (hc : PowAt 1 w) : Calls Tryz.prog 194 #[.int .u64 u] w fun e w' => e = .returned (.int .i64 (Lib.nDigits u)) /\ w' = w := by
 have key := Lib.numDigits_eq u h1 h2
 have hb : Lib.bitLen u <= 64 := Lib.bitLen_le u 64 (Nat.le_refl _) h2
 have hread := hc (Lib.l10 (Lib.bitLen u)) (by have := key.2; omega)
 have ht : ((u : Int)).toNat = u := by omega
 obtain ⟨q, hq⟩ : ∃ q, Lib.l10 (Lib.bitLen u) = q := ⟨_, rfl⟩
 rw [hq] at key hread
 obtain ⟨T, hT⟩ : ∃ T, 10 ^ q = T := ⟨_, rfl⟩
 rw [hT] at key hread
 have hq20 : q < 20 := by have := key.2; omega
 have KEY := Lib.hid key
 clear key hc hT
 go_enter Tryz.func194, Tryz.ntmps194
 go_wp2_with (first
  | (go_at_call 228; refine (len64_c _ _ (by omega) (by omega)).mono ?_; rintro e w' ⟨rfl, rfl⟩)
  | (go_at_call 227; refine (log_c _ (by first | exact hb | (rw [ht]; exact hb)) _).mono ?_; rintro e w' ⟨rfl, rfl⟩)
  | (go_at_call 229; refine (b2i_c _ _).mono ?_; rintro e w' ⟨rfl, rfl⟩))
 all_goals go_ret
 all_goals
  refine ⟨congrArg (fun z => Ending.returned (.int .i64 z)) ?_, rfl⟩
  have key := KEY.out.1
  split at key <;> simp_all <;> omega
set_option maxHeartbeats 6400000 in
set_option maxRecDepth 100000 in
theorem fu10_in (u : Nat) (hu64 : u < 18446744073709551616) (w : World) (hc : PowAt 1 w) :
  Calls Tryz.prog 144 #[.int .u64 u, .int .i64 10] w fun e w' => e = .returned (.string ⟨(Lib.decDigits u).toArray⟩) /\ ∃ k os, w' = grow (w.drewN k) os := by
 by_cases hs : u < 100
 ·have wr : IntKind.i64.wrap (u : Int) = u := by simp [IntKind.wrap, IntKind.signed, IntKind.bits]; omega
  go_enter Tryz.func144, Tryz.ntmps144
  go_wp2_with (go_at_call 193; refine (small_c u hs _).mono ?_; rintro e w' ⟨rfl, rfl⟩)
  go_ret
  exact ⟨rfl, 0, #[], by simp [World.drewN_zero]⟩
 ·have hu1 : 1 <= u := by omega
  have hnd20 : Lib.nDigits u <= 20 := by have := Lib.numDigits_eq u hu1 hu64; split at this <;> omega
  have hb3 : Lib.nDigits u <= 24 := by omega
  have hal : Tryz.prog.arrayLen 226 = 24 := by simp [Program.arrayLen, Tryz.underlying226]
  have hsl1 : ∀ W, (Instr.sliceAt 226 (.pointer (some ⟨w.heap.size, 0, none⟩)) none (some (.int .i64 (Lib.nDigits u : Int))) none).run Tryz.prog W = .ok (.slice (some ⟨w.heap.size, 0, none⟩) (Lib.nDigits u) 24) W := fun W => by
   rw [run_sliceAt_array_h W 226 ⟨w.heap.size, 0, none⟩ (by simp [Program.arrayLen, Program.elem, Tryz.underlying226]) .i64 (Lib.nDigits u : Int) (by omega) (by rw [hal]; omega)]
   go_simp
  have hH0 : Holds (fun (b : UInt8) => Value.int .u8 (b.toNat : Int)) (w.alloc (.cells Lib.zeros24 226)) w.heap.size 0 (Array.replicate (Lib.nDigits u) (0 : UInt8)) := fun j hj => by
   have hj' : j < Lib.nDigits u := by simpa using hj
   refine ⟨?_, World.frozen?_alloc_new _ _ _ _⟩
   rw [World.cell?_alloc_new, Lib.zeros24_at _ (by omega), getElem!_pos _ j hj]
   simp
  have hfmt := Any.internal_strconv_formatBase10 (P := Tryz.prog) (ρ := Tryz.laysM171_ren) { Tryz.laysM171 with } w.heap.size 0 24 u (Array.replicate (Lib.nDigits u) 0) (w.alloc (.cells Lib.zeros24 226)) hH0 (by rw [Array.size_replicate]; exact Lib.lt_pow_nDigits u) hu64 (by rw [Array.size_replicate]; omega)
  rw [Array.size_replicate] at hfmt
  have HH0 := Lib.hid hH0
  have hca : PowAt 1 (w.alloc (.cells Lib.zeros24 226)) := hc.below ((Below.refl _ _).alloc (Nat.le_refl _) _)
  clear hH0 hal hc
  go_enter Tryz.func144, Tryz.ntmps144
  go_wp2_with (go_at_call 194; refine (nd_c u hu1 hu64 _ hca).mono ?_; rintro e w' ⟨rfl, rfl⟩)
  go_at_call 195
  refine hfmt.mono ?_
  rintro e w' ⟨rfl, k, v', dk, rfl, hF⟩
  have hcv : (convert 66 9 (.slice (some ⟨w.heap.size, 0, none⟩) (Lib.nDigits u) 24)).run Tryz.prog ((putRow (fun (b : UInt8) => Value.int .u8 (b.toNat : Int)) (w.alloc (.cells Lib.zeros24 226)) w.heap.size 0 dk).drewN k) = .ok (.string ⟨(Lib.decDigits u).toArray⟩) ((putRow (fun (b : UInt8) => Value.int .u8 (b.toNat : Int)) (w.alloc (.cells Lib.zeros24 226)) w.heap.size 0 dk).drewN k) := by
   have h := run_convert_bytes_back (P := Tryz.prog) ((putRow (fun (b : UInt8) => Value.int .u8 (b.toNat : Int)) (w.alloc (.cells Lib.zeros24 226)) w.heap.size 0 dk).drewN k) 66 9 5 ⟨w.heap.size, 0, none⟩ 24 (Lib.decDigits u) Tryz.underlying66 Tryz.underlying5 Tryz.underlying9 (fun j hj => by
    rw [Lib.row_is_numeral hF j hj, Lib.add_plain, World.cell?_drewN]
    exact cell?_putRow (fun (b : UInt8) => Value.int .u8 (b.toNat : Int)) _ w.heap.size 0 _ dk HH0.out (by rw [hF.size, Array.size_replicate]) j (by rw [hF.size]; rw [Lib.decDigits_length] at hj; exact hj))
   rw [Lib.decDigits_length] at h
   exact h
  go_wp2
  go_ret
  obtain ⟨os, eo⟩ : ∃ os, (putRow (fun (b : UInt8) => Value.int .u8 (b.toNat : Int)) (w.alloc (.cells Lib.zeros24 226)) w.heap.size 0 dk).drewN k = grow (w.drewN k) os := by
   rw [alloc_eq_grow]
   obtain ⟨os', _, e⟩ := putRow_grow_new (fun (b : UInt8) => Value.int .u8 (b.toNat : Int)) w #[.cells Lib.zeros24 226] w.heap.size 0 dk (Nat.le_refl _)
   exact ⟨os', by rw [e]; rfl⟩
  exact ⟨rfl, k, os, eo⟩
end
def TzAt (g : Nat) (w : World) : Prop := w.cell? ⟨g, 15, none⟩ = some (.int .u8 4)
theorem TzAt.below {g : Nat} {w w' : World} (h : TzAt g w) (hb : Below w.heap.size w w') : TzAt g w' := by
 unfold TzAt at *
 have hlt : g < w.heap.size := by
  rcases Nat.lt_or_ge g w.heap.size with h' | h'
  ·exact h'
  ·simp [World.cell?, Array.getElem?_eq_none h'] at h
 have h2 := hb.block g hlt
 simp only [World.cell?] at h ⊢
 rw [h2]; exact h
set_option maxRecDepth 100000 in
theorem tz64_c (w : World) (hc : TzAt 5 w) : Calls Tryz.prog 272 #[.int .u64 16] w fun e w' => e = .returned (.int .i64 4) /\ w' = w := by
 have e : (IntKind.u64.wrap (bits BinOp.and IntKind.u64 16 (IntKind.u64.wrap (-16)) * 285870213051353865) / 288230376151711744).toNat = 15 := by decide +kernel
 have hc' : w.cell? ⟨5, (IntKind.u64.wrap (bits BinOp.and IntKind.u64 16 (IntKind.u64.wrap (-16)) * 285870213051353865) / 288230376151711744).toNat, none⟩ = some (.int .u8 4) := by rw [e]; exact hc
 clear hc e
 go_enter Tryz.func272, Tryz.ntmps272
 go_wp2_with fail
 go_ret
 exact ⟨rfl, rfl⟩
set_option maxRecDepth 100000 in
theorem tz_c (w : World) (hc : TzAt 5 w) : Calls Tryz.prog 231 #[.int .u64 16] w fun e w' => e = .returned (.int .i64 4) /\ w' = w := by
 go_enter Tryz.func231, Tryz.ntmps231
 go_wp2_with (go_at_call 272; refine (tz64_c _ hc).mono ?_; rintro e w' ⟨rfl, rfl⟩)
 go_ret
 exact ⟨rfl, rfl⟩
set_option maxRecDepth 100000 in
theorem pow2_c (w : World) : Calls Tryz.prog 230 #[.int .i64 16] w fun e w' => e = .returned (.bool true) /\ w' = w := by
 go_enter Tryz.func230, Tryz.ntmps230
 go_wp2_with fail
 go_ret
 exact ⟨rfl, rfl⟩
def hexC (n : Nat) : UInt8 := if n < 10 then UInt8.ofNat (48 + n) else UInt8.ofNat (87 + n)
def hexN : Nat -> Nat -> List UInt8
 | 0, _ => []
 | n + 1, u => hexC (u / 16 ^ n % 16) :: hexN n u
structure RowA (u A k : Nat) (w : World) : Prop where
 all : ∀ i, i < 65 -> ∃ c, w.cell? ⟨A, i, none⟩ = some c
 fz : ∀ i, w.frozen? ⟨A, i, none⟩ = false
 dig : ∀ j, j < k -> w.cell? ⟨A, 64 - j, none⟩ = some (.int .u8 ((hexC (u / 16 ^ j % 16)).toNat : Int))
theorem RowA.put {u A k : Nat} {w : World} (h : RowA u A k w) (hk : k <= 64) : RowA u A (k + 1) (w.setCell ⟨A, 64 - k, none⟩ (.int .u8 ((hexC (u / 16 ^ k % 16)).toNat : Int))) := by
 obtain ⟨c, hc⟩ := h.all (64 - k) (by omega)
 refine ⟨fun i hi => ?_, fun i => ?_, fun j hj => ?_⟩
 ·by_cases he : i = 64 - k
  ·subst he; exact ⟨_, World.cell?_setCell_same _ _ _ hc⟩
  ·obtain ⟨c', hc'⟩ := h.all i hi
   exact ⟨c', by rw [World.cell?_setCell_other _ _ _ _ (by simp)]; exact hc'⟩
 ·rw [World.frozen?_setCell]; exact h.fz i
 ·by_cases he : j = k
  ·subst he; exact World.cell?_setCell_same _ _ _ hc
  ·rw [World.cell?_setCell_other _ _ _ _ (by simp <;> omega)]; exact h.dig j (by omega)
theorem bits15_64 (v : Nat) (h : v < 18446744073709551616) : bits .and .u64 (v : Int) 15 = ((v % 16 : Nat) : Int) := by
 have h1 : v &&& 15 = v % 16 := Nat.and_two_pow_sub_one_eq_mod v 4
 have e1 : ((v : Int) % (2 ^ 64 : Nat)).toNat = v := by omega
 have e2 : ((15 : Int) % (2 ^ 64 : Nat)).toNat = 15 := by decide
 have e3 : bits .and .u64 (v : Int) 15 = IntKind.u64.wrap (((BitVec.ofInt 64 (v : Int) &&& BitVec.ofInt 64 (15 : Int)).toNat : Nat) : Int) := rfl
 rw [e3, BitVec.toNat_and, BitVec.toNat_ofInt, BitVec.toNat_ofInt, e1, e2, h1]
 simp only [IntKind.wrap, IntKind.signed, IntKind.bits, Bool.false_and, Bool.false_eq_true, if_false]
 omega
def digB : ByteArray := ⟨#[48, 49, 50, 51, 52, 53, 54, 55, 56, 57, 97, 98, 99, 100, 101, 102, 103, 104, 105, 106, 107, 108, 109, 110, 111, 112, 113, 114, 115, 116, 117, 118, 119, 120, 121, 122]⟩
theorem digB_get (i : Nat) (h : i < digB.size) (h16 : i < 16) : digB[i] = hexC i := by
 have : i = 0 ∨ i = 1 ∨ i = 2 ∨ i = 3 ∨ i = 4 ∨ i = 5 ∨ i = 6 ∨ i = 7 ∨ i = 8 ∨ i = 9 ∨ i = 10 ∨ i = 11 ∨ i = 12 ∨ i = 13 ∨ i = 14 ∨ i = 15 := by omega
 rcases this with rfl | rfl | rfl | rfl | rfl | rfl | rfl | rfl | rfl | rfl | rfl | rfl | rfl | rfl | rfl | rfl
 all_goals rfl
theorem hexN_len : ∀ n u, (hexN n u).length = n
 | 0, _ => rfl
 | n + 1, u => by simp [hexN, hexN_len n u]
theorem hexN_get : ∀ n u j, j < n -> (hexN n u)[j]? = some (hexC (u / 16 ^ (n - 1 - j) % 16))
 | 0, _, _, h => absurd h (Nat.not_lt_zero _)
 | n + 1, u, 0, _ => by simp [hexN]
 | n + 1, u, j + 1, h => by
  rw [hexN, List.getElem?_cons_succ, hexN_get n u j (by omega)]
  congr 5
  omega
set_option maxHeartbeats 6400000 in
set_option maxRecDepth 100000 in
theorem fb_c (u : Nat) (hu : u < 18446744073709551616) (w : World) (hc : TzAt 5 w) :
  Calls Tryz.prog 196 #[.slice none 0 0, .int .u64 u, .int .i64 16, .bool false, .bool false] w fun e w' => (∃ n, 1 <= n /\ n <= 16 /\ u < 16 ^ n /\ (n = 1 ∨ 16 ^ (n - 1) <= u) /\ e = .returned (.tuple #[.slice none 0 0, .string ⟨(hexN n u).toArray⟩])) /\ Below w.heap.size w w' := by
 have hc1 := hc.below ((Below.refl _ _).alloc (Nat.le_refl _) (.cells (Array.replicate 65 (.int .u8 0)) 259))
 go_enter Tryz.func196, Tryz.ntmps196
 go_wp2_with (first | (go_at_call 230; refine (pow2_c _).mono ?_; rintro e w' ⟨rfl, rfl⟩) | (go_at_call 231; refine (tz_c _ hc1).mono ?_; rintro e w' ⟨rfl, rfl⟩))
 clear hc1
 have hR0 : RowA u w.heap.size 0 (w.alloc (.cells (Array.replicate 65 (.int .u8 0)) 259)) := ⟨fun i hi => ⟨.int .u8 0, by rw [World.cell?_alloc_new, Array.getElem?_replicate, if_pos hi]⟩, fun i => World.frozen?_alloc_new _ _ _ _, fun j hj => absurd hj (Nat.not_lt_zero _)⟩
 go_loopg [1, 13] (u) (fun g s1 s13 wx => ∃ k v : Nat, s1 = .int .u64 (v : Int) /\ g = v /\ v = u / 16 ^ k /\ s13 = .int .i64 ((65 - k : Nat) : Int) /\ k <= 15 /\ (k = 0 ∨ 16 ^ k <= u) /\ Hid (RowA u w.heap.size k wx) /\ Hid (Below w.heap.size w wx))
 case atStart => exact ⟨0, u, rfl, rfl, by simp, rfl, by omega, .inl rfl, Lib.hid hR0, Lib.hid ((Below.refl w.heap.size w).alloc (Nat.le_refl _) _)⟩
 case round =>
  obtain ⟨k, v, rfl, rfl, hv, rfl, hk15, hk0, HR, HW⟩ := hrel
  have hBw : w.heap.size <= wr.heap.size := HW.out.size
  have HV := Lib.hid hv
  have hvu : gk < 18446744073709551616 := by rw [hv]; exact Nat.lt_of_le_of_lt (Nat.div_le_self _ _) hu
  obtain ⟨c0, hc0⟩ := HR.out.all (64 - k) (by omega)
  have hf0 := HR.out.fz (64 - k)
  have w1 : IntKind.i64.wrap (((65 - k : Nat) : Int) - 1) = ((64 - k : Nat) : Int) := by simp [IntKind.wrap, IntKind.signed, IntKind.bits]; omega
  have ge0 : (0 : Int) <= ((64 - k : Nat) : Int) := by omega
  have lt0 : ((64 - k : Nat) : Int) < 65 := by omega
  have to0 : (((64 - k : Nat) : Int)).toNat = 64 - k := by omega
  have HK := Lib.hid hk0
  clear hv hk0
  by_cases hge : 16 <= gk
  ·have hge' : (16 : Int) <= (gk : Int) := by omega
   have hbit : bits .and .u64 (gk : Int) 15 = ((gk % 16 : Nat) : Int) := bits15_64 gk hvu
   obtain ⟨d, hd⟩ : ∃ d, d = gk % 16 := ⟨_, rfl⟩
   rw [← hd] at hbit
   have HD := Lib.hid hd
   have hd16 : d < 16 := by omega
   have i1 : (0 : Int) <= (d : Int) := by omega
   have i2 : (d : Int) < 36 := by omega
   have i3 : ((d : Int)).toNat = d := by omega
   clear hd
   go_wp2_with fail
   go_roundg (gk / 16)
   case measure => omega
   case rel =>
    have h16 : 16 ^ (k + 1) <= u := by
     have := HV.out
     rw [this] at hge
     have h := (Nat.le_div_iff_mul_le (Nat.pow_pos (by decide : 0 < 16))).1 hge
     rw [Nat.pow_succ]; omega
    refine ⟨k + 1, gk / 16, by rw [show ((gk : Int) / 16) = ((gk / 16 : Nat) : Int) by omega], rfl, by rw [HV.out, Nat.div_div_eq_div_mul, ← Nat.pow_succ], by rw [show 65 - (k + 1) = 64 - k by omega], ?_, .inr h16, Lib.hid ?_, Lib.hid (HW.out.setCell (p := ⟨w.heap.size, 64 - k, none⟩) (Nat.le_refl _) _)⟩
    ·have hk : k ≠ 15 := by
      rintro rfl
      have : (16 : Nat) ^ (15 + 1) = 18446744073709551616 := by decide
      omega
     omega
    ·have h := HR.out.put (by omega)
     have hs : d < digB.size := by show d < 36; omega
     rw [← HV.out, ← HD.out, ← digB_get d hs hd16] at h
     exact h
  ·have hge' : ¬ (16 : Int) <= (gk : Int) := by omega
   have hg16 : gk < 16 := by omega
   have i1 : (0 : Int) <= (gk : Int) := by omega
   have i2 : (gk : Int) < 36 := by omega
   have i3 : ((gk : Int)).toNat = gk := by omega
   have hs : gk < digB.size := by show gk < 36; omega
   have HP : Hid (RowA u w.heap.size (k + 1) (wr.setCell ⟨w.heap.size, 64 - k, none⟩ (.int .u8 ((digB[gk]'hs).toNat : Int)))) := Lib.hid (by
    have h := HR.out.put (by omega)
    rw [← HV.out, Nat.mod_eq_of_lt hg16, ← digB_get gk hs hg16] at h
    exact h)
   have hW2 := Lib.hid (HW.out.setCell (p := ⟨w.heap.size, 64 - k, none⟩) (Nat.le_refl _) (.int .u8 ((digB[gk]'hs).toNat : Int)))
   have hal : Tryz.prog.arrayLen 259 = 65 := by simp [Program.arrayLen, Tryz.underlying259]
   have hsl : ∀ W, (Instr.sliceAt 259 (.pointer (some ⟨w.heap.size, 0, none⟩)) (some (.int .i64 ((64 - k : Nat) : Int))) none none).run Tryz.prog W = .ok (.slice (some ⟨w.heap.size, 64 - k, none⟩) (k + 1) (k + 1)) W := fun W => by
    rw [run_sliceAt_array_l (t := 259) (P := Tryz.prog) W ⟨w.heap.size, 0, none⟩ (by simp [Program.arrayLen, Program.elem, Tryz.underlying259]) .i64 ((64 - k : Nat) : Int) (by omega) (by rw [hal]; omega)]
    rw [hal]
    go_simp
    omega
   have hcv : (convert 66 9 (.slice (some ⟨w.heap.size, 64 - k, none⟩) (k + 1) (k + 1))).run Tryz.prog (wr.setCell ⟨w.heap.size, 64 - k, none⟩ (.int .u8 ((digB[gk]'hs).toNat : Int))) = .ok (.string ⟨(hexN (k + 1) u).toArray⟩) (wr.setCell ⟨w.heap.size, 64 - k, none⟩ (.int .u8 ((digB[gk]'hs).toNat : Int))) := by
    have h := run_convert_bytes_back (P := Tryz.prog) (wr.setCell ⟨w.heap.size, 64 - k, none⟩ (.int .u8 ((digB[gk]'hs).toNat : Int))) 66 9 5 ⟨w.heap.size, 64 - k, none⟩ (k + 1) (hexN (k + 1) u) Tryz.underlying66 Tryz.underlying5 Tryz.underlying9 (fun j hj => by
     rw [hexN_len] at hj
     have hg := hexN_get (k + 1) u j hj
     have hd := HP.out.dig (k - j) (by omega)
     rw [Lib.add_plain, show 64 - k + j = 64 - (k - j) by omega, hd]
     obtain ⟨hlt, he⟩ := List.getElem?_eq_some_iff.1 hg
     rw [he]
     congr 7)
    rw [hexN_len] at h
    exact h
   have hul : u < 16 ^ (k + 1) := by
    have h := HV.out
    rw [h] at hg16
    have := (Nat.div_lt_iff_lt_mul (Nat.pow_pos (by decide : 0 < 16))).1 hg16
    rw [Nat.pow_succ]; omega
   have hor : k + 1 = 1 ∨ 16 ^ (k + 1 - 1) <= u := by
    rcases HK.out with h | h
    ·exact .inl (by omega)
    ·exact .inr h
   have HCV := Lib.hid hcv
   clear hcv
   go_wp2_with fail
   erw [HCV.out]
   go_wp2_with fail
   go_ret2
   exact ⟨⟨k + 1, by omega, by omega, hul, hor, rfl⟩, hW2.out⟩
section
open Go.RowKit Go.Sort
theorem below_grow (w : World) (k : Nat) (os : Array Obj) : Below w.heap.size w (grow (w.drewN k) os) :=
 ⟨rfl, rfl, rfl, by simp [grow, World.drewN], fun i hi => by simp [grow, World.drewN, Array.getElem?_append_left hi]⟩
set_option maxRecDepth 100000 in
theorem fu16_in (u : Nat) (hu : u < 18446744073709551616) (w : World) (hc : TzAt 5 w) :
  Calls Tryz.prog 144 #[.int .u64 u, .int .i64 16] w fun e w' => (∃ n, 1 <= n /\ n <= 16 /\ u < 16 ^ n /\ (n = 1 ∨ 16 ^ (n - 1) <= u) /\ e = .returned (.string ⟨(hexN n u).toArray⟩)) /\ Below w.heap.size w w' := by
 go_enter Tryz.func144, Tryz.ntmps144
 go_wp2_with (go_at_call 196; refine (fb_c u hu _ hc).mono ?_)
 rintro e w' ⟨⟨n, h1, h2, h3, h4, rfl⟩, hb⟩
 go_wp2_with fail
 go_ret
 exact ⟨⟨n, h1, h2, h3, h4, rfl⟩, hb⟩
set_option maxRecDepth 100000 in
theorem fu16_c (u : Nat) (hu : u < 18446744073709551616) (w : World) (hc : TzAt 5 w) :
  Calls Tryz.prog 80 #[.int .u64 u, .int .i64 16] w fun e w' => (∃ n, 1 <= n /\ n <= 16 /\ u < 16 ^ n /\ (n = 1 ∨ 16 ^ (n - 1) <= u) /\ e = .returned (.string ⟨(hexN n u).toArray⟩)) /\ Below w.heap.size w w' := by
 go_enter Tryz.func80, Tryz.ntmps80
 go_wp2_with (go_at_call 144; refine (fu16_in u hu _ hc).mono ?_)
 rintro e w' ⟨⟨n, h1, h2, h3, h4, rfl⟩, hb⟩
 go_wp2_with fail
 go_ret
 exact ⟨⟨n, h1, h2, h3, h4, rfl⟩, hb⟩
set_option maxRecDepth 100000 in
theorem fu10_c (u : Nat) (hu : u < 18446744073709551616) (w : World) (hc : PowAt 1 w) :
  Calls Tryz.prog 80 #[.int .u64 u, .int .i64 10] w fun e w' => e = .returned (.string ⟨(Lib.decDigits u).toArray⟩) /\ Below w.heap.size w w' := by
 go_enter Tryz.func80, Tryz.ntmps80
 go_wp2_with (go_at_call 144; refine (fu10_in u hu _ hc).mono ?_)
 rintro e w' ⟨rfl, k, os, rfl⟩
 have hb := Lib.hid (below_grow w k os)
 go_wp2_with fail
 go_ret
 exact ⟨rfl, hb.out⟩
end
section
open Go.Shelf Go.RowKit Go.Sort Go.Lib
abbrev u8v (b : UInt8) : Value := Value.int .u8 (b.toNat : Int)
abbrev arr (w : World) (dk : Array UInt8) (k : Nat) : World := (putRow u8v (w.alloc (.cells Lib.zeros24 226)) w.heap.size 1 dk).drewN k
theorem arr_dig {u v' k : Nat} {dk : Array UInt8} {w : World} (hn : 1 + Lib.nDigits u <= 24) (hF : FmtInv (Lib.nDigits u) u 0 v' dk) (j : Nat) (hj : j < (Lib.decDigits u).length) : (arr w dk k).cell? ⟨w.heap.size, 1 + j, none⟩ = some (.int .u8 ((Lib.decDigits u)[j].toNat : Int)) := by
 rw [Lib.row_is_numeral hF j hj, World.cell?_drewN]
 exact cell?_putRow u8v _ w.heap.size 1 _ dk (Lib.holds_zero w 226 (Lib.nDigits u) hn) (by rw [hF.size, Array.size_replicate]) j (by rw [hF.size]; rw [Lib.decDigits_length] at hj; exact hj)
theorem fmt1_c (u : Nat) (hu : u < 18446744073709551616) (hn : 1 + Lib.nDigits u <= 24) (w : World) : Calls Tryz.prog 195 #[.slice (some ⟨w.heap.size, 1, none⟩) (Lib.nDigits u) 23, .int .u64 u] (w.alloc (.cells Lib.zeros24 226)) fun e w' =>
  e = .returned (.tuple #[]) /\ ∃ k v' dk, w' = arr w dk k /\ FmtInv (Lib.nDigits u) u 0 v' dk := by
 have h := Any.internal_strconv_formatBase10 (P := Tryz.prog) (ρ := Tryz.laysM171_ren) { Tryz.laysM171 with } w.heap.size 1 23 u (Array.replicate (Lib.nDigits u) 0) (w.alloc (.cells Lib.zeros24 226)) (Lib.holds_zero w _ _ hn) (by rw [Array.size_replicate]; exact Lib.lt_pow_nDigits u) hu (by rw [Array.size_replicate]; omega)
 rw [Array.size_replicate] at h
 exact h.mono fun e w' ⟨h1, k, v', dk, h2, h3⟩ => ⟨h1, k, v', dk, h2, h3⟩
theorem slice24 (lo hi : Nat) (h0 : lo < 24) (h1 : lo <= hi) (h2 : hi <= 24) (A : Nat) (W : World) : (Instr.sliceAt 226 (.pointer (some ⟨A, 0, none⟩)) (some (.int .i64 (lo : Int))) (some (.int .i64 (hi : Int))) none).run Tryz.prog W = .ok (.slice (some ⟨A, lo, none⟩) (hi - lo) (24 - lo)) W := by
 have hal : Tryz.prog.arrayLen 226 = 24 := by simp [Program.arrayLen, Tryz.underlying226]
 rw [run_sliceAt_array_lh W 226 ⟨A, 0, none⟩ (by simp [Program.arrayLen, Program.elem, Tryz.underlying226]) .i64 .i64 (lo : Int) (hi : Int) (by omega) (by omega) (by rw [hal]; omega), hal]
 go_simp
 omega
set_option maxHeartbeats 6400000 in
set_option maxRecDepth 100000 in
theorem fi_pos (u : Nat) (h1 : 100 <= u) (h2 : u <= 9223372036854775807) (w : World) (hc : PowAt 1 w) :
  Calls Tryz.prog 191 #[.int .i64 u, .int .i64 10] w fun e w' => e = .returned (.string ⟨(Lib.decDigits u).toArray⟩) /\ Below w.heap.size w w' := by
 have hu : u < 18446744073709551616 := by omega
 have hn20 : Lib.nDigits u <= 20 := by have := Lib.numDigits_eq u (by omega) hu; split at this <;> omega
 have hn : 1 + Lib.nDigits u <= 24 := by omega
 have n0 : ¬ (u : Int) < 100 := by omega
 have n1 : ¬ (u : Int) < 0 := by omega
 have n2 : (0 : Int) <= (u : Int) := by omega
 have wr : IntKind.u64.wrap (u : Int) = u := by rw [IntKind.wrap_u64]; omega
 have w1 : IntKind.i64.wrap (1 + (Lib.nDigits u : Int)) = 1 + (Lib.nDigits u : Int) := by simp [IntKind.wrap, IntKind.signed, IntKind.bits]; omega
 have hs : ∀ W, (Instr.sliceAt 226 (.pointer (some ⟨w.heap.size, 0, none⟩)) (some (.int .i64 1)) (some (.int .i64 (1 + (Lib.nDigits u : Int)))) none).run Tryz.prog W = .ok (.slice (some ⟨w.heap.size, 1, none⟩) (Lib.nDigits u) 23) W := fun W => by
  have h := slice24 1 (1 + Lib.nDigits u) (by decide) (by omega) hn w.heap.size W
  rw [show 1 + Lib.nDigits u - 1 = Lib.nDigits u by omega] at h
  exact_mod_cast h
 have hca := hc.below ((Below.refl _ _).alloc (Nat.le_refl _) (.cells Lib.zeros24 226))
 clear hc
 go_enter Tryz.func191, Tryz.ntmps191
 go_wp2_with (go_at_call 194; refine (nd_c u (by omega) hu _ hca).mono ?_; rintro e w' ⟨rfl, rfl⟩)
 go_at_call 195
 refine (fmt1_c u hu hn w).mono ?_
 rintro e w' ⟨rfl, k, v', dk, rfl, hF⟩
 have hcv : (convert 66 9 (.slice (some ⟨w.heap.size, 1, none⟩) (Lib.nDigits u) 23)).run Tryz.prog (arr w dk k) = .ok (.string ⟨(Lib.decDigits u).toArray⟩) (arr w dk k) := by
  have h := run_convert_bytes_back (P := Tryz.prog) (arr w dk k) 66 9 5 ⟨w.heap.size, 1, none⟩ 23 (Lib.decDigits u) Tryz.underlying66 Tryz.underlying5 Tryz.underlying9 (fun j hj => by rw [Lib.add_plain]; exact arr_dig hn hF j hj)
  rw [Lib.decDigits_length] at h
  exact h
 go_wp2
 go_ret
 obtain ⟨os, eo⟩ := Lib.fin_pos w (.cells Lib.zeros24 226) dk k
 exact ⟨rfl, by rw [show arr w dk k = _ from eo]; exact below_grow w k os⟩
set_option maxHeartbeats 6400000 in
set_option maxRecDepth 100000 in
theorem fi_neg (u : Nat) (h1 : 1 <= u) (h2 : u <= 9223372036854775808) (w : World) (hc : PowAt 1 w) :
  Calls Tryz.prog 191 #[.int .i64 (-(u : Int)), .int .i64 10] w fun e w' => e = .returned (.string ⟨(45 :: Lib.decDigits u).toArray⟩) /\ Below w.heap.size w w' := by
 have hu : u < 18446744073709551616 := by omega
 have hn20 : Lib.nDigits u <= 20 := by have := Lib.numDigits_eq u (by omega) hu; split at this <;> omega
 have hn : 1 + Lib.nDigits u <= 24 := by omega
 have n1 : (-(u : Int)) < 0 := by omega
 have n2 : ¬ (0 : Int) <= -(u : Int) := by omega
 have wr : IntKind.u64.wrap (-IntKind.u64.wrap (-(u : Int))) = (u : Int) := by rw [IntKind.wrap_u64, IntKind.wrap_u64]; omega
 have w1 : IntKind.i64.wrap (1 + (Lib.nDigits u : Int)) = 1 + (Lib.nDigits u : Int) := by simp [IntKind.wrap, IntKind.signed, IntKind.bits]; omega
 have hs : ∀ W, (Instr.sliceAt 226 (.pointer (some ⟨w.heap.size, 0, none⟩)) (some (.int .i64 1)) (some (.int .i64 (1 + (Lib.nDigits u : Int)))) none).run Tryz.prog W = .ok (.slice (some ⟨w.heap.size, 1, none⟩) (Lib.nDigits u) 23) W := fun W => by
  have h := slice24 1 (1 + Lib.nDigits u) (by decide) (by omega) hn w.heap.size W
  rw [show 1 + Lib.nDigits u - 1 = Lib.nDigits u by omega] at h
  exact_mod_cast h
 have hs0 : ∀ W, (Instr.sliceAt 226 (.pointer (some ⟨w.heap.size, 0, none⟩)) none (some (.int .i64 (1 + (Lib.nDigits u : Int)))) none).run Tryz.prog W = .ok (.slice (some ⟨w.heap.size, 0, none⟩) (1 + Lib.nDigits u) 24) W := fun W => by
  have hal : Tryz.prog.arrayLen 226 = 24 := by simp [Program.arrayLen, Tryz.underlying226]
  rw [run_sliceAt_array_h W 226 ⟨w.heap.size, 0, none⟩ (by simp [Program.arrayLen, Program.elem, Tryz.underlying226]) .i64 (1 + (Lib.nDigits u : Int)) (by omega) (by rw [hal]; omega)]
  go_simp
  omega
 have hca := hc.below ((Below.refl _ _).alloc (Nat.le_refl _) (.cells Lib.zeros24 226))
 clear hc
 go_enter Tryz.func191, Tryz.ntmps191
 go_wp2_with (go_at_call 194; refine (nd_c u (by omega) hu _ hca).mono ?_; rintro e w' ⟨rfl, rfl⟩)
 go_at_call 195
 refine (fmt1_c u hu hn w).mono ?_
 rintro e w' ⟨rfl, k, v', dk, rfl, hF⟩
 have hc0 : (arr w dk k).cell? ⟨w.heap.size, 0, none⟩ = some (.int .u8 0) := by
  rw [World.cell?_drewN, cell?_putRow_other _ _ _ _ _ _ (Or.inr (Or.inl (Nat.zero_lt_one))), World.cell?_alloc_new]
  exact Lib.zeros24_at 0 (by omega)
 have hf0 : (arr w dk k).frozen? ⟨w.heap.size, 0, none⟩ = false := by
  rw [World.frozen?_drewN, frozen?_putRow]
  exact World.frozen?_alloc_new _ _ _ _
 have hcv : (convert 66 9 (.slice (some ⟨w.heap.size, 0, none⟩) (1 + Lib.nDigits u) 24)).run Tryz.prog ((arr w dk k).setCell ⟨w.heap.size, 0, none⟩ (.int .u8 45)) = .ok (.string ⟨(45 :: Lib.decDigits u).toArray⟩) ((arr w dk k).setCell ⟨w.heap.size, 0, none⟩ (.int .u8 45)) := by
  have h := run_convert_bytes_back (P := Tryz.prog) ((arr w dk k).setCell ⟨w.heap.size, 0, none⟩ (.int .u8 45)) 66 9 5 ⟨w.heap.size, 0, none⟩ 24 (45 :: Lib.decDigits u) Tryz.underlying66 Tryz.underlying5 Tryz.underlying9 (fun j hj => by
   rw [Lib.add_plain]
   cases j with
   | zero => exact World.cell?_setCell_same _ _ _ hc0
   | succ i =>
    rw [World.cell?_setCell_other _ _ _ _ (by simp), List.getElem_cons_succ, show 0 + (i + 1) = 1 + i by omega]
    exact arr_dig hn hF i (by simpa using hj))
  rw [List.length_cons, Lib.decDigits_length, Nat.add_comm] at h
  exact h
 go_wp2
 go_ret
 obtain ⟨os, eo⟩ := Lib.fin_neg w (.cells Lib.zeros24 226) dk k (.int .u8 45)
 exact ⟨rfl, by rw [show (arr w dk k).setCell ⟨w.heap.size, 0, none⟩ (.int .u8 45) = _ from eo]; exact below_grow w k os⟩
set_option maxRecDepth 100000 in
theorem fi_small (u : Nat) (h : u < 100) (w : World) :
  Calls Tryz.prog 191 #[.int .i64 u, .int .i64 10] w fun e w' => e = .returned (.string ⟨(Lib.decDigits u).toArray⟩) /\ Below w.heap.size w w' := by
 go_enter Tryz.func191, Tryz.ntmps191
 go_wp2_with (go_at_call 193; refine (small_c u h _).mono ?_; rintro e w' ⟨rfl, rfl⟩)
 go_ret
 exact ⟨rfl, Below.refl _ _⟩
theorem fi_c (n : Int) (h0 : -9223372036854775808 <= n) (h1 : n <= 9223372036854775807) (w : World) (hc : PowAt 1 w) :
  Calls Tryz.prog 191 #[.int .i64 n, .int .i64 10] w fun e w' => e = .returned (.string ⟨(Lib.itoa n).toArray⟩) /\ Below w.heap.size w w' := by
 by_cases hn : n < 0
 ·obtain ⟨u, rfl⟩ : ∃ u : Nat, n = -(u : Int) := ⟨n.natAbs, by omega⟩
  rw [Lib.itoa_neg u (by omega)]
  exact fi_neg u (by omega) (by omega) w hc
 ·obtain ⟨u, rfl⟩ : ∃ u : Nat, n = u := ⟨n.toNat, by omega⟩
  rw [Lib.itoa_nonneg]
  by_cases hs : u < 100
  ·exact fi_small u hs w
  ·exact fi_pos u (by omega) (by omega) w hc
set_option maxRecDepth 100000 in
theorem itoa_in (n : Int) (h0 : -9223372036854775808 <= n) (h1 : n <= 9223372036854775807) (w : World) (hc : PowAt 1 w) :
  Calls Tryz.prog 141 #[.int .i64 n] w fun e w' => e = .returned (.string ⟨(Lib.itoa n).toArray⟩) /\ Below w.heap.size w w' := by
 go_enter Tryz.func141, Tryz.ntmps141
 go_wp2_with (go_at_call 191; refine (fi_c n h0 h1 _ hc).mono ?_)
 rintro e w' ⟨rfl, hb⟩
 go_wp2_with fail
 go_ret
 exact ⟨rfl, hb⟩
set_option maxRecDepth 100000 in
theorem itoa_c (n : Int) (h0 : -9223372036854775808 <= n) (h1 : n <= 9223372036854775807) (w : World) (hc : PowAt 1 w) :
  Calls Tryz.prog 76 #[.int .i64 n] w fun e w' => e = .returned (.string ⟨(Lib.itoa n).toArray⟩) /\ Below w.heap.size w w' := by
 go_enter Tryz.func76, Tryz.ntmps76
 go_wp2_with (go_at_call 141; refine (itoa_in n h0 h1 _ hc).mono ?_)
 rintro e w' ⟨rfl, hb⟩
 go_wp2_with fail
 go_ret
 exact ⟨rfl, hb⟩
end
theorem arg_v {σ : Sg} {l : List AV} {a : Value} {cs : List Value} (h : Rels σ (.v a :: l) cs) : ∃ r, cs = a :: r /\ Rels σ l r := by
 obtain ⟨h1, h2⟩ := h
 cases cs with
 | nil => simp at h1
 | cons c r =>
  obtain ⟨x, h3, h4⟩ := h2 0 (.v a) rfl
  simp at h3; subst h3
  cases h4
  refine ⟨r, rfl, by simpa using h1, fun i av hi => ?_⟩
  exact h2 (i + 1) av (by simpa using hi)
theorem arg_0 {σ : Sg} {cs : List Value} (h : Rels σ [] cs) : cs = [] := List.eq_nil_of_length_eq_zero (by have := h.1; simp only [List.length_nil] at this; omega)
theorem arr_of {c : Array Value} {l : List Value} (h : c.toList = l) : c = l.toArray := by rw [← h]
theorem glob_cell {w : World} {outer : Nat -> Nat -> Prop} {gl : List (Nat × List AV)} (hg : Globs w outer gl) {g : Nat} {cells : List AV} (hm : (g, cells) ∈ gl) {i : Nat} {x : Value} (hi : cells[i]? = some (.v x)) : w.cell? ⟨g, i, none⟩ = some x := by
 have h := hg g cells hm
 cases h with
 | elt _ _ _ _ xs hc hr =>
  obtain ⟨h1, _, _⟩ := hc i _ hi
  have h2 := hr i _ hi
  rw [Nat.zero_add] at h1
  cases h2
  exact h1
theorem pow_of {w : World} {outer : Nat -> Nat -> Prop} {mg : Int} (hg : Globs w outer (GLm mg)) : PowAt 1 w := by
 intro i hi
 refine glob_cell hg (g := 1) (cells := (List.range 20).map fun i => AV.v (.int .u64 ((10 ^ i : Nat) : Int))) ?_ (by simp [hi])
 show _ ∈ GLm mg
 rw [show (List.range 20).map (fun i => AV.v (.int .u64 ((10 ^ i : Nat) : Int))) = _ from rfl]
 simp [GLm, List.range, List.range.loop]
theorem tz_of {w : World} {outer : Nat -> Nat -> Prop} {mg : Int} (hg : Globs w outer (GLm mg)) : TzAt 5 w :=
 glob_cell hg (g := 5) (i := 15) (by simp only [GLm, List.mem_cons]; exact .inr (.inl rfl)) rfl
def hexL (u : Nat) : Nat := if h : u < 16 then 1 else hexL (u / 16) + 1
theorem hexL_eq : ∀ (n u : Nat), 1 <= n -> u < 16 ^ n -> (n = 1 ∨ 16 ^ (n - 1) <= u) -> hexL u = n
 | 0, _, h, _, _ => absurd h (by decide)
 | 1, u, _, h, _ => by rw [hexL, dif_pos (by simpa using h)]
 | n + 2, u, _, h1, h2 => by
  have h3 : 16 ^ (n + 1) <= u := by simpa using h2
  have hp : 1 <= 16 ^ n := Nat.pow_pos (by decide)
  rw [hexL, dif_neg (by rw [Nat.pow_succ] at h3; omega)]
  rw [hexL_eq (n + 1) (u / 16) (by omega) (by rw [Nat.div_lt_iff_lt_mul (by decide)]; rw [Nat.pow_succ] at h1; omega) ?_]
  by_cases hn : n = 0
  ·exact .inl (by omega)
  ·refine .inr ?_
   rw [Nat.le_div_iff_mul_le (by decide)]
   rw [Nat.pow_succ] at h3
   simpa using h3
def hexB (u : Nat) : ByteArray := ⟨(hexN (hexL u) u).toArray⟩
def decB (u : Nat) : ByteArray := ⟨(Lib.decDigits u).toArray⟩
theorem fu16_p (mg : Int) (u : Nat) (hu : u < 18446744073709551616) : strconv_FormatUint mg u 16 (hexB u) := by
 refine ⟨⟨_, Tryz.func80, by kernel_rfl, by kernel_rfl⟩, fun w outer cargs ho hg hr => ?_⟩
 obtain ⟨r1, e1, h1⟩ := arg_v hr
 obtain ⟨r2, e2, h2⟩ := arg_v h1
 rw [e2, arg_0 h2] at e1
 rw [arr_of e1]
 refine (fu16_c u hu w (tz_of hg)).mono fun e w' ⟨⟨n, k1, k2, k3, k4, he⟩, hb⟩ => ⟨.v (.string (hexB u)), _, ?_, Past.of_below hb, .v _ rfl, rfl⟩
 rw [he, hexB, hexL_eq n u k1 k3 k4]
theorem fu10_p (mg : Int) (u : Nat) (hu : u < 18446744073709551616) : strconv_FormatUint mg u 10 (decB u) := by
 refine ⟨⟨_, Tryz.func80, by kernel_rfl, by kernel_rfl⟩, fun w outer cargs ho hg hr => ?_⟩
 obtain ⟨r1, e1, h1⟩ := arg_v hr
 obtain ⟨r2, e2, h2⟩ := arg_v h1
 rw [e2, arg_0 h2] at e1
 rw [arr_of e1]
 exact (fu10_c u hu w (pow_of hg)).mono fun e w' ⟨he, hb⟩ => ⟨.v (.string (decB u)), _, he, Past.of_below hb, .v _ rfl, rfl⟩
theorem itoa_p (mg : Int) (n : Int) (h0 : -9223372036854775808 <= n) (h1 : n <= 9223372036854775807) : strconv_Itoa mg n ⟨(Lib.itoa n).toArray⟩ := by
 refine ⟨⟨_, Tryz.func76, by kernel_rfl, by kernel_rfl⟩, fun w outer cargs ho hg hr => ?_⟩
 obtain ⟨r1, e1, q1⟩ := arg_v hr
 rw [arg_0 q1] at e1
 rw [arr_of e1]
 exact (itoa_c n h0 h1 w (pow_of hg)).mono fun e w' ⟨he, hb⟩ => ⟨.v (.string ⟨(Lib.itoa n).toArray⟩), _, he, Past.of_below hb, .v _ rfl, rfl⟩
def escV (b : Nat) : ByteArray := ⟨#[92, 120, hexC (b / 16), hexC (b % 16)]⟩
def formV (s : ByteArray) (p : Nat) : ByteArray :=
 if byteN s p = 34 then ⟨#[92, 34]⟩ else if byteN s p = 92 then ⟨#[92, 92]⟩ else if byteN s p = 10 then ⟨#[92, 110]⟩ else if byteN s p = 9 then ⟨#[92, 116]⟩ else if byteN s p = 13 then ⟨#[92, 114]⟩
 else if byteN s p < 32 ∨ byteN s p = 127 ∨ sizeAt s p = 0 then escV (byteN s p) else s.extract p (p + sizeAt s p)
theorem dig_ex (a : Nat) (h : a < 16) : (⟨#[48, 49, 50, 51, 52, 53, 54, 55, 56, 57, 97, 98, 99, 100, 101, 102]⟩ : ByteArray).extract a (a + 1) = ⟨#[hexC a]⟩ := by
 have : a = 0 ∨ a = 1 ∨ a = 2 ∨ a = 3 ∨ a = 4 ∨ a = 5 ∨ a = 6 ∨ a = 7 ∨ a = 8 ∨ a = 9 ∨ a = 10 ∨ a = 11 ∨ a = 12 ∨ a = 13 ∨ a = 14 ∨ a = 15 := by omega
 rcases this with rfl | rfl | rfl | rfl | rfl | rfl | rfl | rfl | rfl | rfl | rfl | rfl | rfl | rfl | rfl | rfl
 all_goals rfl
theorem and15 (b : Nat) (h : b < 256) : bitsOf .and .u8 (b : Int) 15 = ((b % 16 : Nat) : Int) := by
 have : ∀ c : Fin 256, bitsOf .and .u8 ((c.val : Nat) : Int) 15 = ((c.val % 16 : Nat) : Int) := by decide +kernel
 exact this ⟨b, h⟩
theorem shr4 (b : Nat) (h : b < 256) : (b : Int).fdiv (2 ^ min (4 : Int).toNat IntKind.u8.bits) = ((b / 16 : Nat) : Int) := by
 have : ∀ c : Fin 256, ((c.val : Nat) : Int).fdiv (2 ^ min (4 : Int).toNat IntKind.u8.bits) = ((c.val / 16 : Nat) : Int) := by decide +kernel
 exact this ⟨b, h⟩
theorem wr16 (a : Nat) (h : a < 16) : IntKind.u8.wrap ((a : Int) + 1) = ((a + 1 : Nat) : Int) := by simp [IntKind.wrap, IntKind.signed, IntKind.bits]; omega
theorem escape_is (b : Nat) (h : b < 256) : utf_escape b (escV b) := by
 refine utf_escape_step _ _ ?_
 rw [shr4 b h, and15 b h, wr16 _ (by omega), wr16 _ (by omega)]
 simp only [Int.toNat_natCast]
 rw [dig_ex _ (by omega), dig_ex _ (by omega)]
 refine ⟨⟨by omega, by omega, ?_⟩, ?_, ⟨by omega, by omega, ?_⟩, ?_, ?_⟩
 ·show ((b / 16 + 1 : Nat) : Int) <= 16; omega
 ·show ((2 + 1 : Nat) : Int) <= _; decide
 ·show ((b % 16 + 1 : Nat) : Int) <= 16; omega
 ·show ((2 + 1 + 1 : Nat) : Int) <= _; decide
 ·rfl
theorem dec_low (s : ByteArray) (p : Nat) (h : byteN s p < 128) : Utf8.decode s p = (byteN s p, 1) := by
 rw [Lib.decode_at, ← byteN_get]
 unfold Lib.decodeN
 rw [if_pos h]
theorem dec_high (s : ByteArray) (p : Nat) (h : ¬ byteN s p < 128) : 128 <= (Utf8.decode s p).1 := by
 rw [Lib.decode_at, ← byteN_get]
 unfold Lib.decodeN
 rw [if_neg h]
 repeat' split
 all_goals simp only; omega
theorem rune_low (s : ByteArray) (p : Nat) (k : Nat) (hk : k < 128) : ((Utf8.decode s p).1 = k ↔ byteN s p = k) /\ ((Utf8.decode s p).1 < k ↔ byteN s p < k) := by
 by_cases h : byteN s p < 128
 ·rw [dec_low s p h]; simp
 ·have := dec_high s p h
  omega
theorem enc_list (n : Nat) (hv : n < 55296 ∨ (57344 <= n /\ n <= 1114111)) : (Utf8.encode (n : Int)).data.toList = Lib.encodeRune (n : Int) := by
 have v : Utf8.valid (n : Int) = true := by
  unfold Utf8.valid
  simp only [Bool.or_eq_true, Bool.and_eq_true, decide_eq_true_eq]
  omega
 have b : ∀ (z : Int) (m : Nat), z = (m : Int) -> z.toNat.toUInt8 = UInt8.ofNat m := by intro z m h; subst h; rfl
 unfold Utf8.encode Lib.encodeRune Lib.encodeRuneZ
 rw [v]
 simp only [if_true, Int.toNat_natCast]
 by_cases h1 : n < 128
 ·have e1 : 0 <= (n : Int) /\ (n : Int) <= 127 := by omega
  rw [if_pos h1, if_pos e1]
  simp [b _ n rfl]
 have e1 : ¬ (0 <= (n : Int) /\ (n : Int) <= 127) := by omega
 rw [if_neg h1, if_neg e1]
 by_cases h2 : n < 2048
 ·have e2 : 128 <= (n : Int) /\ (n : Int) <= 2047 := by omega
  rw [if_pos h2, if_pos e2]
  simp [b (192 + (n : Int) / 64) (192 + n / 64) (by omega), b (128 + (n : Int) % 64) (128 + n % 64) (by omega)]
 have e2 : ¬ (128 <= (n : Int) /\ (n : Int) <= 2047) := by omega
 rw [if_neg h2, if_neg e2]
 by_cases h3 : n < 65536
 ·have e3 : (2048 <= (n : Int) /\ (n : Int) < 55296) ∨ (57343 < (n : Int) /\ (n : Int) <= 65535) := by omega
  rw [if_pos h3, if_pos e3]
  simp [b (224 + (n : Int) / 4096) (224 + n / 4096) (by omega), b (128 + (n : Int) / 64 % 64) (128 + n / 64 % 64) (by omega), b (128 + (n : Int) % 64) (128 + n % 64) (by omega)]
 ·have e3 : ¬ ((2048 <= (n : Int) /\ (n : Int) < 55296) ∨ (57343 < (n : Int) /\ (n : Int) <= 65535)) := by omega
  have e4 : 65536 <= (n : Int) /\ (n : Int) <= 1114111 := by omega
  rw [if_neg h3, if_neg e3, if_pos e4]
  simp [b (240 + (n : Int) / 262144) (240 + n / 262144) (by omega), b (128 + (n : Int) / 4096 % 64) (128 + n / 4096 % 64) (by omega), b (128 + (n : Int) / 64 % 64) (128 + n / 64 % 64) (by omega), b (128 + (n : Int) % 64) (128 + n % 64) (by omega)]
theorem enc_ex (s : ByteArray) (p : Nat) (hp : p < s.size) (h0 : sizeAt s p ≠ 0) : Utf8.encode ((Utf8.decode s p).1 : Int) = s.extract p (p + sizeAt s p) := by
 have hd := sizeAt_decode s p
 have hb0 := s.get! p |>.toNat_lt; have hb1 := s.get! (p + 1) |>.toNat_lt; have hb2 := s.get! (p + 2) |>.toNat_lt; have hb3 := s.get! (p + 3) |>.toNat_lt
 have hne : ¬ ((Utf8.decode s p).1 = 65533 /\ (Utf8.decode s p).2 = 1) := by
  rintro ⟨h1, h2⟩
  by_cases hc : 2 < s.size - p /\ (s.get! p).toNat = 239 /\ (s.get! (p + 1)).toNat = 191 /\ (s.get! (p + 2)).toNat = 189
  ·rw [Lib.decode_at, hc.2.1, hc.2.2.1, hc.2.2.2] at h2
   unfold Lib.decodeN at h2
   rw [if_neg (by omega), if_neg (by omega), if_pos (by omega), if_pos (by omega)] at h2
   simp at h2
  ·rw [if_pos ⟨h1, hc⟩] at hd
   exact h0 hd
 rw [if_neg] at hd
 rotate_left
 ·rintro ⟨h1, hc⟩
  rw [if_pos ⟨h1, hc⟩] at hd
  exact h0 hd
 have hl : s.data.toList.drop p ≠ [] := by
  intro h
  have := congrArg List.length h
  simp at this
  omega
 have key := Lib.encode_decode (s.data.toList.drop p) hl (by rw [Lib.decodeL_drop]; exact hne)
 rw [Lib.decodeL_drop] at key
 have hv : (Utf8.decode s p).1 < 55296 ∨ (57344 <= (Utf8.decode s p).1 /\ (Utf8.decode s p).1 <= 1114111) := by
  rw [Lib.decode_at]
  rcases Lib.decodeN_shape (s.size - p) (s.get! p).toNat (s.get! (p + 1)).toNat (s.get! (p + 2)).toNat (s.get! (p + 3)).toNat with ⟨c, e⟩ | ⟨c1, c2, c3, cv, e⟩ | ⟨c1, c2, c3, c4, cv, cs, e⟩ | ⟨c1, c2, c3, c4, c5, cv, cw, e⟩ | e <;> rw [e] <;> simp only <;> omega
 apply ByteArray.ext
 apply Array.toList_inj.1
 rw [enc_list _ hv, key, hd, cut_same]
 simp only [List.toList_toArray]
 rw [List.drop_take]
 congr 1
 omega
theorem form_is (s : ByteArray) (hz : s.size <= 140737488351232) (p : Nat) (hp : p < s.size) : utf_form s (p : Int) ((Utf8.decode s p).1 : Int) (formV s p) := by
 have low := fun k hk => rune_low s p k hk
 have hb := byteN_eq s p
 have hn : ((p : Int)).toNat = p := by omega
 have eqk : ∀ k : Nat, k < 128 -> ((((Utf8.decode s p).1 : Int) == (k : Int)) = decide (byteN s p = k)) := by
  intro k hk
  have := (low k hk).1
  by_cases h : byteN s p = k
  ·have h2 := this.2 h
   simp [h, h2]
  ·have h2 : (Utf8.decode s p).1 ≠ k := fun e => h (this.1 e)
   simp [h]; omega
 have e34 : (((Utf8.decode s p).1 : Int) == 34) = decide (byteN s p = 34) := eqk 34 (by decide)
 have e92 : (((Utf8.decode s p).1 : Int) == 92) = decide (byteN s p = 92) := eqk 92 (by decide)
 have e10 : (((Utf8.decode s p).1 : Int) == 10) = decide (byteN s p = 10) := eqk 10 (by decide)
 have e9 : (((Utf8.decode s p).1 : Int) == 9) = decide (byteN s p = 9) := eqk 9 (by decide)
 have e13 : (((Utf8.decode s p).1 : Int) == 13) = decide (byteN s p = 13) := eqk 13 (by decide)
 have e127 : (((Utf8.decode s p).1 : Int) == 127) = decide (byteN s p = 127) := eqk 127 (by decide)
 have l32 := (low 32 (by decide)).2
 have hw := wrong_is s p (by omega) hz ((Utf8.decode s p).1 : Int)
 have hd := sizeAt_decode s p
 simp only [← byteN_get] at hd
 have hwz : (decide (((Utf8.decode s p).1 : Int) = 65533) && !fffd s p) = decide (sizeAt s p = 0) := by
  have hpos := dec_pos s p
  unfold fffd
  by_cases hc : (Utf8.decode s p).1 = 65533 /\ ¬ (2 < s.size - p /\ byteN s p = 239 /\ byteN s (p + 1) = 191 /\ byteN s (p + 2) = 189)
  ·rw [if_pos hc] at hd
   have : ((Utf8.decode s p).1 : Int) = 65533 := by omega
   simp [hd, this, hc.2]
  ·rw [if_neg hc] at hd
   have : sizeAt s p ≠ 0 := by omega
   simp only [this, decide_false]
   by_cases h1 : (Utf8.decode s p).1 = 65533
   ·have h2 : (2 < s.size - p /\ byteN s p = 239 /\ byteN s (p + 1) = 191 /\ byteN s (p + 2) = 189) := Classical.byContradiction fun h => hc ⟨h1, h⟩
    simp [h2]
   ·have : ¬ ((Utf8.decode s p).1 : Int) = 65533 := by omega
    simp [this]
 rw [hwz] at hw
 refine utf_form_step _ _ _ _ ?_
 rw [e34, e92, e10, e9, e13, e127]
 unfold formV
 refine ⟨fun h => by rw [if_pos (of_decide_eq_true h)], fun h => ?_⟩
 rw [if_neg (of_decide_eq_false h)]
 refine ⟨fun h => by rw [if_pos (of_decide_eq_true h)], fun h => ?_⟩
 rw [if_neg (of_decide_eq_false h)]
 refine ⟨fun h => by rw [if_pos (of_decide_eq_true h)], fun h => ?_⟩
 rw [if_neg (of_decide_eq_false h)]
 refine ⟨fun h => by rw [if_pos (of_decide_eq_true h)], fun h => ?_⟩
 rw [if_neg (of_decide_eq_false h)]
 refine ⟨fun h => by rw [if_pos (of_decide_eq_true h)], fun h => ?_⟩
 rw [if_neg (of_decide_eq_false h)]
 refine ⟨fun b => b = decide (byteN s p < 32 ∨ byteN s p = 127 ∨ sizeAt s p = 0), fun b hR => ⟨fun hbt => ⟨⟨by omega, by omega⟩, escV (byteN s p), ?_, ?_⟩, fun hbf => ?_⟩, fun h1 => ?_, fun h1 => ⟨_, hw, ?_⟩⟩
 ·rw [hn, hb.1]; exact escape_is _ hb.2
 ·rw [hbt] at hR; rw [if_pos (of_decide_eq_true hR.symm)]
 ·rw [hbf] at hR
  have hR' := of_decide_eq_false hR.symm
  rw [if_neg hR', enc_ex s p hp (fun h => hR' (.inr (.inr h)))]
 ·show true = _
  symm
  apply decide_eq_true
  simp only [Bool.or_eq_true, decide_eq_true_eq] at h1
  rcases h1 with h1 | h1
  ·exact .inl (l32.1 (by omega))
  ·exact .inr (.inl h1)
 ·simp only [Bool.or_eq_false_iff, decide_eq_false_iff_not] at h1
  have n1 : ¬ byteN s p < 32 := fun h => h1.1 (by have := l32.2 h; omega)
  congr 1
  simp only [eq_iff_iff]
  constructor
  ·intro h; exact .inr (.inr h)
  ·rintro (h | h | h)
   ·exact absurd h n1
   ·exact absurd h h1.2
   ·exact h
theorem ba_assoc (a b c : ByteArray) : a ++ b ++ c = a ++ (b ++ c) := by apply ByteArray.ext; simp [ByteArray.data_append]
def stepN (s : ByteArray) (p : Nat) : Nat := if sizeAt s p = 0 then 1 else sizeAt s p
theorem stepN_pos (s : ByteArray) (p : Nat) : 1 <= stepN s p := by unfold stepN; split <;> omega
theorem stepN_le (s : ByteArray) (p : Nat) (h : p < s.size) : p + stepN s p <= s.size := by
 have := sizeAt_le s p h
 unfold stepN; split <;> omega
theorem dec_width (s : ByteArray) (p : Nat) : (Utf8.decode s p).2 = stepN s p := by
 have hd := sizeAt_decode s p
 have hb0 := s.get! p |>.toNat_lt; have hb1 := s.get! (p + 1) |>.toNat_lt; have hb2 := s.get! (p + 2) |>.toNat_lt; have hb3 := s.get! (p + 3) |>.toNat_lt
 have hp := dec_pos s p
 unfold stepN
 by_cases h0 : sizeAt s p = 0
 ·rw [if_pos h0]
  rw [h0] at hd
  rw [Lib.decode_at] at hd hp ⊢
  rcases Lib.decodeN_shape (s.size - p) (s.get! p).toNat (s.get! (p + 1)).toNat (s.get! (p + 2)).toNat (s.get! (p + 3)).toNat with ⟨c, e⟩ | ⟨c1, c2, c3, cv, e⟩ | ⟨c1, c2, c3, c4, cv, cs, e⟩ | ⟨c1, c2, c3, c4, c5, cv, cw, e⟩ | e
  all_goals
   rw [e] at hd hp ⊢
   try simp only at hd hp ⊢
   all_goals (try (split at hd <;> first | omega | rfl))
 ·rw [if_neg h0, hd]
  split at hd
  ·exact absurd hd h0
  ·rename_i hc; rw [if_neg hc]
theorem formV_size (s : ByteArray) (p : Nat) (h : p < s.size) : (formV s p).size <= 4 * stepN s p := by
 have h1 := stepN_pos s p
 have h2 := sizeAt_le s p h
 unfold formV
 repeat' split
 all_goals first | (show (2 : Nat) <= _; omega) | (show (4 : Nat) <= _; omega) | skip
 rw [size_cut _ h2]
 unfold stepN; split <;> omega
def quoteN (s : ByteArray) : Nat -> Nat -> ByteArray
 | 0, _ => ⟨#[34]⟩
 | f + 1, p => if p < s.size then formV s p ++ quoteN s f (p + stepN s p) else ⟨#[34]⟩
def quoteV (s : ByteArray) : ByteArray := ⟨#[34]⟩ ++ quoteN s s.size 0
theorem quoteN_end (s : ByteArray) (f p : Nat) (h : ¬ p < s.size) : quoteN s f p = ⟨#[34]⟩ := by cases f <;> simp [quoteN, h]
theorem quote_j (s : ByteArray) (hs : s.size <= 1073741824) : ∀ (f p : Nat) (acc : ByteArray), s.size - p <= f -> p <= s.size -> acc.size <= 1 + 4 * p -> utf_Quote_j2 s acc p (acc ++ quoteN s f p) := by
 have e1 : (⟨#[34]⟩ : ByteArray).size = 1 := rfl
 intro f
 induction f with
 | zero =>
  intro p acc h1 h2 h3
  refine utf_Quote_j2_step _ _ _ _ ⟨fun h => absurd h (by omega), fun h => ⟨by omega, by rw [ba_size]; omega, rfl⟩⟩
 | succ f ih =>
  intro p acc h1 h2 h3
  refine utf_Quote_j2_step _ _ _ _ ⟨fun hp => ?_, fun h => ⟨by omega, by rw [ba_size]; omega, by rw [quoteN_end _ _ _ h]⟩⟩
  have k1 := stepN_pos s p; have k2 := stepN_le s p hp; have k3 := formV_size s p hp
  refine ⟨_, form_is s (by omega) p hp, by omega, ?_⟩
  rw [quoteN, if_pos hp, dec_width, ← ba_assoc]
  exact ih _ _ (by omega) k2 (by rw [ba_size]; omega)
theorem quote_is (s : ByteArray) (hs : s.size <= 1073741824) : utf_Quote s (quoteV s) := by
 refine utf_Quote_step _ _ ⟨by decide, ?_⟩
 have := quote_j s hs s.size 0 ⟨#[34]⟩ (by omega) (by omega) (by show 1 <= _; omega)
 exact this
theorem quad (b : Nat) (h : b < 256) : IntKind.u8.wrap ((b : Int).tdiv 16) = ((b / 16 : Nat) : Int) /\ (b : Int).tmod 16 = ((b % 16 : Nat) : Int) := by
 have : ∀ c : Fin 256, IntKind.u8.wrap (((c.val : Nat) : Int).tdiv 16) = ((c.val / 16 : Nat) : Int) /\ ((c.val : Nat) : Int).tmod 16 = ((c.val % 16 : Nat) : Int) := by decide +kernel
 exact this ⟨b, h⟩
def pairV (b : Nat) : ByteArray := ⟨#[hexC (b / 16), hexC (b % 16)]⟩
theorem pair_is (b : Nat) (h : b < 256) : ref03_pair b (pairV b) := by
 obtain ⟨q1, q2⟩ := quad b h
 refine ref03_pair_step _ _ ?_
 rw [q1, q2, wr16 _ (by omega), wr16 _ (by omega)]
 simp only [Int.toNat_natCast]
 rw [dig_ex _ (by omega), dig_ex _ (by omega)]
 refine ⟨⟨by omega, by omega, ?_⟩, ⟨by omega, by omega, ?_⟩, ?_, rfl⟩
 ·show ((b / 16 + 1 : Nat) : Int) <= 16; omega
 ·show ((b % 16 + 1 : Nat) : Int) <= 16; omega
 ·show ((1 + 1 : Nat) : Int) <= _; decide
theorem rquote_j (s : ByteArray) (hs : s.size <= 1073741824) : ∀ (f p : Nat) (acc : ByteArray), s.size - p <= f -> p <= s.size -> acc.size <= 1 + 4 * p -> ref03_Quote_j2 p acc s (acc ++ quoteN s f p) := by
 have e1 : (⟨#[34]⟩ : ByteArray).size = 1 := rfl
 intro f
 induction f with
 | zero =>
  intro p acc h1 h2 h3
  refine ref03_Quote_j2_step _ _ _ _ ⟨fun h => absurd (of_decide_eq_true h) (by omega), fun h => ⟨by omega, rfl⟩⟩
 | succ f ih =>
  intro p acc h1 h2 h3
  refine ref03_Quote_j2_step _ _ _ _ ⟨fun hp => ?_, fun h => ?_⟩
  rotate_left
  ·have hp : ¬ p < s.size := by have := of_decide_eq_false h; omega
   exact ⟨by omega, by rw [quoteN_end _ _ _ hp]⟩
  have hp : p < s.size := by have := of_decide_eq_true hp; omega
  have k1 := stepN_pos s p; have k2 := stepN_le s p hp; have k3 := formV_size s p hp
  have hb := byteN_eq s p
  have hn : ((p : Int)).toNat = p := by omega
  refine ⟨_, size_is s (by omega) p hp, ⟨by omega, by omega⟩, ?_⟩
  rw [szB_at, hn, hb.1]
  have key : ∀ X : ByteArray, X = formV s p -> (((((sizeAt s p : Nat) : Int) == 0) = true -> ref03_Quote_j2 (wI ((p : Int) + 1)) (acc ++ X) s (acc ++ quoteN s (f + 1) p)) /\ ((((sizeAt s p : Nat) : Int) == 0) = false -> ref03_Quote_j2 (wI ((p : Int) + (sizeAt s p : Nat))) (acc ++ X) s (acc ++ quoteN s (f + 1) p))) := by
   intro X hX
   subst hX
   have hi := ih (p + stepN s p) (acc ++ formV s p) (by omega) k2 (by rw [ba_size]; omega)
   rw [quoteN, if_pos hp, ← ba_assoc]
   constructor
   ·intro h
    have h0 : sizeAt s p = 0 := by simp only [beq_iff_eq] at h; omega
    have es : stepN s p = 1 := by unfold stepN; rw [if_pos h0]
    rw [wI, wrapI (by omega)]
    rw [es] at hi ⊢
    exact hi
   ·intro h
    have h0 : sizeAt s p ≠ 0 := by simp only [beq_eq_false_iff_ne] at h; omega
    have es : stepN s p = sizeAt s p := by unfold stepN; rw [if_neg h0]
    rw [wI, wrapI (by omega)]
    rw [es] at hi ⊢
    exact hi
  have nat : ∀ k : Nat, (((byteN s p : Nat) : Int) == (k : Int)) = decide (byteN s p = k) := by
   intro k
   by_cases h : byteN s p = k
   ·simp [h]
   ·simp [h]; omega
  have n34 := nat 34; have n92 := nat 92; have n10 := nat 10; have n9 := nat 9; have n13 := nat 13
  have c : ∀ {k : Nat}, (((byteN s p : Nat) : Int) == (k : Int)) = true -> byteN s p = k := fun h => by rw [nat] at h; exact of_decide_eq_true h
  have d : ∀ {k : Nat}, (((byteN s p : Nat) : Int) == (k : Int)) = false -> ¬ byteN s p = k := fun h => by rw [nat] at h; exact of_decide_eq_false h
  have z2 : ∀ a b : UInt8, (⟨#[a, b]⟩ : ByteArray).size = 2 := fun _ _ => rfl
  refine ⟨fun h => ⟨by rw [z2]; omega, key _ (by unfold formV; rw [if_pos (c (k := 34) h)])⟩, fun h => ?_⟩
  have g1 := d (k := 34) h
  refine ⟨fun h => ⟨by rw [z2]; omega, key _ (by unfold formV; rw [if_neg g1, if_pos (c (k := 92) h)])⟩, fun h => ?_⟩
  have g2 := d (k := 92) h
  refine ⟨fun h => ⟨by rw [z2]; omega, key _ (by unfold formV; rw [if_neg g1, if_neg g2, if_pos (c (k := 10) h)])⟩, fun h => ?_⟩
  have g3 := d (k := 10) h
  refine ⟨fun h => ⟨by rw [z2]; omega, key _ (by unfold formV; rw [if_neg g1, if_neg g2, if_neg g3, if_pos (c (k := 9) h)])⟩, fun h => ?_⟩
  have g4 := d (k := 9) h
  refine ⟨fun h => ⟨by rw [z2]; omega, key _ (by unfold formV; rw [if_neg g1, if_neg g2, if_neg g3, if_neg g4, if_pos (c (k := 13) h)])⟩, fun h => ?_⟩
  have g5 := d (k := 13) h
  have bad : (((decide (((byteN s p : Nat) : Int) < 32)) || (((byteN s p : Nat) : Int) == 127)) || (((sizeAt s p : Nat) : Int) == 0)) = decide (byteN s p < 32 ∨ byteN s p = 127 ∨ sizeAt s p = 0) := by
   have e2 : (((byteN s p : Nat) : Int) == 127) = decide (byteN s p = 127) := nat 127
   have e3 : (((sizeAt s p : Nat) : Int) == 0) = decide (sizeAt s p = 0) := by by_cases h : sizeAt s p = 0 <;> simp [h]
   have e4 : decide (((byteN s p : Nat) : Int) < 32) = decide (byteN s p < 32) := by congr 1; simp only [eq_iff_iff]; omega
   rw [e2, e3, e4]
   simp [Bool.or_assoc]
  rw [bad]
  refine ⟨fun h => ⟨by rw [z2]; omega, _, pair_is _ hb.2, by rw [ba_size, z2, show (pairV (byteN s p)).size = 2 from rfl]; omega, ?_⟩, fun h => ?_⟩
  ·have hh := of_decide_eq_true h
   have := key (⟨#[92, 120]⟩ ++ pairV (byteN s p)) (by unfold formV; rw [if_neg g1, if_neg g2, if_neg g3, if_neg g4, if_neg g5, if_pos hh]; rfl)
   rw [← ba_assoc] at this
   exact this
  ·have hh := of_decide_eq_false h
   have h0 : sizeAt s p ≠ 0 := fun e => hh (.inr (.inr e))
   have es : stepN s p = sizeAt s p := by unfold stepN; rw [if_neg h0]
   have hw : wI ((p : Int) + (sizeAt s p : Nat)) = ((p + sizeAt s p : Nat) : Int) := by rw [wI, wrapI (by omega)]; omega
   have := key (s.extract p (p + sizeAt s p)) (by unfold formV; rw [if_neg g1, if_neg g2, if_neg g3, if_neg g4, if_neg g5, if_neg hh])
   rw [hw] at this ⊢
   simp only [Int.toNat_natCast]
   refine ⟨⟨by omega, by omega, by omega⟩, by rw [size_cut _ (by omega)]; omega, this⟩
theorem rquote_is (s : ByteArray) (hs : s.size <= 1073741824) : ref03_Quote s (quoteV s) :=
 ref03_Quote_step _ _ (rquote_j s hs s.size 0 ⟨#[34]⟩ (by omega) (by omega) (by show 1 <= _; omega))
theorem dig_at (a : Nat) (h : a < 16) : byteAt (⟨#[48, 49, 50, 51, 52, 53, 54, 55, 56, 57, 97, 98, 99, 100, 101, 102]⟩ : ByteArray) a = ((hexC a).toNat : Int) := by
 have : a = 0 ∨ a = 1 ∨ a = 2 ∨ a = 3 ∨ a = 4 ∨ a = 5 ∨ a = 6 ∨ a = 7 ∨ a = 8 ∨ a = 9 ∨ a = 10 ∨ a = 11 ∨ a = 12 ∨ a = 13 ∨ a = 14 ∨ a = 15 := by omega
 rcases this with rfl | rfl | rfl | rfl | rfl | rfl | rfl | rfl | rfl | rfl | rfl | rfl | rfl | rfl | rfl | rfl
 all_goals rfl
def hexOf : List UInt8 -> List UInt8
 | [] => []
 | b :: r => hexC (b.toNat / 16) :: hexC (b.toNat % 16) :: hexOf r
theorem hexOf_app : ∀ a b : List UInt8, hexOf (a ++ b) = hexOf a ++ hexOf b
 | [], _ => rfl
 | x :: a, b => by simp [hexOf, hexOf_app a b]
theorem hexOf_len : ∀ a : List UInt8, (hexOf a).length = 2 * a.length
 | [] => rfl
 | x :: a => by simp only [hexOf, List.length_cons, hexOf_len a]; omega
def hexV (s : ByteArray) : ByteArray := ⟨(hexOf s.data.toList).toArray⟩
theorem hexV_size (s : ByteArray) : (hexV s).size = 2 * s.size := by
 show (hexOf s.data.toList).toArray.size = _
 rw [List.size_toArray, hexOf_len]; simp
theorem take_at (s : ByteArray) (i : Nat) (h : i < s.size) : s.data.toList.take (i + 1) = s.data.toList.take i ++ [s.get! i] := by
 rw [List.take_add_one]
 have e : s.data.toList[i]? = some (s.get! i) := by
  have h2 : i < s.data.size := h
  rw [Array.getElem?_toList, Array.getElem?_eq_getElem h2]
  exact congrArg some (getElem!_pos s.data i h2).symm
 rw [e]; rfl
theorem hex_j (s : ByteArray) (hs : s.size <= 1073741824) : ∀ n i : Nat, s.size - i = n -> i <= s.size -> utf_Hex_j2 i s ((hexOf (s.data.toList.take i)).map fun b => (b.toNat : Int)) (hexV s) := by
 intro n
 induction n with
 | zero =>
  intro i h1 h2
  refine utf_Hex_j2_step _ _ _ _ ⟨fun h => absurd (of_decide_eq_true h) (by omega), fun _ => ⟨hexV s, ?_, rfl⟩⟩
  rw [List.take_of_length_le (by simp; omega)]
  simp [bI, hexV]
 | succ n ih =>
  intro i h1 h2
  refine utf_Hex_j2_step _ _ _ _ ⟨fun _ => ?_, fun h => absurd (of_decide_eq_false h) (by omega)⟩
  have hb := byteN_eq s i
  have hn : ((i : Int)).toNat = i := by omega
  have e1 : ((byteN s i : Nat) : Int).fdiv (2 ^ min (4 : Int).toNat IntKind.u8.bits) = ((byteN s i / 16 : Nat) : Int) := shr4 _ hb.2
  rw [hn, hb.1, e1, and15 _ hb.2]
  simp only [Int.toNat_natCast]
  rw [dig_at _ (by omega), dig_at _ (by omega)]
  have e16 : (⟨#[48, 49, 50, 51, 52, 53, 54, 55, 56, 57, 97, 98, 99, 100, 101, 102]⟩ : ByteArray).size = 16 := rfl
  refine ⟨⟨by omega, by omega⟩, ⟨by omega, by omega⟩, ⟨by omega, by omega⟩, ⟨by omega, by omega⟩, ?_, ?_⟩
  ·rw [List.length_map, hexOf_len, List.length_take]
   simp only [List.length_cons, List.length_nil]
   omega
  ·rw [wI, wrapI (by omega)]
   have := ih (i + 1) (by omega) (by omega)
   rw [take_at s i (by omega), hexOf_app, List.map_append] at this
   rw [byteN_get]
   simpa [hexOf] using this
theorem hex_is (s : ByteArray) (hs : s.size <= 1073741824) : utf_Hex s (hexV s) := by
 refine utf_Hex_step _ _ ⟨?_, hex_j s hs s.size 0 (by omega) (by omega)⟩
 rw [wI, wrapI (by omega)]
 omega
theorem rhex_j (s : ByteArray) (hs : s.size <= 1073741824) : ∀ n i : Nat, s.size - i = n -> i <= s.size -> ref03_Hex_j2 i ⟨(hexOf (s.data.toList.take i)).toArray⟩ s (hexV s) := by
 intro n
 induction n with
 | zero =>
  intro i h1 h2
  refine ref03_Hex_j2_step _ _ _ _ ⟨fun h => absurd (of_decide_eq_true h) (by omega), fun _ => ?_⟩
  rw [List.take_of_length_le (by simp; omega)]; rfl
 | succ n ih =>
  intro i h1 h2
  refine ref03_Hex_j2_step _ _ _ _ ⟨fun _ => ?_, fun h => absurd (of_decide_eq_false h) (by omega)⟩
  have hb := byteN_eq s i
  have hn : ((i : Int)).toNat = i := by omega
  rw [hn, hb.1]
  refine ⟨⟨by omega, by omega⟩, _, pair_is _ hb.2, ?_, ?_⟩
  ·have e1 : (⟨(hexOf (s.data.toList.take i)).toArray⟩ : ByteArray).size = (hexOf (s.data.toList.take i)).length := by show (hexOf (s.data.toList.take i)).toArray.size = _; simp
   rw [e1, hexOf_len, List.length_take, show (pairV (byteN s i)).size = 2 from rfl]
   omega
  ·rw [wI, wrapI (by omega)]
   have := ih (i + 1) (by omega) (by omega)
   rw [take_at s i (by omega), hexOf_app] at this
   have e : (⟨(hexOf (s.data.toList.take i)).toArray⟩ : ByteArray) ++ pairV (byteN s i) = ⟨(hexOf (s.data.toList.take i) ++ hexOf [s.get! i]).toArray⟩ := by
    apply ByteArray.ext
    rw [ByteArray.data_append, byteN_get]
    simp [pairV, hexOf]
   rw [e]; exact this
theorem rhex_is (s : ByteArray) (hs : s.size <= 1073741824) : ref03_Hex s (hexV s) :=
 ref03_Hex_step _ _ (rhex_j s hs s.size 0 (by omega) (by omega))
def hex16 (u : Nat) : ByteArray := ⟨(hexN 16 u).toArray⟩
def beL : Nat -> Nat -> List Int
 | 0, _ => []
 | k + 1, u => ((u / 256 ^ k % 256 : Nat) : Int) :: beL k u
theorem beL_bytes : ∀ k u, bytesL (beL k u)
 | 0, _ => fun x hx => by simp [beL] at hx
 | k + 1, u => fun x hx => by
  simp only [beL, List.mem_cons] at hx
  rcases hx with rfl | hx
  ·omega
  ·exact beL_bytes k u x hx
theorem beL_len : ∀ k u, (beL k u).length = k
 | 0, _ => rfl
 | k + 1, u => by simp [beL, beL_len k u]
theorem hexOf_be (u : Nat) : ∀ k, hexOf ((beL k u).map fun n => UInt8.ofNat n.toNat) = hexN (2 * k) u
 | 0 => rfl
 | k + 1 => by
  have e0 : 2 * (k + 1) = 2 * k + 1 + 1 := by omega
  have e1 : (256 : Nat) ^ k = 16 ^ (2 * k) := by rw [Nat.pow_mul]
  have hb : u / 256 ^ k % 256 < 256 := by omega
  simp only [beL, List.map_cons, hexOf, hexOf_be u k, e0, hexN]
  have e2 : (UInt8.ofNat (((u / 256 ^ k % 256 : Nat) : Int)).toNat).toNat = u / 256 ^ k % 256 := by
   rw [Int.toNat_natCast, UInt8.toNat_ofNat_of_lt' (by simpa [UInt8.size] using hb)]
  have e3 : u / 16 ^ (2 * k + 1) = u / 16 ^ (2 * k) / 16 := by rw [Nat.pow_succ, Nat.div_div_eq_div_mul]
  rw [e2, e1, e3]
  have e4 : u / 16 ^ (2 * k) % 256 / 16 = u / 16 ^ (2 * k) / 16 % 16 := by omega
  have e5 : u / 16 ^ (2 * k) % 256 % 16 = u / 16 ^ (2 * k) % 16 := by omega
  rw [e4, e5]
theorem mod256 (x : Nat) : IntKind.u8.wrap (((x : Int)).tmod 256) = ((x % 256 : Nat) : Int) := by
 rw [Int.tmod_eq_emod_of_nonneg (by omega)]
 simp [IntKind.wrap, IntKind.signed, IntKind.bits]
theorem div256 (x : Nat) (h : x < 18446744073709551616) : wU (((x : Int)).tdiv 256) = ((x / 256 : Nat) : Int) := by
 rw [Int.tdiv_eq_ediv_of_nonneg (by omega), wU, wrapU (by omega)]
 omega
theorem rhex16_j (u : Nat) (hu : u < 18446744073709551616) : ∀ n k : Nat, 8 - k = n -> k <= 8 -> ref04_hex_j3 k (beL k u) ((u / 256 ^ k : Nat) : Int) (hex16 u) := by
 intro n
 induction n with
 | zero =>
  intro k h1 h2
  have hk : k = 8 := by omega
  subst hk
  refine ref04_hex_j3_step _ _ _ _ ⟨fun h => absurd (of_decide_eq_true h) (by omega), fun _ => ⟨_, bI_ofI (beL_bytes 8 u), _, rhex_is _ (by rw [ofI_size, beL_len]; omega), ?_⟩⟩
  unfold hex16 hexV ofI
  rw [← hexOf_be u 8]
 | succ n ih =>
  intro k h1 h2
  have hl : u / 256 ^ k < 18446744073709551616 := Nat.lt_of_le_of_lt (Nat.div_le_self _ _) hu
  have e1 := mod256 (u / 256 ^ k)
  have e2 : wU ((((u / 256 ^ k : Nat) : Int)).tdiv 256) = ((u / 256 ^ (k + 1) : Nat) : Int) := by
   rw [div256 _ hl, Nat.pow_succ, Nat.div_div_eq_div_mul]
  have hi := ih (k + 1) (by omega) (by omega)
  have e3 : wI ((k : Int) + 1) = ((k + 1 : Nat) : Int) := by rw [wI, wrapI (by omega)]; omega
  refine ref04_hex_j3_step _ _ _ _ ⟨fun _ => ?_, fun h => absurd (of_decide_eq_false h) (by omega)⟩
  rw [e1, e2, e3]
  refine ⟨fun h => ⟨by simp, ?_⟩, fun h => ⟨?_, h, hi⟩⟩
  ·have hk : k = 0 := by have := beL_len k u; rw [h] at this; simpa using this.symm
   subst hk
   exact hi
  ·rw [beL_len]; simp only [List.length_cons, List.length_nil]; omega
theorem rhex16_is (u : Nat) (hu : u < 18446744073709551616) : ref04_hex u (hex16 u) := by
 refine ref04_hex_step _ _ ?_
 have := rhex16_j u hu 8 0 rfl (by omega)
 simpa [beL] using this
theorem hexL_lt : ∀ u : Nat, u < 16 ^ hexL u := by
 intro u
 induction u using Nat.strongRecOn with
 | _ u ih =>
  rw [hexL]
  split
  ·rename_i h; simpa using h
  ·rename_i h
   have := ih (u / 16) (by omega)
   rw [Nat.pow_succ]
   omega
theorem hexL_le : ∀ (n u : Nat), u < 16 ^ (n + 1) -> hexL u <= n + 1
 | 0, u, h => by rw [hexL, dif_pos (by simpa using h)]; omega
 | n + 1, u, h => by
  rw [hexL]
  split
  ·omega
  ·have := hexL_le n (u / 16) (by rw [Nat.pow_succ] at h; omega)
   omega
theorem hexN_pad (m u : Nat) (hm : u < 16 ^ m) : ∀ k, hexN (m + k) u = List.replicate k 48 ++ hexN m u
 | 0 => rfl
 | k + 1 => by
  have h0 : u / 16 ^ (m + k) = 0 := Nat.div_eq_of_lt (Nat.lt_of_lt_of_le hm (Nat.pow_le_pow_right (by decide) (by omega)))
  show hexC (u / 16 ^ (m + k) % 16) :: hexN (m + k) u = _
  rw [h0, hexN_pad m u hm k]
  rfl
theorem bR_size (n : Nat) (b : UInt8) : (bR n b).size = n := by show (List.replicate n b).toArray.size = n; simp
theorem pad16 (u : Nat) (hu : u < 18446744073709551616) : bR (16 - hexL u) 48 ++ hexB u = hex16 u := by
 have h1 := hexL_lt u
 have h2 : hexL u <= 16 := hexL_le 15 u (by simpa using hu)
 have := hexN_pad (hexL u) u h1 (16 - hexL u)
 rw [show hexL u + (16 - hexL u) = 16 by omega] at this
 apply ByteArray.ext
 rw [ByteArray.data_append]
 unfold hex16 bR hexB
 rw [this]
 simp
theorem decB_one (u : Nat) (h : u < 10) : decB u = ⟨#[UInt8.ofNat (48 + u)]⟩ := by unfold decB; rw [Lib.decDigits, dif_pos h]
theorem decB_more (u : Nat) (h : ¬ u < 10) : decB u = decB (u / 10) ++ ⟨#[UInt8.ofNat (48 + u % 10)]⟩ := by
 apply ByteArray.ext
 rw [ByteArray.data_append]
 unfold decB
 rw [Lib.decDigits, dif_neg h]
 simp
theorem dig10 (u : Nat) (hu : u < 18446744073709551616) : ([(IntKind.u8.wrap (wU (48 + ((u : Int)).tmod 10)))] : List Int) = bI ⟨#[UInt8.ofNat (48 + u % 10)]⟩ := by
 rw [Int.tmod_eq_emod_of_nonneg (by omega), wU, wrapU (by omega)]
 have e : IntKind.u8.wrap (48 + (u : Int) % 10) = ((48 + u % 10 : Nat) : Int) := by simp [IntKind.wrap, IntKind.signed, IntKind.bits]; omega
 rw [e]
 have e2 : (UInt8.ofNat (48 + u % 10)).toNat = 48 + u % 10 := UInt8.toNat_ofNat_of_lt' (by simp [UInt8.size]; omega)
 simp [bI, e2]
 omega
theorem dec_j : ∀ (n u : Nat) (acc : ByteArray), u < 10 ^ (n + 1) -> u < 18446744073709551616 -> acc.size + n <= 1000 -> ref04_decimal_j2 (⟨#[UInt8.ofNat (48 + u % 10)]⟩ ++ acc) u (decB u ++ acc) := by
 intro n
 induction n with
 | zero =>
  intro u acc h1 h2 h3
  have h10 : u < 10 := by simpa using h1
  refine ref04_decimal_j2_step _ _ _ ⟨fun h => absurd (of_decide_eq_true h) (by omega), fun _ => ?_⟩
  rw [decB_one u h10, Nat.mod_eq_of_lt h10]
 | succ n ih =>
  intro u acc h1 h2 h3
  refine ref04_decimal_j2_step _ _ _ ⟨fun h => ?_, fun h => ?_⟩
  ·have h10 : ¬ u < 10 := by have := of_decide_eq_true h; omega
   have e1 : wU (((u : Int)).tdiv 10) = ((u / 10 : Nat) : Int) := by
    rw [Int.tdiv_eq_ediv_of_nonneg (by omega), wU, wrapU (by omega)]; omega
   rw [e1]
   refine ⟨_, dig10 (u / 10) (by omega), ?_, ?_⟩
   ·rw [ba_size, show (⟨#[UInt8.ofNat (48 + u / 10 % 10)]⟩ : ByteArray).size = 1 from rfl, show (⟨#[UInt8.ofNat (48 + u % 10)]⟩ : ByteArray).size = 1 from rfl]
    omega
   ·rw [decB_more u h10, ba_assoc]
    exact ih (u / 10) _ (by rw [Nat.pow_succ] at h1; omega) (by omega) (by rw [ba_size, show (⟨#[UInt8.ofNat (48 + u % 10)]⟩ : ByteArray).size = 1 from rfl]; omega)
  ·have h10 : u < 10 := by have := of_decide_eq_false h; omega
   rw [decB_one u h10, Nat.mod_eq_of_lt h10]
theorem ba_nil (a : ByteArray) : a ++ (⟨#[]⟩ : ByteArray) = a := by apply ByteArray.ext; simp [ByteArray.data_append]
theorem dec10_is (u : Nat) (hu : u < 18446744073709551616) : ref04_decimal u (decB u) := by
 refine ref04_decimal_step _ _ ⟨_, dig10 u hu, ?_⟩
 have := dec_j 19 u ⟨#[]⟩ (by omega) hu (by decide)
 rw [ba_nil, ba_nil] at this
 exact this
abbrev hI (x y : Int) : Int := wI ((wU (wI (x + y))).fdiv (2 ^ min (1 : Int).toNat IntKind.u64.bits))
structure SortP (α : Type) (C : α -> α -> Int -> Prop) where
 swj : Int -> Nat -> Int -> Int -> Int -> List α -> List α -> Prop
 sw : Nat -> List α -> Int -> Int -> Int -> List α -> Prop
 roj : Int -> Int -> Nat -> Int -> List α -> List α -> Prop
 ro : Nat -> List α -> Int -> Int -> Int -> List α -> Prop
 in6 : Int -> Int -> Nat -> Int -> Int -> List α -> List α -> Prop
 in4 : Int -> Nat -> Int -> Int -> List α -> List α -> Prop
 ins : Nat -> List α -> Int -> Int -> List α -> Prop
 sy6 : Int -> Int -> Nat -> List α -> List α -> Prop
 sy4 : Int -> Int -> Nat -> Int -> List α -> List α -> Prop
 sy12 : Int -> Int -> Nat -> List α -> List α -> Prop
 sy10 : Int -> Int -> Nat -> Int -> List α -> List α -> Prop
 sy42 : Int -> Int -> Int -> Int -> Nat -> List α -> List α -> Prop
 sy40 : Int -> Int -> Int -> Int -> Nat -> List α -> List α -> Prop
 sy36 : Int -> Int -> Int -> Int -> Int -> Nat -> List α -> List α -> Prop
 sy28 : Int -> Int -> Int -> Int -> Int -> Nat -> List α -> List α -> Prop
 sy : Nat -> List α -> Int -> Int -> Int -> List α -> Prop
 st14 : Int -> Int -> Int -> Nat -> Int -> List α -> List α -> Prop
 st12 : Int -> Nat -> Int -> List α -> List α -> Prop
 st8 : Int -> Int -> Nat -> Int -> List α -> List α -> Prop
 st : Nat -> List α -> Int -> List α -> Prop
 so : Nat -> List α -> List α -> Prop
 h_swj : ∀ i (n0 : Nat) a b n l r, ((decide (i < n)) = true -> (0 <= (wI (b + i)) /\ (wI (b + i)) < (n0 : Int)) /\ (∃ y3, l[(wI (b + i)).toNat]? = some y3 /\ ((0 <= (wI (a + i)) /\ (wI (a + i)) < (n0 : Int)) /\ (∃ y4, l[(wI (a + i)).toNat]? = some y4 /\ ((0 <= (wI (a + i)) /\ (wI (a + i)) < (n0 : Int)) /\ ((wI (a + i)).toNat < l.length /\ ((0 <= (wI (b + i)) /\ (wI (b + i)) < (n0 : Int)) /\ ((wI (b + i)).toNat < (l.set (wI (a + i)).toNat y3).length /\ (swj (wI (i + 1)) n0 a b n ((l.set (wI (a + i)).toNat y3).set (wI (b + i)).toNat y4) r))))))))) /\ ((decide (i < n)) = false -> l ≠ [] /\ r = l) -> swj i n0 a b n l r
 h_sw : ∀ (n0 : Nat) data a b n r, swj 0 n0 a b n data r -> sw n0 data a b n r
 h_roj : ∀ j i (n0 : Nat) m l r, ((i != j) = true -> ((decide (j < i)) = true -> ∃ y5, sw n0 l (wI (m - i)) m j y5 /\ (l ≠ [] /\ y5 ≠ []) /\ (roj j (wI (i - j)) n0 m y5 r)) /\ ((decide (j < i)) = false -> ∃ y6, sw n0 l (wI (m - i)) (wI ((wI (m + j)) - i)) i y6 /\ (l ≠ [] /\ y6 ≠ []) /\ (roj (wI (j - i)) i n0 m y6 r))) /\ ((i != j) = false -> ∃ y4, sw n0 l (wI (m - i)) m i y4 /\ (l ≠ [] /\ y4 ≠ []) /\ (y4 ≠ [] /\ r = y4)) -> roj j i n0 m l r
 h_ro : ∀ (n0 : Nat) data a m b r, roj (wI (b - m)) (wI (m - a)) n0 m data r -> ro n0 data a m b r
 h_in6 : ∀ j i (n0 : Nat) a b l r, (∃ R8 : Bool -> Prop, (∀ z : Bool, R8 z -> ((z = true -> (0 <= (wI (j - 1)) /\ (wI (j - 1)) < (n0 : Int)) /\ (∃ y19, l[(wI (j - 1)).toNat]? = some y19 /\ ((0 <= j /\ j < (n0 : Int)) /\ (∃ y20, l[j.toNat]? = some y20 /\ ((0 <= j /\ j < (n0 : Int)) /\ (j.toNat < l.length /\ ((0 <= (wI (j - 1)) /\ (wI (j - 1)) < (n0 : Int)) /\ ((wI (j - 1)).toNat < (l.set j.toNat y19).length /\ (in6 (wI (j - 1)) i n0 a b ((l.set j.toNat y19).set (wI (j - 1)).toNat y20) r))))))))) /\ (z = false -> in4 (wI (i + 1)) n0 a b l r))) /\ (((decide (a < j)) = true -> (0 <= j /\ j < (n0 : Int)) /\ (∃ y16, l[j.toNat]? = some y16 /\ ((0 <= (wI (j - 1)) /\ (wI (j - 1)) < (n0 : Int)) /\ (∃ y17, l[(wI (j - 1)).toNat]? = some y17 /\ (∃ y18, C y16 y17 y18 /\ (R8 (decide (y18 < 0)))))))) /\ ((decide (a < j)) = false -> R8 false))) -> in6 j i n0 a b l r
 h_in4 : ∀ i (n0 : Nat) a b l r, ((decide (i < b)) = true -> in6 i i n0 a b l r) /\ ((decide (i < b)) = false -> l ≠ [] /\ r = l) -> in4 i n0 a b l r
 h_ins : ∀ (n0 : Nat) data a b r, in4 (wI (a + 1)) n0 a b data r -> ins n0 data a b r
 h_sy6 : ∀ k i (n0 : Nat) l r, ((decide (k < (wI (i - 1)))) = true -> (0 <= (wI (k + 1)) /\ (wI (k + 1)) < (n0 : Int)) /\ (∃ y10, l[(wI (k + 1)).toNat]? = some y10 /\ ((0 <= k /\ k < (n0 : Int)) /\ (∃ y11, l[k.toNat]? = some y11 /\ ((0 <= k /\ k < (n0 : Int)) /\ (k.toNat < l.length /\ ((0 <= (wI (k + 1)) /\ (wI (k + 1)) < (n0 : Int)) /\ ((wI (k + 1)).toNat < (l.set k.toNat y10).length /\ (sy6 (wI (k + 1)) i n0 ((l.set k.toNat y10).set (wI (k + 1)).toNat y11) r))))))))) /\ ((decide (k < (wI (i - 1)))) = false -> l ≠ [] /\ r = l) -> sy6 k i n0 l r
 h_sy4 : ∀ j i (n0 : Nat) a data r, ((decide (i < j)) = true -> (0 <= (hI i j) /\ (hI i j) < (n0 : Int)) /\ (∃ y12, data[(hI i j).toNat]? = some y12 /\ ((0 <= a /\ a < (n0 : Int)) /\ (∃ y13, data[a.toNat]? = some y13 /\ (∃ y14, C y12 y13 y14 /\ (((decide (y14 < 0)) = true -> sy4 j (wI ((hI i j) + 1)) n0 a data r) /\ ((decide (y14 < 0)) = false -> sy4 (hI i j) i n0 a data r))))))) /\ ((decide (i < j)) = false -> sy6 a i n0 data r) -> sy4 j i n0 a data r
 h_sy12 : ∀ k i (n0 : Nat) l r, ((decide (i < k)) = true -> (0 <= (wI (k - 1)) /\ (wI (k - 1)) < (n0 : Int)) /\ (∃ y24, l[(wI (k - 1)).toNat]? = some y24 /\ ((0 <= k /\ k < (n0 : Int)) /\ (∃ y25, l[k.toNat]? = some y25 /\ ((0 <= k /\ k < (n0 : Int)) /\ (k.toNat < l.length /\ ((0 <= (wI (k - 1)) /\ (wI (k - 1)) < (n0 : Int)) /\ ((wI (k - 1)).toNat < (l.set k.toNat y24).length /\ (sy12 (wI (k - 1)) i n0 ((l.set k.toNat y24).set (wI (k - 1)).toNat y25) r))))))))) /\ ((decide (i < k)) = false -> l ≠ [] /\ r = l) -> sy12 k i n0 l r
 h_sy10 : ∀ j i (n0 : Nat) m data r, ((decide (i < j)) = true -> (0 <= m /\ m < (n0 : Int)) /\ (∃ y26, data[m.toNat]? = some y26 /\ ((0 <= (hI i j) /\ (hI i j) < (n0 : Int)) /\ (∃ y27, data[(hI i j).toNat]? = some y27 /\ (∃ y28, C y26 y27 y28 /\ (((!(decide (y28 < 0))) = true -> sy10 j (wI ((hI i j) + 1)) n0 m data r) /\ ((!(decide (y28 < 0))) = false -> sy10 (hI i j) i n0 m data r))))))) /\ ((decide (i < j)) = false -> sy12 m i n0 data r) -> sy10 j i n0 m data r
 h_sy42 : ∀ a b m s (n0 : Nat) l r, (((decide ((hI a b) < (wI ((wI ((hI a b) + m)) - s)))) && (decide ((wI ((wI ((hI a b) + m)) - s)) < b))) = true -> ∃ y65, sy n0 l (hI a b) (wI ((wI ((hI a b) + m)) - s)) b y65 /\ (l ≠ [] /\ y65 ≠ []) /\ (y65 ≠ [] /\ r = y65)) /\ (((decide ((hI a b) < (wI ((wI ((hI a b) + m)) - s)))) && (decide ((wI ((wI ((hI a b) + m)) - s)) < b))) = false -> l ≠ [] /\ r = l) -> sy42 a b m s n0 l r
 h_sy40 : ∀ a b m s (n0 : Nat) l r, (((decide (a < s)) && (decide (s < (hI a b)))) = true -> ∃ y63, sy n0 l a s (hI a b) y63 /\ (l ≠ [] /\ y63 ≠ []) /\ (sy42 a b m s n0 y63 r)) /\ (((decide (a < s)) && (decide (s < (hI a b)))) = false -> sy42 a b m s n0 l r) -> sy40 a b m s n0 l r
 h_sy36 : ∀ a b m t s (n0 : Nat) data r, ((decide (s < t)) = true -> (0 <= (wI ((wI ((wI ((hI a b) + m)) - 1)) - (hI s t))) /\ (wI ((wI ((wI ((hI a b) + m)) - 1)) - (hI s t))) < (n0 : Int)) /\ (∃ y66, data[(wI ((wI ((wI ((hI a b) + m)) - 1)) - (hI s t))).toNat]? = some y66 /\ ((0 <= (hI s t) /\ (hI s t) < (n0 : Int)) /\ (∃ y67, data[(hI s t).toNat]? = some y67 /\ (∃ y68, C y66 y67 y68 /\ (((!(decide (y68 < 0))) = true -> sy36 a b m t (wI ((hI s t) + 1)) n0 data r) /\ ((!(decide (y68 < 0))) = false -> sy36 a b m (hI s t) s n0 data r))))))) /\ ((decide (s < t)) = false -> (((decide (s < m)) && (decide (m < (wI ((wI ((hI a b) + m)) - s))))) = true -> ∃ y59, ro n0 data s m (wI ((wI ((hI a b) + m)) - s)) y59 /\ (data ≠ [] /\ y59 ≠ []) /\ (sy40 a b m s n0 y59 r)) /\ (((decide (s < m)) && (decide (m < (wI ((wI ((hI a b) + m)) - s))))) = false -> sy40 a b m s n0 data r)) -> sy36 a b m t s n0 data r
 h_sy28 : ∀ t s a b m (n0 : Nat) data r, sy36 a b m t s n0 data r -> sy28 t s a b m n0 data r
 h_sy : ∀ (n0 : Nat) data a m b r, (((wI (m - a)) == 1) = true -> sy4 b m n0 a data r) /\ (((wI (m - a)) == 1) = false -> (((wI (b - m)) == 1) = true -> sy10 m a n0 m data r) /\ (((wI (b - m)) == 1) = false -> ((decide ((hI a b) < m)) = true -> sy28 (hI a b) (wI ((wI ((hI a b) + m)) - b)) a b m n0 data r) /\ ((decide ((hI a b) < m)) = false -> sy28 m a a b m n0 data r))) -> sy n0 data a m b r
 h_st14 : ∀ e a k (n0 : Nat) n l r, ((decide (e <= n)) = true -> ∃ y19, sy n0 l a (wI (a + k)) e y19 /\ (l ≠ [] /\ y19 ≠ []) /\ (st14 (wI (e + (wI (2 * k)))) e k n0 n y19 r)) /\ ((decide (e <= n)) = false -> ((decide ((wI (a + k)) < n)) = true -> ∃ y18, sy n0 l a (wI (a + k)) n y18 /\ (l ≠ [] /\ y18 ≠ []) /\ (st12 (wI (k * 2)) n0 n y18 r)) /\ ((decide ((wI (a + k)) < n)) = false -> st12 (wI (k * 2)) n0 n l r)) -> st14 e a k n0 n l r
 h_st12 : ∀ k (n0 : Nat) n l r, ((decide (k < n)) = true -> st14 (wI (2 * k)) 0 k n0 n l r) /\ ((decide (k < n)) = false -> l ≠ [] /\ r = l) -> st12 k n0 n l r
 h_st8 : ∀ e a (n0 : Nat) n l r, ((decide (e <= n)) = true -> ∃ y20, ins n0 l a e y20 /\ (l ≠ [] /\ y20 ≠ []) /\ (st8 (wI (e + 20)) e n0 n y20 r)) /\ ((decide (e <= n)) = false -> ∃ y11, ins n0 l a n y11 /\ (l ≠ [] /\ y11 ≠ []) /\ (st12 20 n0 n y11 r)) -> st8 e a n0 n l r
 h_st : ∀ (n0 : Nat) data n r, st8 20 0 n0 n data r -> st n0 data n r
 h_so : ∀ (n0 : Nat) x r, (∃ y1, st n0 x (n0 : Int) y1 /\ (x ≠ [] /\ y1 ≠ []) /\ (y1 ≠ [] /\ r = y1)) -> so n0 x r
section
variable {α : Type} {C : α -> α -> Int -> Prop}
variable (F : SortP α C)
end
structure Pre {α : Type} (cm : α -> α -> Int) (Dm : α -> Prop) : Prop where
 sym : ∀ x y, Dm x -> Dm y -> (cm x y < 0 ↔ 0 < cm y x)
 trans : ∀ x y z, Dm x -> Dm y -> Dm z -> cm x y <= 0 -> cm y z <= 0 -> cm x z <= 0
def Rt {α : Type} (cm : α -> α -> Int) (x y : α × Nat) : Prop := cm x.1 y.1 < 0 ∨ (cm x.1 y.1 = 0 /\ x.2 < y.2)
section
variable {α : Type} {C : α -> α -> Int -> Prop} {cm : α -> α -> Int} {Dm : α -> Prop}
theorem Pre.zero (hp : Pre cm Dm) {x y : α} (hx : Dm x) (hy : Dm y) : cm x y = 0 ↔ cm y x = 0 := by
 have h1 := hp.sym x y hx hy
 have h2 := hp.sym y x hy hx
 omega
theorem Pre.lt (hp : Pre cm Dm) {x y z : α} (hx : Dm x) (hy : Dm y) (hz : Dm z) (h1 : cm x y <= 0) (h2 : cm y z <= 0) (h3 : cm x y < 0 ∨ cm y z < 0) : cm x z < 0 := by
 have h4 := hp.trans x y z hx hy hz h1 h2
 rcases Int.lt_or_le (cm x z) 0 with h5 | h5
 ·exact h5
 have h6 : cm x z = 0 := by omega
 have h7 := (hp.zero hx hz).1 h6
 rcases h3 with h3 | h3
 ·have h8 := hp.trans y z x hy hz hx h2 (by omega)
  have := (hp.sym x y hx hy).1 h3
  omega
 ·have h8 := hp.trans z x y hz hx hy (by omega) h1
  have := (hp.sym y z hy hz).1 h3
  omega
theorem Rt.trans (hp : Pre cm Dm) {x y z : α × Nat} (hx : Dm x.1) (hy : Dm y.1) (hz : Dm z.1) (h1 : Rt cm x y) (h2 : Rt cm y z) : Rt cm x z := by
 unfold Rt at *
 rcases h1 with h1 | ⟨h1, h1'⟩
 ·rcases h2 with h2 | ⟨h2, _⟩
  ·exact .inl (hp.lt hx hy hz (by omega) (by omega) (.inl h1))
  ·exact .inl (hp.lt hx hy hz (by omega) (by omega) (.inl h1))
 ·rcases h2 with h2 | ⟨h2, h2'⟩
  ·exact .inl (hp.lt hx hy hz (by omega) (by omega) (.inr h2))
  ·right
   have h3 := hp.trans _ _ _ hx hy hz (by omega : cm x.1 y.1 <= 0) (by omega : cm y.1 z.1 <= 0)
   have h4 := hp.trans _ _ _ hz hy hx (by have := (hp.zero hy hz).1 h2; omega) (by have := (hp.zero hx hy).1 h1; omega)
   have h5 := hp.sym z.1 x.1 hz hx
   have h6 := hp.sym x.1 z.1 hx hz
   omega
abbrev Srt (cm : α -> α -> Int) (l : List (α × Nat)) : Prop := l.Pairwise (Rt cm)
abbrev fs (l : List (α × Nat)) : List α := l.map Prod.fst
variable (F : SortP α C) (hp : Pre cm Dm) (hC : ∀ x y, Dm x -> Dm y -> C x y (cm x y))
 include hp hC
end
section
variable {α : Type} {C : α -> α -> Int -> Prop} {cm : α -> α -> Int} {Dm : α -> Prop}
inductive Runs (cm : α -> α -> Int) (k : Nat) : List (α × Nat) -> Prop
 | last (S : List (α × Nat)) (h : Srt cm S) (hl : S.length <= k) : Runs cm k S
 | cons (S L : List (α × Nat)) (h : Srt cm S) (hl : S.length = k) (hr : Runs cm k L) (ht : ∀ x ∈ S, ∀ y ∈ L, x.2 < y.2) : Runs cm k (S ++ L)
theorem Runs.sorted {k : Nat} (hk : 0 < k) {L : List (α × Nat)} (h : Runs cm k L) (hl : L.length <= k) : Srt cm L := by
 cases h with
 | last _ h _ => exact h
 | cons S L h hl' hr ht =>
  have : L = [] := List.eq_nil_of_length_eq_zero (by simp at hl; omega)
  rw [this]; simpa using h
theorem Runs.first {k : Nat} {L : List (α × Nat)} (h : Runs cm k L) (hl : k <= L.length) : ∃ S M, L = S ++ M /\ Srt cm S /\ S.length = k /\ Runs cm k M /\ ∀ x ∈ S, ∀ y ∈ M, x.2 < y.2 := by
 cases h with
 | last _ h hl' => exact ⟨L, [], by simp, h, by omega, .last [] .nil (Nat.zero_le _), fun x _ y hy => by cases hy⟩
 | cons S M h hl' hr ht => exact ⟨S, M, rfl, h, hl', hr, ht⟩
variable (F : SortP α C) (hp : Pre cm Dm) (hC : ∀ x y, Dm x -> Dm y -> C x y (cm x y))
 include hp hC
end
section
variable {α : Type} {cm : α -> α -> Int} {Dm : α -> Prop}
theorem Rt.irrefl {x y : α × Nat} (hp : Pre cm Dm) (hx : Dm x.1) (hy : Dm y.1) (h1 : Rt cm x y) (h2 : Rt cm y x) : False := by
 have a := hp.sym x.1 y.1 hx hy
 have b := hp.sym y.1 x.1 hy hx
 unfold Rt at h1 h2
 omega
theorem srt_one (hp : Pre cm Dm) : ∀ (S T : List (α × Nat)), S.Perm T -> (∀ x ∈ S, Dm x.1) -> Srt cm S -> Srt cm T -> S = T
 | [], T, h, _, _, _ => (List.Perm.nil_eq h)
 | x :: S, [], h, _, _, _ => by have := h.length_eq; simp at this
 | x :: S, y :: T, h, hD, hS, hT => by
  have hxy : x = y := by
   have hx : x ∈ y :: T := h.mem_iff.1 List.mem_cons_self
   have hy : y ∈ x :: S := h.mem_iff.2 List.mem_cons_self
   rcases List.mem_cons.1 hx with e | e
   ·exact e
   ·rcases List.mem_cons.1 hy with e2 | e2
    ·exact e2.symm
    ·exact (Rt.irrefl hp (hD x List.mem_cons_self) (hD y hy) ((List.pairwise_cons.1 hS).1 y e2) ((List.pairwise_cons.1 hT).1 x e)).elim
  subst hxy
  rw [srt_one hp S T ((List.perm_cons x).1 h) (fun z hz => hD z (List.mem_cons_of_mem _ hz)) (List.pairwise_cons.1 hS).2 (List.pairwise_cons.1 hT).2]
def places (l : List α) : List (α × Nat) := l.zipIdx
theorem places_fs (l : List α) : fs (places l) = l := by simp [places, fs]
def Stably (cm : α -> α -> Int) (l r : List α) : Prop := ∃ S, Srt cm S /\ S.Perm (places l) /\ r = fs S
theorem Stably.one (hp : Pre cm Dm) {l r t : List α} (hD : ∀ x ∈ l, Dm x) (h1 : Stably cm l r) (h2 : Stably cm l t) : r = t := by
 obtain ⟨S, a1, a2, rfl⟩ := h1
 obtain ⟨T, b1, b2, rfl⟩ := h2
 have hm : ∀ x ∈ S, Dm x.1 := fun x hx => hD _ (by rw [← places_fs l]; exact List.mem_map_of_mem (a2.mem_iff.1 hx))
 rw [srt_one hp S T (a2.trans b2.symm) hm a1 b1]
end
theorem nt {b : Bool} (h : b = false) : ¬ b = true := by rw [h]; simp
theorem OkD.inv {v : GValue} (h : OkD v) : I64 v.Kind /\ U64 v.Bits /\ (Sz v.List_.length /\ Sz v.Pairs.length /\ Sz v.Slots.length /\ Sz v.Raws.length) /\ (∀ x ∈ v.List_, OkD x) /\ (∀ x ∈ v.Pairs, OkD x.1 /\ OkD x.2) /\ (∀ x ∈ v.Slots, OkD x.2) := by
 cases h with
 | mk _ k b t l p s r hl hk hv hn hs hr w => exact ⟨k, b, ⟨l, p, s, r⟩, hl, fun x hx => ⟨hk x hx, hv x hx⟩, hs⟩
theorem OkD.w {v : GValue} (h : OkD v) : Sz (v.List_.length * 128) /\ Sz (v.Pairs.length * 256) /\ Sz (v.Slots.length * 136) /\ Sz (v.Raws.length * 40) := by
 cases h with
 | mk _ _ _ _ _ _ _ _ _ _ _ _ _ _ w => exact w
theorem and_sign (a : Nat) (h : a < 18446744073709551616) : (bitsOf .and .u64 (a : Int) 9223372036854775808 != 0) = decide (9223372036854775808 <= a) := by
 have e := bits_and_u64 a 9223372036854775808 h (by omega)
 rw [show ((9223372036854775808 : Nat) : Int) = 9223372036854775808 from rfl] at e
 rw [e]
 by_cases h1 : 9223372036854775808 <= a
 ·have ea : a = (a - 9223372036854775808) ||| 9223372036854775808 := by
   have e2 := or_add (a - 9223372036854775808) 1 63 (by rw [show (2 : Nat) ^ 63 = 9223372036854775808 by decide]; omega)
   rw [Nat.one_mul, show (2 : Nat) ^ 63 = 9223372036854775808 by decide] at e2
   rw [e2]; omega
  have e3 : a &&& 9223372036854775808 = 9223372036854775808 := by
   rw [ea]
   apply Nat.eq_of_testBit_eq
   intro i
   rw [Nat.testBit_and, Nat.testBit_or]
   generalize Nat.testBit (a - 9223372036854775808) i = t
   generalize Nat.testBit 9223372036854775808 i = u
   cases t <;> cases u <;> rfl
  rw [e3]; simp [h1]
 ·have e3 : a &&& 9223372036854775808 = 0 := by
   apply Nat.eq_of_testBit_eq
   intro i
   rw [Nat.testBit_and, show (9223372036854775808 : Nat) = 2 ^ 63 by decide, Nat.testBit_two_pow]
   by_cases hi : 63 = i
   ·subst hi
    rw [Nat.testBit_lt_two_pow (by rw [show (2 : Nat) ^ 63 = 9223372036854775808 by decide]; omega)]
    simp
   ·simp [hi]
  rw [e3]; simp [h1]
theorem mul1_is (n : Nat) (hn : n < 65) : math_bits_Mul 1 (n : Int) (0, ((1 * n : Nat) : Int)) := by
 refine math_bits_Mul_step _ _ _ ⟨(0, ((1 * n : Nat) : Int)), math_bits_Mul64_step _ _ _ ?_, rfl⟩
 revert n
 decide +kernel
theorem pre_is (s t : ByteArray) (b : Bool) (h : (Nat.ble t.size s.size && decide (s.extract 0 t.size = t)) = b) : strings_HasPrefix s t b := by
 refine strings_HasPrefix_step _ _ _ ⟨b, internal_stringslite_HasPrefix_step _ _ _ ⟨fun h1 => ⟨⟨by omega, by omega, by simpa using h1⟩, ?_⟩, fun h1 => ?_⟩, rfl⟩
 ·have : Nat.ble t.size s.size = true := by rw [Nat.ble_eq]; have := of_decide_eq_true h1; omega
  rw [this, Bool.true_and] at h
  rw [← h]; rfl
 ·have : Nat.ble t.size s.size = false := by
   cases hb : Nat.ble t.size s.size with
   | false => rfl
   | true => have := Nat.le_of_ble_eq_true hb; have := of_decide_eq_false h1; omega
  rw [this, Bool.false_and] at h
  exact h.symm
theorem bR_cut (m k : Nat) (b : UInt8) (h : k <= m) : (bR m b).extract 0 k = bR k b := by
 rw [cut_same]
 unfold bR
 simp [List.take_replicate, Nat.min_eq_left h]
theorem rep0_is (n : Nat) (hn : n <= 64) : strings_Repeat ⟨#[48]⟩ (n : Int) (bR n 48) := by
 have w : wU (n : Int) = n := by rw [wU, wrapU (by omega)]
 have w2 : wI (((1 * n : Nat) : Int)) = (n : Int) := by rw [wI, wrapI (by omega)]; omega
 refine strings_Repeat_step _ _ _ ⟨fun h => ?_, fun h => ⟨fun h1 => ?_, fun h1 => ⟨fun h2 => ?_, fun h2 => ⟨(0, ((1 * n : Nat) : Int)), ?_, fun h3 => ?_, fun h3 => ⟨fun h4 => (by cases h4), fun h4 => ⟨⟨by decide, by decide⟩, fun h5 => (by cases h5), fun h5 => ⟨fun h6 => (by cases h6), fun h6 => ⟨fun h7 => ?_, fun h7 => (by cases h7)⟩⟩⟩⟩⟩⟩⟩⟩
 ·have : n = 0 := by simp only [beq_iff_eq] at h; omega
  subst this; rfl
 ·have : n = 1 := by simp only [beq_iff_eq] at h1; omega
  subst this; rfl
 ·have := of_decide_eq_true h2; omega
 ·rw [w]; exact mul1_is n (by omega)
 ·simp only [Bool.or_eq_true, decide_eq_true_eq] at h3; omega
 ·refine strings_Repeat_j14_step _ _ _ _ ⟨fun _ => ⟨fun z => z = false, fun z hz => ⟨fun h => (by rw [hz] at h; cases h), fun _ => ⟨fun z => z = false, fun z hz => ⟨fun h => (by rw [hz] at h; cases h), fun _ => ⟨fun z => z = true, fun z hz => ⟨fun _ => ⟨?_, ?_⟩, fun h => (by rw [hz] at h; cases h)⟩, fun _ => ⟨_, pre_is _ _ true (by decide +kernel), rfl⟩, fun h => ?_⟩⟩, fun _ => ⟨_, pre_is _ _ false (by decide +kernel), rfl⟩, fun _ => rfl⟩⟩, fun _ => ⟨_, pre_is _ _ false (by decide +kernel), rfl⟩, fun _ => rfl⟩, fun h => (by cases h)⟩
  ·simp only; rw [w2, bR_size]; omega
  ·simp only; rw [w2]
   exact (bR_cut 64 n 48 (by omega)).symm
  ·simp only at h; rw [w2] at h; have := of_decide_eq_false h; omega
def doubT (u : Nat) : ByteArray :=
 if clsS u = 0 then ⟨#[110, 97, 110]⟩ else if clsS u = 1 then (if 9223372036854775808 <= u then ⟨#[45, 105, 110, 102]⟩ else ⟨#[105, 110, 102]⟩) else ⟨#[48, 120]⟩ ++ hex16 u
theorem int_eqN (a b : Nat) : (((a : Nat) : Int) == (b : Int)) = decide (a = b) := by
 by_cases h : a = b
 ·simp [h]
 ·simp [h]; omega
theorem hexB_size (u : Nat) : (hexB u).size = hexL u := by
 show (hexN (hexL u) u).toArray.size = _
 rw [List.size_toArray, hexN_len]
theorem double_is (mg : Int) (u : Nat) (hu : u < 18446744073709551616) : scalar_double mg u (doubT u) := by
 have c0 : (((clsS u : Nat) : Int) == 0) = decide (clsS u = 0) := int_eqN _ 0
 have c1 : (((clsS u : Nat) : Int) == 1) = decide (clsS u = 1) := int_eqN _ 1
 refine scalar_double_step _ _ _ ⟨_, class_is u hu, ?_⟩
 rw [c0, c1, and_sign u hu]
 unfold doubT
 refine ⟨fun h => by rw [if_pos (of_decide_eq_true h)], fun h => ?_⟩
 rw [if_neg (of_decide_eq_false h)]
 refine ⟨fun h1 => ?_, fun h1 => ⟨fun h2 => ?_, fun h2 => ?_⟩⟩
 ·simp only [Bool.and_eq_true, decide_eq_true_eq] at h1
  rw [if_pos h1.1, if_pos h1.2]
 ·have := of_decide_eq_true h2
  rw [if_pos this, if_neg]
  intro h3
  simp [this, h3] at h1
 ·rw [if_neg (of_decide_eq_false h2)]
  have hl : hexL u <= 16 := hexL_le 15 u (by simpa using hu)
  have hz := hexB_size u
  refine ⟨_, fu16_p mg u hu, bR (16 - hexL u) 48, ?_, ?_, ?_, ?_⟩
  ·have e : wI (16 - ((hexB u).size : Int)) = ((16 - hexL u : Nat) : Int) := by rw [hz, wI, wrapI (by omega)]; omega
   rw [e]
   exact rep0_is _ (by omega)
  ·rw [bR_size, show (⟨#[48, 120]⟩ : ByteArray).size = 2 from rfl]; omega
  ·rw [ba_size, bR_size, hz, show (⟨#[48, 120]⟩ : ByteArray).size = 2 from rfl]; omega
  ·rw [ba_assoc, pad16 u hu]
def intT (n : Int) : ByteArray := ⟨(Lib.itoa n).toArray⟩
def txtV (v : GValue) : ByteArray :=
 if fitsV v.Kind v = false then ⟨#[]⟩ else if v.Kind = 1 then (if v.Bits = 1 then ⟨#[116, 114, 117, 101]⟩ else ⟨#[102, 97, 108, 115, 101]⟩)
 else if v.Kind = 2 ∨ v.Kind = 3 then intT (wI v.Bits) else if v.Kind = 6 then doubT v.Bits.toNat else if v.Kind = 7 then quoteV v.Text else if v.Kind = 8 then ⟨#[120]⟩ ++ quoteV (hexV v.Text) else decB v.Bits.toNat
theorem fits_size {v : GValue} (h : fitsV v.Kind v = true) : v.Text.size <= 4096 := by
 have f := fits_facts v h
 by_cases h78 : v.Kind = 7 ∨ v.Kind = 8
 ·exact (f.2.2.1 h78).2.1
 ·unfold fitsV at h
  rw [if_neg h78] at h
  simp only [Bool.and_eq_true, decide_eq_true_eq] at h
  rw [h.2.1]; decide
theorem quoteN_size (s : ByteArray) : ∀ (f p : Nat), p <= s.size -> (quoteN s f p).size <= 4 * (s.size - p) + 1
 | 0, p, h => by show 1 <= _; omega
 | f + 1, p, h => by
  rw [quoteN]
  split
  ·rename_i hp
   have k1 := stepN_pos s p; have k2 := stepN_le s p hp; have k3 := formV_size s p hp
   have := quoteN_size s f (p + stepN s p) k2
   rw [ba_size]; omega
  ·show 1 <= _; omega
theorem quoteV_size (s : ByteArray) : (quoteV s).size <= 4 * s.size + 2 := by
 have := quoteN_size s s.size 0 (Nat.zero_le _)
 rw [quoteV, ba_size, show (⟨#[34]⟩ : ByteArray).size = 1 from rfl]; omega
theorem decB_le : ∀ (n u : Nat), u < 10 ^ (n + 1) -> (decB u).size <= n + 1 := by
 intro n
 induction n with
 | zero =>
  intro u h
  rw [decB_one u (by omega)]; show 1 <= _; omega
 | succ n ih =>
  intro u h
  by_cases hu : u < 10
  ·rw [decB_one u hu]; show 1 <= _; omega
  ·rw [decB_more u hu, ba_size]
   have := ih (u / 10) (by rw [Nat.pow_succ] at h; omega)
   have : (⟨#[UInt8.ofNat (48 + u % 10)]⟩ : ByteArray).size = 1 := rfl
   omega
theorem decB_size (u : Nat) (h : u < 18446744073709551616) : (decB u).size <= 20 := decB_le 19 u (by omega)
theorem hex16_size (u : Nat) : (hex16 u).size = 16 := by
 show (hexN 16 u).toArray.size = _
 rw [List.size_toArray, hexN_len]
end Go.Proofs.YtdpomombdeccpaaGreatDoor.Lift
