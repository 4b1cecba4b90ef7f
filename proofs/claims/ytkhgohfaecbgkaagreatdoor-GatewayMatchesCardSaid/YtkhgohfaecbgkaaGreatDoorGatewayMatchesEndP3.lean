/- Part 4 of the texts that prove GatewayMatchesEnd. -/
import Derived.Test.YtkhgohfaecbgkaaGreatDoorGatewayMatchesEndP2
import Derived.Lib.Strings
import Derived.Lib.Slices
import Derived.Lib.Walk
import Derived.Lib.AppendStr
import Derived.Lib.UnsafeStr
import Derived.Lib.MakeNoZero
import Derived.Laws.IdiomCopy
import Derived.Laws.BitsLemmas
import Derived.Shelf.Strings.Builder1
import Derived.Shelf.Strings.Builder2
import Derived.Shelf.Small.Strs
import Derived.Shelf.Strings.BuilderF
import Derived.Shelf.Utf8.RuneCount
import Derived.Shelf.Strconv.Itoa0
import Derived.Shelf.Strconv.Itoa1
import Derived.Shelf.LaysM
import Derived.Shelf.Strconv.Itoa2
import Derived.Shelf.Strconv.Itoa3
import Derived.Shelf.Strings.Search1
import Derived.Shelf.Strings.Search2
import Derived.Shelf.Strings.Search3
import Derived.Shelf.Strings.Cut
import Derived.Shelf.Strings.Count
import Derived.Shelf.Strings.Shaped
import Derived.Shelf.Strings.Split
import Derived.Shelf.Strings.SplitShaped
import Derived.Shelf.Unicode.Decode
import Derived.Shelf.Strings.RuneCount
import Derived.Shelf.Strings.Explode
import Derived.Shelf.Bits.Mul64
import Derived.Shelf.Unicode.DecodeSlow
import Derived.Shelf.Unicode.DecodeAny
import Derived.Ground.Names2Prog
import Derived.Shelf.Slices.SearchI
import Derived.Test.YtkhgohfaecbgkaaGreatDoorProg
import Derived.Test.YtkhgohfaecbgkaaGreatDoorGatewayMatchesEndP1
import Derived.OpenShut
import Derived.ProofKit
import Derived.RegionCalls
import Derived.Deep.RegionWith
namespace Go.Proofs.YtkhgohfaecbgkaaGreatDoor.Lift
open Go.RowKit
set_option linter.unusedVariables false
set_option linter.unusedSimpArgs false
set_option linter.unnecessarySimpa false
set_option linter.unusedSectionVars false
set_option maxRecDepth 100000
theorem bcc (B b : Nat) (bs : List Value) (w : World) (h : Lib.IsBuilder 121 5 B b bs w) :
  Calls Tryz.prog 106 #[.pointer (some ⟨b, 0, none⟩)] w fun e w' => e = .returned (.tuple #[]) /\ (Lib.BuilderAt 121 5 B b (.pointer (some ⟨b, 0, none⟩)) bs w' /\ Below B w w') := by
 rcases h with h | h
 ·refine (cc_fresh b w h.cell0 h.shape h.frozen0).mono ?_
  rintro e w' ⟨rfl, rfl⟩
  exact ⟨rfl, h.used _, (Below.refl B w).setCell (p := ⟨b, 0, none⟩) h.1 _⟩
 ·refine (cc_used b w h.cell0).mono ?_
  rintro e w' ⟨rfl, rfl⟩
  exact ⟨rfl, h, Below.refl B _⟩
set_option maxHeartbeats 2000000 in
set_option maxRecDepth 100000 in
theorem bwb (B b : Nat) (bs : List Value) (c : Int) (w : World) (h : Lib.IsBuilder 121 5 B b bs w) (hlen : bs.length + 1 <= 140737488355328) (hBw : B <= w.heap.size) :
  Calls Tryz.prog 43 #[.pointer (some ⟨b, 0, none⟩), .int .u8 c] w fun e w' => e = .returned .nilIface /\ (Lib.BuilderAt 121 5 B b (.pointer (some ⟨b, 0, none⟩)) (bs ++ [.int .u8 c]) w' /\ Below B w w') := by
 obtain ⟨i0, hi, hz0, hz1, hz2⟩ := info_parts (show ((Tryz.prog).info? 5).map (fun i => (i.zero, i.size, i.bytes)) = some (some (.int .u8 0), 1, 1) by kernel_rfl)
 go_enter Tryz.func43, Tryz.ntmps43
 go_wp2_with (go_at_call 106; refine (bcc B b bs _ h).mono ?_)
 rintro e w1 ⟨rfl, h1, hb1⟩
 obtain ⟨hB, v, hbk, hown, hne⟩ := h1
 have c0 : w1.cell? ⟨b, 0, none⟩ = some (.pointer (some ⟨b, 0, none⟩)) := by rw [Lib.cell_of_heap hbk]; rfl
 have c1 : w1.cell? ⟨b, 1, none⟩ = some v := by rw [Lib.cell_of_heap hbk]; rfl
 go_wp2_with (at_builtin; refine wpList_append_own _ rfl _ _ 119 rfl B 5 i0 (.int .u8 0) 1 1 Tryz.underlying119 hi hz0 hz1 hz2 rfl (by decide) _ _ _ rfl (hown.alloc _) ⟨w1.heap.size, 0, none⟩ 1 1 [.int .u8 c] rfl rfl ?c1 ?c2 ?c3 ?c4 ?c5 ?_)
 case c1 =>
  intro j u hj
  match j, hj with
  | 0, hj => simp at hj; subst hj; simp [Addr.add]
 case c2 => intro u hu; simp at hu; subst hu; rfl
 case c3 => unfold maxLen; omega
 case c4 => omega
 case c5 => have := hb1.size; simp; omega
 intro v' w2 hown' hgrow _
 have hlt : b < w1.heap.size := by
  rcases Nat.lt_or_ge b w1.heap.size with h' | h'
  ·exact h'
  ·simp [Array.getElem?_eq_none h'] at hbk
 have hb2 : w2.heap[b]? = some (.cells #[.pointer (some ⟨b, 0, none⟩), v] 121 (0, 0)) := by
  rw [hgrow.block b (by simp; omega) (fun e => hne e.symm), Lib.alloc_old w1 _ b hlt]
  exact hbk
 have d0 : w2.cell? ⟨b, 0, none⟩ = some (.pointer (some ⟨b, 0, none⟩)) := by rw [Lib.cell_of_heap hb2]; rfl
 have d1 : w2.cell? ⟨b, 1, none⟩ = some v := by rw [Lib.cell_of_heap hb2]; rfl
 have f1 : w2.frozen? ⟨b, 1, none⟩ = false := Lib.frozen_of_heap hb2 1
 obtain ⟨g, cap, rfl⟩ : ∃ g cap, v' = .slice (some ⟨g, 0, none⟩) (bs.length + 1) cap := by
  rcases hown'.2 with ⟨_, h0⟩ | ⟨g, cap, cur, hv, _⟩
  ·omega
  ·exact ⟨g, cap, hv⟩
 go_wp2
 go_ret
 refine ⟨rfl, ?_, ?_⟩
 ·exact Lib.BuilderAt.put (T := 121) (e := 5) hB hb2 (bs' := bs ++ [.int .u8 c]) (by simpa using hown') (by decide)
 ·exact ((hb1.alloc (by have := hb1.size; omega) _).grown hgrow (by have := hb1.size; simp; omega) (fun k hk => (hown.lt k hk).1)).setCell (p := ⟨b, 1, none⟩) hB _
set_option maxHeartbeats 2000000 in
set_option maxRecDepth 100000 in
theorem bws (B b : Nat) (bs : List Value) (s : ByteArray) (w : World) (h : Lib.IsBuilder 121 5 B b bs w) (hlen : bs.length + s.size <= 140737488355328) (hBw : B <= w.heap.size) :
  Calls Tryz.prog 51 #[.pointer (some ⟨b, 0, none⟩), .string s] w fun e w' => e = .returned (.tuple #[.int .i64 s.size, .nilIface]) /\ (Lib.BuilderAt 121 5 B b (.pointer (some ⟨b, 0, none⟩)) (bs ++ Lib.strCells s) w' /\ Below B w w') := by
 obtain ⟨i0, hi, hz0, hz1, hz2⟩ := info_parts (show ((Tryz.prog).info? 5).map (fun i => (i.zero, i.size, i.bytes)) = some (some (.int .u8 0), 1, 1) by kernel_rfl)
 go_enter Tryz.func51, Tryz.ntmps51
 go_wp2_with (go_at_call 106; refine (bcc B b bs _ h).mono ?_)
 rintro e w1 ⟨rfl, h1, hb1⟩
 obtain ⟨hB, v, hbk, hown, hne⟩ := h1
 have c0 : w1.cell? ⟨b, 0, none⟩ = some (.pointer (some ⟨b, 0, none⟩)) := by rw [Lib.cell_of_heap hbk]; rfl
 have c1 : w1.cell? ⟨b, 1, none⟩ = some v := by rw [Lib.cell_of_heap hbk]; rfl
 go_wp2_with (at_builtin; refine Lib.wpList_append_own_string _ rfl _ _ 119 9 rfl B 5 i0 Tryz.underlying119 Tryz.underlying9 hi hz0 hz1 hz2 _ _ _ rfl hown s rfl ?c3 ?c4 ?c5 ?_)
 case c3 => unfold maxLen; omega
 case c4 => omega
 case c5 => have := hb1.size; omega
 intro v' w2 hown' hgrow _
 have hlt : b < w1.heap.size := by
  rcases Nat.lt_or_ge b w1.heap.size with h' | h'
  ·exact h'
  ·simp [Array.getElem?_eq_none h'] at hbk
 have hb2 : w2.heap[b]? = some (.cells #[.pointer (some ⟨b, 0, none⟩), v] 121 (0, 0)) := by
  rw [hgrow.block b hlt (fun e => hne e.symm)]
  exact hbk
 have d0 : w2.cell? ⟨b, 0, none⟩ = some (.pointer (some ⟨b, 0, none⟩)) := by rw [Lib.cell_of_heap hb2]; rfl
 have d1 : w2.cell? ⟨b, 1, none⟩ = some v := by rw [Lib.cell_of_heap hb2]; rfl
 have f1 : w2.frozen? ⟨b, 1, none⟩ = false := Lib.frozen_of_heap hb2 1
 obtain ⟨ao, n', cap, rfl⟩ : ∃ ao n' cap, v' = .slice ao n' cap := by
  rcases hown'.2 with ⟨hv, _⟩ | ⟨g, cap, cur, hv, _⟩
  ·exact ⟨_, _, _, hv⟩
  ·exact ⟨_, _, _, hv⟩
 go_wp2
 go_ret2
 refine ⟨rfl, ?_, ?_⟩
 ·exact Lib.BuilderAt.put (T := 121) (e := 5) hB hb2 (bs' := bs ++ Lib.strCells s) (by simpa [Lib.strCells_length] using hown') (by decide)
 ·exact (hb1.grown hgrow (by have := hb1.size; omega) (fun k hk => (hown.lt k hk).1)).setCell (p := ⟨b, 1, none⟩) hB _
section
open Go.Shelf
def Tryz.lays169_ren : Go.Shelf.Ren := ⟨fun | 169 => 45 | n => n, fun | 70 => 118 | 9 => 9 | 0 => 0 | 72 => 121 | 37 => 119 | 127 => 203 | 3 => 3 | 5 => 5 | n => n, fun | n => n⟩
theorem Tryz.lays169 : Go.Proofs.Lays.n169 Tryz.prog Tryz.lays169_ren := {
 mixed := by kernel_rfl
 f169 := Tryz.func45.trans (congrArg some (by kernel_rfl))
 t0 := Tryz.underlying0
 a0 := Tryz.isAgg0
 z0 := Tryz.sizeOf0
 v0 := Tryz.zeroValue0
 t3 := Tryz.underlying3
 a3 := Tryz.isAgg3
 z3 := Tryz.sizeOf3
 v3 := Tryz.zeroValue3
 t9 := Tryz.underlying9
 a9 := Tryz.isAgg9
 z9 := Tryz.sizeOf9
 v9 := Tryz.zeroValue9
 t37 := Tryz.underlying119
 a37 := Tryz.isAgg119
 z37 := Tryz.sizeOf119
 v37 := Tryz.zeroValue119
 t70 := Tryz.underlying118
 a70 := Tryz.isAgg118
 z70 := Tryz.sizeOf118
 v70 := Tryz.zeroValue118
 t72 := Tryz.underlying121
 a72 := Tryz.isAgg121
 z72 := Tryz.sizeOf121
 v72 := Tryz.zeroValue121
 t127 := Tryz.underlying203
 a127 := Tryz.isAgg203
 z127 := Tryz.sizeOf203
 v127 := Tryz.zeroValue203 }
theorem Tryz.Builder_Extra_169 : Builder.Extra Tryz.prog Tryz.lays169_ren := {
 sizeBuilder := by kernel_rfl
 liesBuilder := by kernel_rfl
 t5 := Tryz.underlying5
 a5 := Tryz.isAgg5
 z5 := Tryz.sizeOf5
 v5 := Tryz.zeroValue5
 infoByte := by kernel_rfl
 cellsByte := by kernel_rfl
 sizeByte := by kernel_rfl
 neB5 := by decide }
open Go.RowKit in
theorem Tryz.Builder_String_any (B b : Nat) (l : List UInt8) (w : World) (h : Lib.IsBuilder 121 5 B b (Lib.byteCells l) w) (hBw : B <= w.heap.size) :
  Calls Tryz.prog 45 #[.pointer (some ⟨b, 0, none⟩)] w fun e w' => e = .returned (.string ⟨l.toArray⟩) /\ Below B w w' := Any.Builder_String_any Tryz.lays169 Tryz.Builder_Extra_169 B b l w h hBw
def Tryz.lays137_ren : Go.Shelf.Ren := ⟨fun | 137 => 44 | 217 => 107 | 266 => 187 | n => n, fun | 9 => 9 | 5 => 5 | 3 => 3 | n => n, fun | n => n⟩
theorem Tryz.lays137 : Go.Proofs.Lays.n137 Tryz.prog Tryz.lays137_ren := {
 mixed := by kernel_rfl
 f137 := Tryz.func44.trans (congrArg some (by kernel_rfl))
 f217 := Tryz.func107.trans (congrArg some (by kernel_rfl))
 f266 := Tryz.func187.trans (congrArg some (by kernel_rfl))
 t3 := Tryz.underlying3
 a3 := Tryz.isAgg3
 z3 := Tryz.sizeOf3
 v3 := Tryz.zeroValue3
 t5 := Tryz.underlying5
 a5 := Tryz.isAgg5
 z5 := Tryz.sizeOf5
 v5 := Tryz.zeroValue5
 t9 := Tryz.underlying9
 a9 := Tryz.isAgg9
 z9 := Tryz.sizeOf9
 v9 := Tryz.zeroValue9 }
open Go.RowKit in
theorem Tryz.strings_IndexByte (s : ByteArray) (c : Int) (w : World) :
  Calls Tryz.prog 44 #[.string s, .int .u8 c] w fun e w' => e = .returned (.int .i64 (Lib.indexByte s.data.toList c.toNat.toUInt8)) /\ w' = w := Any.strings_IndexByte Tryz.lays137 s c w
def Tryz.lays146_ren : Go.Shelf.Ren := ⟨fun | 146 => 150 | 221 => 217 | 268 => 287 | 138 => 288 | 143 => 289 | 195 => 362 | 197 => 363 | 218 => 364 | 219 => 216 | 260 => 416 | 217 => 107 | 225 => 284 | 224 => 285 | 267 => 286 | 266 => 187 | 314 => 361 | n => n, fun | 9 => 9 | 31 => 79 | 3 => 3 | 4 => 4 | 0 => 0 | 105 => 423 | 21 => 21 | 5 => 5 | 46 => 126 | 119 => 479 | 139 => 482 | 138 => 481 | 146 => 421 | 51 => 420 | n => n, fun | 1 => 2 | 3 => 3 | 4 => 4 | n => n⟩
theorem Tryz.lays146 : Go.Proofs.Lays.n146 Tryz.prog Tryz.lays146_ren := {
 mixed := by kernel_rfl
 f138 := Tryz.func288.trans (congrArg some (by kernel_rfl))
 f143 := Tryz.func289.trans (congrArg some (by kernel_rfl))
 f146 := Tryz.func150.trans (congrArg some (by kernel_rfl))
 f195 := Tryz.func362.trans (congrArg some (by kernel_rfl))
 f197 := Tryz.func363.trans (congrArg some (by kernel_rfl))
 f217 := Tryz.func107.trans (congrArg some (by kernel_rfl))
 f218 := Tryz.func364.trans (congrArg some (by kernel_rfl))
 f219 := Tryz.func216.trans (congrArg some (by kernel_rfl))
 f221 := Tryz.func217.trans (congrArg some (by kernel_rfl))
 f224 := Tryz.func285.trans (congrArg some (by kernel_rfl))
 f225 := Tryz.func284.trans (congrArg some (by kernel_rfl))
 f260 := Tryz.func416.trans (congrArg some (by kernel_rfl))
 f266 := Tryz.func187.trans (congrArg some (by kernel_rfl))
 f267 := Tryz.func286.trans (congrArg some (by kernel_rfl))
 f268 := Tryz.func287.trans (congrArg some (by kernel_rfl))
 f314 := Tryz.func361.trans (congrArg some (by kernel_rfl))
 t0 := Tryz.underlying0
 a0 := Tryz.isAgg0
 z0 := Tryz.sizeOf0
 v0 := Tryz.zeroValue0
 t3 := Tryz.underlying3
 a3 := Tryz.isAgg3
 z3 := Tryz.sizeOf3
 v3 := Tryz.zeroValue3
 t4 := Tryz.underlying4
 a4 := Tryz.isAgg4
 z4 := Tryz.sizeOf4
 v4 := Tryz.zeroValue4
 t5 := Tryz.underlying5
 a5 := Tryz.isAgg5
 z5 := Tryz.sizeOf5
 v5 := Tryz.zeroValue5
 t9 := Tryz.underlying9
 a9 := Tryz.isAgg9
 z9 := Tryz.sizeOf9
 v9 := Tryz.zeroValue9
 t21 := Tryz.underlying21
 a21 := Tryz.isAgg21
 z21 := Tryz.sizeOf21
 v21 := Tryz.zeroValue21
 t31 := Tryz.underlying79
 a31 := Tryz.isAgg79
 z31 := Tryz.sizeOf79
 v31 := Tryz.zeroValue79
 t46 := Tryz.underlying126
 a46 := Tryz.isAgg126
 z46 := Tryz.sizeOf126
 v46 := Tryz.zeroValue126
 t51 := Tryz.underlying420
 a51 := Tryz.isAgg420
 z51 := Tryz.sizeOf420
 v51 := Tryz.zeroValue420
 t105 := Tryz.underlying423
 a105 := Tryz.isAgg423
 z105 := Tryz.sizeOf423
 v105 := Tryz.zeroValue423
 t119 := Tryz.underlying479
 a119 := Tryz.isAgg479
 z119 := Tryz.sizeOf479
 t138 := Tryz.underlying481
 a138 := Tryz.isAgg481
 z138 := Tryz.sizeOf481
 v138 := Tryz.zeroValue481
 t139 := Tryz.underlying482
 a139 := Tryz.isAgg482
 z139 := Tryz.sizeOf482
 v139 := Tryz.zeroValue482
 t146 := Tryz.underlying421
 a146 := Tryz.isAgg421
 z146 := Tryz.sizeOf421
 v146 := Tryz.zeroValue421
 g1 := by kernel_rfl
 g3 := by kernel_rfl
 g4 := by kernel_rfl }
open Go.RowKit Go.Lib in
theorem Tryz.strings_Split (s sep : ByteArray) (m : Int) (w : World) (hs : s.size < 4294967281) (hm : w.cell? ⟨2, 0, none⟩ = some (.int .i64 m)) (h1 : 1 <= sep.size) :
  Calls Tryz.prog 150 #[.string s, .string sep] w fun e w' =>
   e = .returned (.slice (some ⟨w.heap.size, 0, none⟩) (Lib.countB s sep + 1) (Lib.countB s sep + 1)) /\ w' = w.alloc (.cells ((Lib.splitB sep 0 (Lib.countB s sep) s).map Value.string).toArray 9) := Any.strings_Split Tryz.lays146 (by kernel_rfl) s sep m w hs hm h1
end
section
open Go.RowKit Go.ChangeShapes Go.WideShapes Go.ChangeAt
theorem list_of' {α : Type} {P : Nat -> α -> Prop} : ∀ n : Nat, (∀ i, i < n -> ∃ x, P i x) -> ∃ xs : List α, xs.length = n /\ ∀ (i : Nat) x, xs[i]? = some x -> P i x
 | 0, _ => ⟨[], rfl, fun i x h => by simp at h⟩
 | n + 1, h => by
  obtain ⟨xs, hl, hx⟩ := list_of' n (fun i hi => h i (by omega))
  obtain ⟨y, hy⟩ := h n (by omega)
  refine ⟨xs ++ [y], by simp [hl], fun i x hi => ?_⟩
  by_cases hin : i < n
  ·rw [List.getElem?_append_left (by omega)] at hi; exact hx i x hi
  ·rw [List.getElem?_append_right (by omega)] at hi
   by_cases e : i = n
   ·subst e; rw [hl] at hi; simp at hi; subst hi; exact hy
   ·rw [List.getElem?_eq_none (by simp; omega)] at hi; cases hi
def Ty (P : Program) : Nat -> TypeId -> List AV -> Prop
 | 0, _, _ => False
 | n + 1, t, avs => match P.underlying t with
  | some (.int k) => ∃ m, avs = [.v (.int k m)] /\ (Lit.int k m).wf = true
  | some .bool => ∃ b, avs = [.v (.bool b)]
  | some .string => ∃ s, avs = [.v (.string s)] /\ s.size <= 140737488351232
  | some (.slice e) => ∃ els : List (List AV), avs = [.sl els .no] /\ els.length * P.bytesOf e <= 140737488351232 /\ ∀ el ∈ els, Ty P n e el
  | some (.struct fs) => ∃ parts : List (List AV), avs = parts.flatten /\ parts.length = fs.size /\ ∀ (i : Nat) (f : Field), fs[i]? = some f -> ∃ p, parts[i]? = some p /\ Ty P n f.type p
  | some (.array k e) => ∃ parts : List (List AV), avs = parts.flatten /\ parts.length = k /\ ∀ p ∈ parts, Ty P n e p
  | _ => False
def contig (P : Program) : Nat -> List Field -> Nat -> Bool
 | off, [], tot => off == tot
 | off, f :: fs, tot => f.offset == off && contig P (off + P.cellsOf f.type) fs tot
def okT (P : Program) (ts : List TypeId) (t : TypeId) : Bool :=
 match P.underlying t with
 | some (.int _) | some .bool | some .string => true
 | some (.slice e) => ts.contains e && decide (0 < P.cellsOf e) && decide (1 <= P.bytesOf e)
 | some (.struct fs) => fs.toList.all (fun f => ts.contains f.type) && contig P 0 fs.toList (P.cellsOf t)
 | some (.array k e) => ts.contains e && decide (k * P.cellsOf e = P.cellsOf t)
 | _ => false
def okTypes (P : Program) (ts : List TypeId) : Bool := ts.all (okT P ts)
def nowhere : Nat -> Nat -> Prop := fun _ _ => False
section
variable {H : Type} {enc : TypeId × Value -> H} {P : Program} {W : World} {base : Nat} {spare : Nat -> Bool} {held : Bool}
def Lightly (P : Program) (t : TypeId) (d : DataW H) : Prop := ∀ x ∈ DataW.weights P t d, x <= 140737488351232
theorem weightsEach_mem' : ∀ (ts : List TypeId) (ds : List (DataW H)) (i : Nat) (t : TypeId) (d : DataW H), ts[i]? = some t -> ds[i]? = some d -> ∀ x ∈ DataW.weights P t d, x ∈ DataW.weightsEach P ts ds
 | [], _, i, _, _, h, _, _, _ => by simp at h
 | _ :: _, [], i, _, _, _, h, _, _ => by simp at h
 | t' :: ts, d' :: ds, 0, t, d, h1, h2, x, hx => by
  simp at h1 h2; subst h1; subst h2
  simp only [DataW.weightsEach, List.mem_append]; exact .inl hx
 | t' :: ts, d' :: ds, i + 1, t, d, h1, h2, x, hx => by
  simp only [DataW.weightsEach, List.mem_append]
  exact .inr (weightsEach_mem' ts ds i t d (by simpa using h1) (by simpa using h2) x hx)
theorem weightsAll_mem' (e : TypeId) : ∀ (ds : List (DataW H)) (i : Nat) (d : DataW H), ds[i]? = some d -> ∀ x ∈ DataW.weights P e d, x ∈ DataW.weightsAll P e ds
 | [], i, _, h, _, _ => by simp at h
 | d' :: ds, 0, d, h2, x, hx => by
  simp at h2; subst h2
  simp only [DataW.weightsAll, List.mem_append]; exact .inl hx
 | d' :: ds, i + 1, d, h2, x, hx => by
  simp only [DataW.weightsAll, List.mem_append]
  exact .inr (weightsAll_mem' e ds i d (by simpa using h2) x hx)
theorem Lightly.part {t : TypeId} {fs : Array Field} {ps : List (DataW H)} (ht : P.underlying t = some (.struct fs)) (h : Lightly P t (.agg ps)) {i : Nat} {f : Field} {d : DataW H} (hf : fs[i]? = some f) (hd : ps[i]? = some d) : Lightly P f.type d := by
 intro x hx
 refine h x ?_
 simp only [DataW.weights, ht]
 exact weightsEach_mem' _ _ i f.type d (by simp [hf]) hd x hx
theorem Lightly.elem {t e : TypeId} {es sp : List (DataW H)} (ht : P.underlying t = some (.slice e)) (h : Lightly P t (.slice es sp)) {i : Nat} {d : DataW H} (hd : es[i]? = some d) : Lightly P e d := by
 intro x hx
 refine h x ?_
 simp only [DataW.weights, ht, List.mem_cons, List.mem_append]
 exact .inr (.inl (weightsAll_mem' e es i d hd x hx))
theorem Lightly.short {t e : TypeId} {es sp : List (DataW H)} (ht : P.underlying t = some (.slice e)) (h : Lightly P t (.slice es sp)) : es.length * P.bytesOf e <= 140737488351232 := by
 have := h ((es.length + sp.length) * P.bytesOf e) (by simp only [DataW.weights, ht, List.mem_cons, true_or])
 rw [Nat.add_mul] at this
 omega
theorem Lightly.at_ {t e : TypeId} {k : Nat} {ps : List (DataW H)} (ht : P.underlying t = some (.array k e)) (h : Lightly P t (.agg ps)) {i : Nat} {d : DataW H} (hd : ps[i]? = some d) : Lightly P e d := by
 intro x hx
 refine h x ?_
 simp only [DataW.weights, ht]
 exact weightsAll_mem' e ps i d hd x hx
theorem cells_concat (σ : Sg) : ∀ (fs : List Field) (off tot : Nat) (cs : List Value) (parts : List (List AV)), contig P off fs tot = true -> cs.length = tot -> parts.length = fs.length ->
  (∀ (i : Nat) (f : Field) (p : List AV), fs[i]? = some f -> parts[i]? = some p -> Cells σ p ((cs.drop f.offset).take (P.cellsOf f.type))) -> Cells σ parts.flatten (cs.drop off)
 | [], off, tot, cs, parts, hc, hl, hp, _ => by
  simp only [contig, beq_iff_eq] at hc
  have : parts = [] := List.eq_nil_of_length_eq_zero (by simpa using hp)
  subst this
  rw [List.drop_of_length_le (by omega)]
  exact Cells.nil σ
 | f :: fs, off, tot, cs, [], hc, hl, hp, _ => by simp at hp
 | f :: fs, off, tot, cs, p :: parts, hc, hl, hp, h => by
  simp only [contig, Bool.and_eq_true, beq_iff_eq] at hc
  obtain ⟨h1, h2⟩ := hc
  have h3 := h 0 f p rfl rfl
  have h4 := cells_concat σ fs (off + P.cellsOf f.type) tot cs parts h2 hl (by simpa using hp) (fun i g q hg hq => h (i + 1) g q (by simpa using hg) (by simpa using hq))
  have := h3.append h4
  rw [h1, ← List.drop_drop, List.take_append_drop] at this
  simpa using this
theorem cells_rows (σ : Sg) (k : Nat) : ∀ (parts : List (List AV)) (cs : List Value), cs.length = parts.length * k ->
  (∀ (i : Nat) (p : List AV), parts[i]? = some p -> Cells σ p ((cs.drop (i * k)).take k)) -> Cells σ parts.flatten cs
 | [], cs, hl, _ => by
  have : cs = [] := List.eq_nil_of_length_eq_zero (by simpa using hl)
  subst this
  exact Cells.nil σ
 | p :: parts, cs, hl, h => by
  have h3 := h 0 p rfl
  rw [List.length_cons, Nat.add_mul] at hl
  have h4 := cells_rows σ k parts (cs.drop k) (by simp; omega) (fun i q hq => by
   have := h (i + 1) q (by simpa using hq)
   rw [List.drop_drop, show k + i * k = (i + 1) * k by rw [Nat.add_mul]; omega]
   exact this)
  have := h3.append h4
  simp only [Nat.zero_mul, List.drop_zero, List.take_append_drop] at this
  simpa using this
theorem plainL_append {a b : List AV} : plainL (a ++ b) = (plainL a && plainL b) := by
 induction a with
 | nil => simp [plainL]
 | cons x a ih => simp [plainL, ih, Bool.and_assoc]
theorem plainL_flatten : ∀ {l : List (List AV)}, (∀ p ∈ l, plainL p = true) -> plainL l.flatten = true
 | [], _ => rfl
 | p :: l, h => by rw [List.flatten_cons, plainL_append, h p (by simp), plainL_flatten (fun q hq => h q (by simp [hq]))]; rfl
theorem plainLL_of : ∀ {l : List (List AV)}, (∀ p ∈ l, plainL p = true) -> plainLL l = true
 | [], _ => rfl
 | p :: l, h => by simp only [plainLL, Bool.and_eq_true]; exact ⟨h p (by simp), plainLL_of fun q hq => h q (by simp [hq])⟩
theorem open_cells {ts : List TypeId} (ok : okTypes P ts = true) : ∀ (n : Nat) (t : TypeId) (cs : List Value) (z : DataW H × List MemPlace), t ∈ ts -> DataW.trod enc P W base spare held n t cs = some z -> Lightly P t z.1 ->
  ∃ avs, Cells (bare W nowhere) avs cs /\ Ty P n t avs /\ plainL avs = true := by
 intro n
 induction n with
 | zero => intro t cs z ht h; simp [DataW.trod] at h
 | succ n ih =>
  intro t cs z ht h hw
  have hok := List.all_eq_true.1 ok t ht
  unfold okT at hok
  split at hok
  ·rename_i k hu
   obtain ⟨m, rfl, _, hwf⟩ := DataW.trod_int hu h
   exact ⟨[.v (.int k m)], Cells.one (.v _ rfl) rfl, by unfold Ty; rw [hu]; exact ⟨m, rfl, hwf⟩, rfl⟩
  ·rename_i hu
   obtain ⟨b, rfl, _⟩ := DataW.trod_bool hu h
   exact ⟨[.v (.bool b)], Cells.one (.v _ rfl) rfl, by unfold Ty; rw [hu]; exact ⟨b, rfl⟩, rfl⟩
  ·rename_i hu
   obtain ⟨s, rfl, rfl, _⟩ := DataW.trod_string hu h
   have : s.size <= 140737488351232 := hw s.size (by simp [DataW.weights])
   exact ⟨[.v (.string s)], Cells.one (.v _ rfl) rfl, by unfold Ty; rw [hu]; exact ⟨s, rfl, this⟩, rfl⟩
  ·rename_i e hu
   simp only [Bool.and_eq_true, decide_eq_true_eq, List.contains_iff_mem] at hok
   obtain ⟨⟨he, hk0⟩, hb1⟩ := hok
   rcases DataW.trod_slice hu h with ⟨hc, _⟩ | ⟨a, len, cap, elems, rest, m, hm, hc, hy, hb, hl, hmx, hlen, helem, _⟩
   ·subst hc
    exact ⟨[.sl [] .no], Cells.one (.sl0 _ trivial) rfl, by unfold Ty; rw [hu]; exact ⟨[], rfl, by simp, fun el h => by cases h⟩, rfl⟩
   ·subst hc hy
    obtain rfl : m = n := by omega
    have hsh := Lightly.short hu hw
    rw [List.length_map, hlen] at hsh
    have key : ∀ i, i < len -> ∃ avs : List AV, ∃ vs : List Value, vs.length = P.cellsOf e /\ (∀ j, j < P.cellsOf e -> W.cell? ((a.add (i * P.cellsOf e)).add j) = vs[j]?) /\ Cells (bare W nowhere) avs vs /\ Ty P m e avs /\ plainL avs = true := by
     intro i hi
     have h1 := helem i hi
     rw [List.getElem?_eq_getElem (by omega), Option.bind_eq_some_iff] at h1
     obtain ⟨vs, hc1, hc2⟩ := h1
     obtain ⟨_, hl1, hc3⟩ := World.cells?_some hc1
     obtain ⟨avs, h2, h3, h4⟩ := ih e vs _ he hc2 (Lightly.elem hu hw (i := i) (by rw [List.getElem?_map, List.getElem?_eq_getElem (by omega)]; rfl))
     exact ⟨avs, vs, hl1, hc3, h2, h3, h4⟩
    obtain ⟨els, hel, hels⟩ := list_of' len key
    have hty : ∀ el ∈ els, Ty P m e el /\ plainL el = true := by
     intro el hmem
     obtain ⟨i, hi⟩ := List.mem_iff_getElem?.1 hmem
     obtain ⟨vs, _, _, _, q1, q2⟩ := hels i el hi
     exact ⟨q1, q2⟩
    refine ⟨[.sl els .no], Cells.one ?_ rfl, by unfold Ty; rw [hu]; exact ⟨els, rfl, by rw [hel]; exact hsh, fun el h => (hty el h).1⟩, by simp only [plainL, plain, Bool.true_and, Bool.and_true]; exact plainLL_of fun p hp => (hty p hp).2⟩
    by_cases h0 : len = 0
    ·subst h0
     have : els = [] := List.eq_nil_of_length_eq_zero hel
     subst this
     exact .slx _ a cap trivial (.inl rfl)
    ·obtain ⟨b, o, sp⟩ := a
     obtain ⟨avs0, vs0, hl0, hc0, _⟩ := key 0 (by omega)
     have hz := hc0 0 hk0
     rw [List.getElem?_eq_getElem (by omega)] at hz
     have hspot : sp = none := by
      have := World.cell?_spot hz
      simpa [Addr.add] using this
     subst hspot
     have := Rel.sl (σ := bare W nowhere) els .no b o cap (P.cellsOf e) (fun i j => ((W.cell? ⟨b, o + i * P.cellsOf e + j, none⟩).getD undef)) (fun i el hi => by
       obtain ⟨vs, q1, _, q3, _⟩ := hels i el hi
       rw [← q3.1, q1]) (by omega) trivial (fun id e h => by cases h) (fun i el hi j av hj => by
       obtain ⟨vs, q1, q2, q3, _⟩ := hels i el hi
       obtain ⟨c1, x, hx, hr⟩ := q3.2 j av hj
       have hjl : j < P.cellsOf e := by rw [← q1]; exact (List.getElem?_eq_some_iff.1 hx).1
       have := q2 j hjl
       rw [addr_add, addr_add, hx] at this
       exact ⟨by show W.cell? _ = _; rw [this]; rfl, fun h => (bare_open _ _ _ _).1 h, c1⟩) (fun i el hi j av hj => by
       obtain ⟨vs, q1, q2, q3, _⟩ := hels i el hi
       obtain ⟨c1, x, hx, hr⟩ := q3.2 j av hj
       have hjl : j < P.cellsOf e := by rw [← q1]; exact (List.getElem?_eq_some_iff.1 hx).1
       have := q2 j hjl
       rw [addr_add, addr_add, hx] at this
       rw [this]; exact hr)
     rw [hel] at this
     exact this
  ·rename_i fs hu
   simp only [Bool.and_eq_true, List.all_eq_true, List.contains_iff_mem] at hok
   obtain ⟨hfs, hcg⟩ := hok
   obtain ⟨xs, m, hm, rfl, hcl, hxl, hf⟩ := DataW.trod_struct hu h
   obtain rfl : m = n := by omega
   have key : ∀ i, i < fs.size -> ∃ avs : List AV, ∀ f, fs[i]? = some f -> Cells (bare W nowhere) avs ((cs.drop f.offset).take (P.cellsOf f.type)) /\ Ty P m f.type avs /\ plainL avs = true := by
    intro i hi
    have hfi : fs[i]? = some fs[i] := Array.getElem?_eq_getElem hi
    have e : xs[i]? = some xs[i] := List.getElem?_eq_getElem (by omega)
    obtain ⟨avs, h2, h3, h4⟩ := ih fs[i].type _ _ (hfs _ (by simp)) ((hf i _ hfi).trans e) (Lightly.part hu hw hfi (by rw [List.getElem?_map, e]; rfl))
    refine ⟨avs, fun f hf' => ?_⟩
    rw [hfi] at hf'; cases hf'
    exact ⟨h2, h3, h4⟩
   obtain ⟨parts, hpl, hparts⟩ := list_of' fs.size key
   have hcells := cells_concat (P := P) (bare W nowhere) fs.toList 0 (P.cellsOf t) cs parts hcg hcl (by simpa using hpl) (fun i f p hfi hpi => (hparts i p hpi f (by simpa using hfi)).1)
   refine ⟨parts.flatten, by simpa using hcells, ?_, plainL_flatten fun p hp => ?_⟩
   ·unfold Ty; rw [hu]
    refine ⟨parts, rfl, hpl, fun i f hfi => ?_⟩
    have hi : i < parts.length := by rw [hpl]; exact (Array.getElem?_eq_some_iff.1 hfi).1
    exact ⟨parts[i], List.getElem?_eq_getElem hi, (hparts i _ (List.getElem?_eq_getElem hi) f hfi).2.1⟩
   ·obtain ⟨i, hi⟩ := List.mem_iff_getElem?.1 hp
    have hlt : i < fs.size := by rw [← hpl]; exact (List.getElem?_eq_some_iff.1 hi).1
    exact (hparts i p hi fs[i] (Array.getElem?_eq_getElem hlt)).2.2
  ·rename_i k e hu
   simp only [Bool.and_eq_true, decide_eq_true_eq, List.contains_iff_mem] at hok
   obtain ⟨he, hke⟩ := hok
   obtain ⟨xs, m, hm, rfl, hcl, hxl, hf⟩ := DataW.trod_array hu h
   obtain rfl : m = n := by omega
   have key : ∀ i, i < k -> ∃ avs : List AV, Cells (bare W nowhere) avs ((cs.drop (i * P.cellsOf e)).take (P.cellsOf e)) /\ Ty P m e avs /\ plainL avs = true := by
    intro i hi
    have e1 : xs[i]? = some xs[i] := List.getElem?_eq_getElem (by omega)
    exact ih e _ _ he ((hf i hi).trans e1) (Lightly.at_ hu hw (by rw [List.getElem?_map, e1]; rfl))
   obtain ⟨parts, hpl, hparts⟩ := list_of' k key
   have hall : ∀ p ∈ parts, Ty P m e p /\ plainL p = true := by
    intro p hp
    obtain ⟨i, hi⟩ := List.mem_iff_getElem?.1 hp
    exact (hparts i p hi).2
   refine ⟨parts.flatten, cells_rows _ (P.cellsOf e) parts cs (by rw [hcl, hpl, hke]) (fun i p hi => (hparts i p hi).1), ?_, plainL_flatten fun p hp => (hall p hp).2⟩
   unfold Ty; rw [hu]
   exact ⟨parts, rfl, hpl, fun p hp => (hall p hp).1⟩
  ·cases hok
end
end
section
open Go.RowKit Go.ChangeShapes Go.WideShapes Go.ChangeAt
def TyV (P : Program) (n : Nat) (t : TypeId) (av : AV) : Prop :=
 match P.underlying t with
 | some (.struct _) | some (.array _ _) => ∃ avs, av = .agg avs /\ Ty P n t avs
 | _ => Ty P n t [av]
theorem cells_agg {σ : Sg} {avs : List AV} {cs : Array Value} (h : Cells σ avs cs.toList) : Rel σ (.agg avs) (.agg cs) := by
 refine .agg avs cs (by simpa using h.1) (fun i av hi => (h.2 i av hi).1) (fun i => cs.toList[i]?.getD (.bool false)) (fun i av hi => ?_) (fun i av hi => ?_)
 ·obtain ⟨_, x, hx, _⟩ := h.2 i av hi
  rw [hx]; simpa using hx
 ·obtain ⟨_, x, hx, hr⟩ := h.2 i av hi
  rw [hx]; exact hr
theorem cells_one {σ : Sg} {av : AV} {v : Value} (h : Cells σ [av] v.cells.toList) (hv : ∀ cs, v ≠ .agg cs) : Rel σ av v := by
 obtain ⟨_, x, hx, hr⟩ := h.2 0 av rfl
 cases v with
 | agg cs => exact absurd rfl (hv cs)
 | _ => simp [Value.cells] at hx; subst hx; exact hr
section
variable {H : Type} {enc : TypeId × Value -> H} {P : Program} {W : World} {base b0 : Nat} {spare : Nat -> Bool} {held : Bool}
theorem open_argV {ts : List TypeId} (ok : okTypes P ts = true) {t : TypeId} (ht : t ∈ ts) {v : Value} {d : DataW H} {p : List MemPlace} (hval : Value.okWide P W .any b0 t v) (h : DataW.Trod enc P W base spare held t v d p) (hw : Lightly P t d) :
  ∃ n av, Rel (bare W nowhere) av v /\ TyV P n t av /\ plain av = true := by
 obtain ⟨m, hm⟩ := h
 obtain ⟨avs, hc, hty, hpl⟩ := open_cells ok m t _ _ ht hm hw
 cases m with
 | zero => simp [DataW.trod] at hm
 | succ m =>
  have hok := List.all_eq_true.1 ok t ht
  unfold okT at hok
  unfold TyV
  unfold Value.okWide at hval
  split at hok
  ·rename_i k hu
   rw [hu] at hval
   simp only [Cell.okWide, hu, Cell.ok] at hval
   have h2 := hty; unfold Ty at h2; rw [hu] at h2
   obtain ⟨x, rfl, _⟩ := h2
   refine ⟨m + 1, _, cells_one hc (fun cs he => by subst he; simp at hval), by rw [hu]; exact hty, rfl⟩
  ·rename_i hu
   rw [hu] at hval
   simp only [Cell.okWide, hu, Cell.ok] at hval
   have h2 := hty; unfold Ty at h2; rw [hu] at h2
   obtain ⟨x, rfl⟩ := h2
   refine ⟨m + 1, _, cells_one hc (fun cs he => by subst he; simp at hval), by rw [hu]; exact hty, rfl⟩
  ·rename_i hu
   rw [hu] at hval
   simp only [Cell.okWide, hu, Cell.ok] at hval
   have h2 := hty; unfold Ty at h2; rw [hu] at h2
   obtain ⟨x, rfl, _⟩ := h2
   refine ⟨m + 1, _, cells_one hc (fun cs he => by subst he; simp at hval), by rw [hu]; exact hty, rfl⟩
  ·rename_i e hu
   rw [hu] at hval
   simp only [Cell.okWide, hu, Cell.ok] at hval
   have h2 := hty; unfold Ty at h2; rw [hu] at h2
   obtain ⟨x, rfl, _⟩ := h2
   refine ⟨m + 1, _, cells_one hc (fun cs he => by subst he; simp at hval), by rw [hu]; exact hty, by simpa [plainL] using hpl⟩
  ·rename_i fs hu
   rw [hu] at hval
   obtain ⟨cs, rfl, _⟩ := hval
   exact ⟨m + 1, .agg avs, cells_agg hc, by rw [hu]; exact ⟨avs, rfl, hty⟩, hpl⟩
  ·rename_i k e hu
   rw [hu] at hval
   obtain ⟨cs, rfl, _⟩ := hval
   exact ⟨m + 1, .agg avs, cells_agg hc, by rw [hu]; exact ⟨avs, rfl, hty⟩, hpl⟩
  ·cases hok
end
def typesIn (P : Program) (t : TypeId) : List TypeId :=
 match P.underlying t with
 | some (.slice e) => [e]
 | some (.struct fs) => fs.toList.map (·.type)
 | some (.array _ e) => [e]
 | _ => []
def typesAdd : List TypeId -> List TypeId -> List TypeId
 | l, [] => l
 | l, t :: r => typesAdd (if l.contains t then l else l ++ [t]) r
def typesFrom (P : Program) : Nat -> List TypeId -> List TypeId
 | 0, l => l
 | n + 1, l => typesFrom P n (typesAdd l (l.flatMap (typesIn P)))
theorem rels_nil' (σ : Sg) : Rels σ [] [] := ⟨rfl, fun i av h => by simp at h⟩
theorem rels_cons' {σ : Sg} {a : AV} {v : Value} {l : List AV} {xs : List Value} (h : Rel σ a v) (hr : Rels σ l xs) : Rels σ (a :: l) (v :: xs) := by
 refine ⟨by simp [hr.1], fun i av hi => ?_⟩
 cases i with
 | zero => simp at hi; subst hi; exact ⟨v, rfl, h⟩
 | succ i => obtain ⟨x, h1, h2⟩ := hr.2 i av (by simpa using hi); exact ⟨x, by simpa using h1, h2⟩
theorem nz_true {av : AV} (h : nz av = .v (.bool true)) : av = .v (.bool true) := by
 cases av with
 | v x => simpa [nz, nzA, nz1] using h
 | _ => simp [nz, nzA, nz1] at h
end
def eI_i8 (x : Int) : List AV := [.v (.int .i8 x)]
theorem plm_I_i8 (l : List Int) : plainLL (l.map eI_i8) = true := plainLL_map _ _ fun x _ => rfl
def eI_i16 (x : Int) : List AV := [.v (.int .i16 x)]
theorem plm_I_i16 (l : List Int) : plainLL (l.map eI_i16) = true := plainLL_map _ _ fun x _ => rfl
def eI_i32 (x : Int) : List AV := [.v (.int .i32 x)]
theorem plm_I_i32 (l : List Int) : plainLL (l.map eI_i32) = true := plainLL_map _ _ fun x _ => rfl
def eI_i64 (x : Int) : List AV := [.v (.int .i64 x)]
theorem plm_I_i64 (l : List Int) : plainLL (l.map eI_i64) = true := plainLL_map _ _ fun x _ => rfl
def eI_u8 (x : Int) : List AV := [.v (.int .u8 x)]
theorem plm_I_u8 (l : List Int) : plainLL (l.map eI_u8) = true := plainLL_map _ _ fun x _ => rfl
def eI_u16 (x : Int) : List AV := [.v (.int .u16 x)]
theorem plm_I_u16 (l : List Int) : plainLL (l.map eI_u16) = true := plainLL_map _ _ fun x _ => rfl
def eI_u32 (x : Int) : List AV := [.v (.int .u32 x)]
theorem plm_I_u32 (l : List Int) : plainLL (l.map eI_u32) = true := plainLL_map _ _ fun x _ => rfl
def eI_u64 (x : Int) : List AV := [.v (.int .u64 x)]
theorem plm_I_u64 (l : List Int) : plainLL (l.map eI_u64) = true := plainLL_map _ _ fun x _ => rfl
def eBool (x : Bool) : List AV := [.v (.bool x)]
theorem plm_Bool (l : List Bool) : plainLL (l.map eBool) = true := plainLL_map _ _ fun x _ => rfl
def eStr (x : ByteArray) : List AV := [.v (.string x)]
theorem plm_Str (l : List ByteArray) : plainLL (l.map eStr) = true := plainLL_map _ _ fun x _ => rfl
structure GType_ where
 Kind : Int
 Name : ByteArray
def eGType_ (x : GType_) : List AV := [.v (.int .i64 x.Kind), .v (.string x.Name)]
theorem pl_GType_ (x : GType_) : plainL (eGType_ x) = true := by simp [eGType_, plainL, plain, plm_I_i8, plm_I_i16, plm_I_i32, plm_I_i64, plm_I_u8, plm_I_u16, plm_I_u32, plm_I_u64, plm_Bool, plm_Str, gfn_fi, gfn_cap, plm_Fn]
theorem plm_GType_ (l : List GType_) : plainLL (l.map eGType_) = true := plainLL_map _ _ fun x _ => pl_GType_ x
structure GRaw where
 Num : Int
 Wire : Int
 Bits : Int
 Data : ByteArray
def eGRaw (x : GRaw) : List AV := [.v (.int .i64 x.Num), .v (.int .i64 x.Wire), .v (.int .u64 x.Bits), .v (.string x.Data)]
theorem pl_GRaw (x : GRaw) : plainL (eGRaw x) = true := by simp [eGRaw, plainL, plain, plm_I_i8, plm_I_i16, plm_I_i32, plm_I_i64, plm_I_u8, plm_I_u16, plm_I_u32, plm_I_u64, plm_Bool, plm_Str, gfn_fi, gfn_cap, plm_Fn, pl_GType_, plm_GType_]
theorem plm_GRaw (l : List GRaw) : plainLL (l.map eGRaw) = true := plainLL_map _ _ fun x _ => pl_GRaw x
structure GValue where
 Kind : Int
 Bits : Int
 Text : ByteArray
 List_ : (List GValue)
 Pairs : (List (GValue × GValue))
 Slots : (List (Int × GValue))
 Raws : (List GRaw)
mutual
def eGValue' : GValue -> List AV
 | ⟨f0, f1, f2, f3, f4, f5, f6⟩ => [.v (.int .i64 f0), .v (.int .u64 f1), .v (.string f2), .sl (eGValue'L f3) .no, .sl (eGPair'L f4) .no, .sl (eGSlot'L f5) .no, .sl (List.map eGRaw f6) .no]
def eGValue'L : List GValue -> List (List AV)
 | [] => []
 | x :: l => (eGValue' x) :: eGValue'L l
def eGSlot'L : List (Int × GValue) -> List (List AV)
 | [] => []
 | (z0, z1) :: l => ([.v (.int .i64 z0)] ++ eGValue' z1) :: eGSlot'L l
def eGPair'L : List (GValue × GValue) -> List (List AV)
 | [] => []
 | (z0, z1) :: l => (eGValue' z0 ++ eGValue' z1) :: eGPair'L l
end
def eGSlot' (x : (Int × GValue)) : List AV := [.v (.int .i64 x.1)] ++ eGValue' x.2
def eGPair' (x : (GValue × GValue)) : List AV := eGValue' x.1 ++ eGValue' x.2
theorem eGValue'L_map : ∀ l, eGValue'L l = List.map eGValue' l
 | [] => rfl
 | x :: l => by simp only [eGValue'L, List.map_cons, eGValue'L_map l]
theorem eGSlot'L_map : ∀ l, eGSlot'L l = List.map eGSlot' l
 | [] => rfl
 | x :: l => by simp only [eGSlot'L, List.map_cons, eGSlot'L_map l, eGSlot']
theorem eGPair'L_map : ∀ l, eGPair'L l = List.map eGPair' l
 | [] => rfl
 | x :: l => by simp only [eGPair'L, List.map_cons, eGPair'L_map l, eGPair']
def eGValue (x : GValue) : List AV := [.v (.int .i64 x.Kind), .v (.int .u64 x.Bits), .v (.string x.Text), .sl (List.map eGValue' x.List_) .no, .sl (List.map eGPair' x.Pairs) .no, .sl (List.map eGSlot' x.Slots) .no, .sl (List.map eGRaw x.Raws) .no]
def eGSlot (x : (Int × GValue)) : List AV := [.v (.int .i64 x.1), .v (.int .i64 x.2.Kind), .v (.int .u64 x.2.Bits), .v (.string x.2.Text), .sl (List.map eGValue' x.2.List_) .no, .sl (List.map eGPair' x.2.Pairs) .no, .sl (List.map eGSlot' x.2.Slots) .no, .sl (List.map eGRaw x.2.Raws) .no]
def eGPair (x : (GValue × GValue)) : List AV := [.v (.int .i64 x.1.Kind), .v (.int .u64 x.1.Bits), .v (.string x.1.Text), .sl (List.map eGValue' x.1.List_) .no, .sl (List.map eGPair' x.1.Pairs) .no, .sl (List.map eGSlot' x.1.Slots) .no, .sl (List.map eGRaw x.1.Raws) .no, .v (.int .i64 x.2.Kind), .v (.int .u64 x.2.Bits), .v (.string x.2.Text), .sl (List.map eGValue' x.2.List_) .no, .sl (List.map eGPair' x.2.Pairs) .no, .sl (List.map eGSlot' x.2.Slots) .no, .sl (List.map eGRaw x.2.Raws) .no]
theorem eGValue'_eq (x : GValue) : eGValue' x = eGValue x := by cases x; simp only [eGValue', eGValue, eGValue'L_map, eGSlot'L_map, eGPair'L_map]
theorem eGSlot'_eq (x : (Int × GValue)) : eGSlot' x = eGSlot x := by simp only [eGSlot', eGSlot, eGValue'_eq, eGValue, List.cons_append, List.nil_append]
theorem eGPair'_eq (x : (GValue × GValue)) : eGPair' x = eGPair x := by simp only [eGPair', eGPair, eGValue'_eq, eGValue, List.cons_append, List.nil_append]
mutual
theorem pl_GValue' : ∀ x, plainL (eGValue' x) = true
 | ⟨f0, f1, f2, f3, f4, f5, f6⟩ => by simp [eGValue', plainL, plain, pl_eGValue'L f3, pl_eGPair'L f4, pl_eGSlot'L f5, plm_I_i8, plm_I_i16, plm_I_i32, plm_I_i64, plm_I_u8, plm_I_u16, plm_I_u32, plm_I_u64, plm_Bool, plm_Str, gfn_fi, gfn_cap, plm_Fn, pl_GType_, plm_GType_, pl_GRaw, plm_GRaw]
theorem pl_eGValue'L : ∀ l, plainLL (eGValue'L l) = true
 | [] => rfl
 | x :: l => by simp [eGValue'L, plainLL, plainL, plain, plainL_append, pl_GValue' x, pl_eGValue'L l]
theorem pl_eGSlot'L : ∀ l, plainLL (eGSlot'L l) = true
 | [] => rfl
 | (z0, z1) :: l => by simp [eGSlot'L, plainLL, plainL, plain, plainL_append, pl_GValue' z1, pl_eGSlot'L l]
theorem pl_eGPair'L : ∀ l, plainLL (eGPair'L l) = true
 | [] => rfl
 | (z0, z1) :: l => by simp [eGPair'L, plainLL, plainL, plain, plainL_append, pl_GValue' z0, pl_GValue' z1, pl_eGPair'L l]
end
theorem plm_GValue (l : List GValue) : plainLL (l.map eGValue') = true := by rw [← eGValue'L_map]; exact pl_eGValue'L l
theorem pl_GValue (x : GValue) : plainL (eGValue x) = true := by have := plm_GValue [x]; simpa [plainLL, eGValue'_eq] using this
theorem plm_GSlot (l : List (Int × GValue)) : plainLL (l.map eGSlot') = true := by rw [← eGSlot'L_map]; exact pl_eGSlot'L l
theorem pl_GSlot (x : (Int × GValue)) : plainL (eGSlot x) = true := by have := plm_GSlot [x]; simpa [plainLL, eGSlot'_eq] using this
theorem plm_GPair (l : List (GValue × GValue)) : plainLL (l.map eGPair') = true := by rw [← eGPair'L_map]; exact pl_eGPair'L l
theorem pl_GPair (x : (GValue × GValue)) : plainL (eGPair x) = true := by have := plm_GPair [x]; simpa [plainLL, eGPair'_eq] using this
structure GNote where
 Name : ByteArray
 Val : GValue
def eGNote (x : GNote) : List AV := [.v (.string x.Name), .v (.int .i64 x.Val.Kind), .v (.int .u64 x.Val.Bits), .v (.string x.Val.Text), .sl (List.map eGValue' x.Val.List_) .no, .sl (List.map eGPair' x.Val.Pairs) .no, .sl (List.map eGSlot' x.Val.Slots) .no, .sl (List.map eGRaw x.Val.Raws) .no]
theorem pl_GNote (x : GNote) : plainL (eGNote x) = true := by simp [eGNote, plainL, plain, plm_I_i8, plm_I_i16, plm_I_i32, plm_I_i64, plm_I_u8, plm_I_u16, plm_I_u32, plm_I_u64, plm_Bool, plm_Str, gfn_fi, gfn_cap, plm_Fn, pl_GType_, plm_GType_, pl_GRaw, plm_GRaw, pl_GValue, plm_GValue, pl_GSlot, plm_GSlot, pl_GPair, plm_GPair]
theorem plm_GNote (l : List GNote) : plainLL (l.map eGNote) = true := plainLL_map _ _ fun x _ => pl_GNote x
structure GField where
 Num : Int
 Name : ByteArray
 Card : Int
 Key : Int
 Type_ : GType_
 Union : ByteArray
 HasDefault : Bool
 Default : GValue
 Notes : (List GNote)
def eGField (x : GField) : List AV := [.v (.int .i64 x.Num), .v (.string x.Name), .v (.int .i64 x.Card), .v (.int .i64 x.Key), .v (.int .i64 x.Type_.Kind), .v (.string x.Type_.Name), .v (.string x.Union), .v (.bool x.HasDefault), .v (.int .i64 x.Default.Kind), .v (.int .u64 x.Default.Bits), .v (.string x.Default.Text), .sl (List.map eGValue' x.Default.List_) .no, .sl (List.map eGPair' x.Default.Pairs) .no, .sl (List.map eGSlot' x.Default.Slots) .no, .sl (List.map eGRaw x.Default.Raws) .no, .sl (List.map eGNote x.Notes) .no]
theorem pl_GField (x : GField) : plainL (eGField x) = true := by simp [eGField, plainL, plain, plm_I_i8, plm_I_i16, plm_I_i32, plm_I_i64, plm_I_u8, plm_I_u16, plm_I_u32, plm_I_u64, plm_Bool, plm_Str, gfn_fi, gfn_cap, plm_Fn, pl_GType_, plm_GType_, pl_GRaw, plm_GRaw, pl_GValue, plm_GValue, pl_GSlot, plm_GSlot, pl_GPair, plm_GPair, pl_GNote, plm_GNote]
theorem plm_GField (l : List GField) : plainLL (l.map eGField) = true := plainLL_map _ _ fun x _ => pl_GField x
structure GSpan where
 From : Int
 To : Int
def eGSpan (x : GSpan) : List AV := [.v (.int .i64 x.From), .v (.int .i64 x.To)]
theorem pl_GSpan (x : GSpan) : plainL (eGSpan x) = true := by simp [eGSpan, plainL, plain, plm_I_i8, plm_I_i16, plm_I_i32, plm_I_i64, plm_I_u8, plm_I_u16, plm_I_u32, plm_I_u64, plm_Bool, plm_Str, gfn_fi, gfn_cap, plm_Fn, pl_GType_, plm_GType_, pl_GRaw, plm_GRaw, pl_GValue, plm_GValue, pl_GSlot, plm_GSlot, pl_GPair, plm_GPair, pl_GNote, plm_GNote, pl_GField, plm_GField]
theorem plm_GSpan (l : List GSpan) : plainLL (l.map eGSpan) = true := plainLL_map _ _ fun x _ => pl_GSpan x
structure GMessage where
 Name : ByteArray
 Fields : (List GField)
 Reserved : (List GSpan)
 Gone : (List ByteArray)
 Notes : (List GNote)
def eGMessage (x : GMessage) : List AV := [.v (.string x.Name), .sl (List.map eGField x.Fields) .no, .sl (List.map eGSpan x.Reserved) .no, .sl (List.map eStr x.Gone) .no, .sl (List.map eGNote x.Notes) .no]
theorem pl_GMessage (x : GMessage) : plainL (eGMessage x) = true := by simp [eGMessage, plainL, plain, plm_I_i8, plm_I_i16, plm_I_i32, plm_I_i64, plm_I_u8, plm_I_u16, plm_I_u32, plm_I_u64, plm_Bool, plm_Str, gfn_fi, gfn_cap, plm_Fn, pl_GType_, plm_GType_, pl_GRaw, plm_GRaw, pl_GValue, plm_GValue, pl_GSlot, plm_GSlot, pl_GPair, plm_GPair, pl_GNote, plm_GNote, pl_GField, plm_GField, pl_GSpan, plm_GSpan]
theorem plm_GMessage (l : List GMessage) : plainLL (l.map eGMessage) = true := plainLL_map _ _ fun x _ => pl_GMessage x
structure GItem where
 Name : ByteArray
 Num : Int
 Notes : (List GNote)
def eGItem (x : GItem) : List AV := [.v (.string x.Name), .v (.int .i64 x.Num), .sl (List.map eGNote x.Notes) .no]
theorem pl_GItem (x : GItem) : plainL (eGItem x) = true := by simp [eGItem, plainL, plain, plm_I_i8, plm_I_i16, plm_I_i32, plm_I_i64, plm_I_u8, plm_I_u16, plm_I_u32, plm_I_u64, plm_Bool, plm_Str, gfn_fi, gfn_cap, plm_Fn, pl_GType_, plm_GType_, pl_GRaw, plm_GRaw, pl_GValue, plm_GValue, pl_GSlot, plm_GSlot, pl_GPair, plm_GPair, pl_GNote, plm_GNote, pl_GField, plm_GField, pl_GSpan, plm_GSpan, pl_GMessage, plm_GMessage]
theorem plm_GItem (l : List GItem) : plainLL (l.map eGItem) = true := plainLL_map _ _ fun x _ => pl_GItem x
structure GEnum where
 Name : ByteArray
 Open : Bool
 Items : (List GItem)
 Reserved : (List GSpan)
 Notes : (List GNote)
def eGEnum (x : GEnum) : List AV := [.v (.string x.Name), .v (.bool x.Open), .sl (List.map eGItem x.Items) .no, .sl (List.map eGSpan x.Reserved) .no, .sl (List.map eGNote x.Notes) .no]
theorem pl_GEnum (x : GEnum) : plainL (eGEnum x) = true := by simp [eGEnum, plainL, plain, plm_I_i8, plm_I_i16, plm_I_i32, plm_I_i64, plm_I_u8, plm_I_u16, plm_I_u32, plm_I_u64, plm_Bool, plm_Str, gfn_fi, gfn_cap, plm_Fn, pl_GType_, plm_GType_, pl_GRaw, plm_GRaw, pl_GValue, plm_GValue, pl_GSlot, plm_GSlot, pl_GPair, plm_GPair, pl_GNote, plm_GNote, pl_GField, plm_GField, pl_GSpan, plm_GSpan, pl_GMessage, plm_GMessage, pl_GItem, plm_GItem]
theorem plm_GEnum (l : List GEnum) : plainLL (l.map eGEnum) = true := plainLL_map _ _ fun x _ => pl_GEnum x
structure GMethod where
 Name : ByteArray
 In : ByteArray
 Out : ByteArray
 Shape : Int
 Notes : (List GNote)
def eGMethod (x : GMethod) : List AV := [.v (.string x.Name), .v (.string x.In), .v (.string x.Out), .v (.int .i64 x.Shape), .sl (List.map eGNote x.Notes) .no]
theorem pl_GMethod (x : GMethod) : plainL (eGMethod x) = true := by simp [eGMethod, plainL, plain, plm_I_i8, plm_I_i16, plm_I_i32, plm_I_i64, plm_I_u8, plm_I_u16, plm_I_u32, plm_I_u64, plm_Bool, plm_Str, gfn_fi, gfn_cap, plm_Fn, pl_GType_, plm_GType_, pl_GRaw, plm_GRaw, pl_GValue, plm_GValue, pl_GSlot, plm_GSlot, pl_GPair, plm_GPair, pl_GNote, plm_GNote, pl_GField, plm_GField, pl_GSpan, plm_GSpan, pl_GMessage, plm_GMessage, pl_GItem, plm_GItem, pl_GEnum, plm_GEnum]
theorem plm_GMethod (l : List GMethod) : plainLL (l.map eGMethod) = true := plainLL_map _ _ fun x _ => pl_GMethod x
structure GService where
 Name : ByteArray
 Methods : (List GMethod)
 Notes : (List GNote)
def eGService (x : GService) : List AV := [.v (.string x.Name), .sl (List.map eGMethod x.Methods) .no, .sl (List.map eGNote x.Notes) .no]
theorem pl_GService (x : GService) : plainL (eGService x) = true := by simp [eGService, plainL, plain, plm_I_i8, plm_I_i16, plm_I_i32, plm_I_i64, plm_I_u8, plm_I_u16, plm_I_u32, plm_I_u64, plm_Bool, plm_Str, gfn_fi, gfn_cap, plm_Fn, pl_GType_, plm_GType_, pl_GRaw, plm_GRaw, pl_GValue, plm_GValue, pl_GSlot, plm_GSlot, pl_GPair, plm_GPair, pl_GNote, plm_GNote, pl_GField, plm_GField, pl_GSpan, plm_GSpan, pl_GMessage, plm_GMessage, pl_GItem, plm_GItem, pl_GEnum, plm_GEnum, pl_GMethod, plm_GMethod]
theorem plm_GService (l : List GService) : plainLL (l.map eGService) = true := plainLL_map _ _ fun x _ => pl_GService x
structure GSchema where
 Messages : (List GMessage)
 Enums : (List GEnum)
 Services : (List GService)
def eGSchema (x : GSchema) : List AV := [.sl (List.map eGMessage x.Messages) .no, .sl (List.map eGEnum x.Enums) .no, .sl (List.map eGService x.Services) .no]
theorem pl_GSchema (x : GSchema) : plainL (eGSchema x) = true := by simp [eGSchema, plainL, plain, plm_I_i8, plm_I_i16, plm_I_i32, plm_I_i64, plm_I_u8, plm_I_u16, plm_I_u32, plm_I_u64, plm_Bool, plm_Str, gfn_fi, gfn_cap, plm_Fn, pl_GType_, plm_GType_, pl_GRaw, plm_GRaw, pl_GValue, plm_GValue, pl_GSlot, plm_GSlot, pl_GPair, plm_GPair, pl_GNote, plm_GNote, pl_GField, plm_GField, pl_GSpan, plm_GSpan, pl_GMessage, plm_GMessage, pl_GItem, plm_GItem, pl_GEnum, plm_GEnum, pl_GMethod, plm_GMethod, pl_GService, plm_GService]
theorem plm_GSchema (l : List GSchema) : plainLL (l.map eGSchema) = true := plainLL_map _ _ fun x _ => pl_GSchema x
structure GRoute where
 Verb : ByteArray
 Path : ByteArray
 Service : ByteArray
 Method : ByteArray
 Body : ByteArray
def eGRoute (x : GRoute) : List AV := [.v (.string x.Verb), .v (.string x.Path), .v (.string x.Service), .v (.string x.Method), .v (.string x.Body)]
theorem pl_GRoute (x : GRoute) : plainL (eGRoute x) = true := by simp [eGRoute, plainL, plain, plm_I_i8, plm_I_i16, plm_I_i32, plm_I_i64, plm_I_u8, plm_I_u16, plm_I_u32, plm_I_u64, plm_Bool, plm_Str, gfn_fi, gfn_cap, plm_Fn, pl_GType_, plm_GType_, pl_GRaw, plm_GRaw, pl_GValue, plm_GValue, pl_GSlot, plm_GSlot, pl_GPair, plm_GPair, pl_GNote, plm_GNote, pl_GField, plm_GField, pl_GSpan, plm_GSpan, pl_GMessage, plm_GMessage, pl_GItem, plm_GItem, pl_GEnum, plm_GEnum, pl_GMethod, plm_GMethod, pl_GService, plm_GService, pl_GSchema, plm_GSchema]
theorem plm_GRoute (l : List GRoute) : plainLL (l.map eGRoute) = true := plainLL_map _ _ fun x _ => pl_GRoute x
structure GMeta where
 Key : ByteArray
 Val : ByteArray
def eGMeta (x : GMeta) : List AV := [.v (.string x.Key), .v (.string x.Val)]
theorem pl_GMeta (x : GMeta) : plainL (eGMeta x) = true := by simp [eGMeta, plainL, plain, plm_I_i8, plm_I_i16, plm_I_i32, plm_I_i64, plm_I_u8, plm_I_u16, plm_I_u32, plm_I_u64, plm_Bool, plm_Str, gfn_fi, gfn_cap, plm_Fn, pl_GType_, plm_GType_, pl_GRaw, plm_GRaw, pl_GValue, plm_GValue, pl_GSlot, plm_GSlot, pl_GPair, plm_GPair, pl_GNote, plm_GNote, pl_GField, plm_GField, pl_GSpan, plm_GSpan, pl_GMessage, plm_GMessage, pl_GItem, plm_GItem, pl_GEnum, plm_GEnum, pl_GMethod, plm_GMethod, pl_GService, plm_GService, pl_GSchema, plm_GSchema, pl_GRoute, plm_GRoute]
theorem plm_GMeta (l : List GMeta) : plainLL (l.map eGMeta) = true := plainLL_map _ _ fun x _ => pl_GMeta x
structure GWeb where
 Verb : ByteArray
 Path : ByteArray
 Query : (List GMeta)
 Body : ByteArray
def eGWeb (x : GWeb) : List AV := [.v (.string x.Verb), .v (.string x.Path), .sl (List.map eGMeta x.Query) .no, .v (.string x.Body)]
theorem pl_GWeb (x : GWeb) : plainL (eGWeb x) = true := by simp [eGWeb, plainL, plain, plm_I_i8, plm_I_i16, plm_I_i32, plm_I_i64, plm_I_u8, plm_I_u16, plm_I_u32, plm_I_u64, plm_Bool, plm_Str, gfn_fi, gfn_cap, plm_Fn, pl_GType_, plm_GType_, pl_GRaw, plm_GRaw, pl_GValue, plm_GValue, pl_GSlot, plm_GSlot, pl_GPair, plm_GPair, pl_GNote, plm_GNote, pl_GField, plm_GField, pl_GSpan, plm_GSpan, pl_GMessage, plm_GMessage, pl_GItem, plm_GItem, pl_GEnum, plm_GEnum, pl_GMethod, plm_GMethod, pl_GService, plm_GService, pl_GSchema, plm_GSchema, pl_GRoute, plm_GRoute, pl_GMeta, plm_GMeta]
theorem lwm_Str (m : List Bool) (n : Nat) (l : List ByteArray) : lowLL m n (l.map eStr) = true := lowLL_plain _ _ _ (plm_Str l)
theorem lwm_GRoute (m : List Bool) (n : Nat) (l : List GRoute) : lowLL m n (l.map eGRoute) = true := lowLL_plain _ _ _ (plm_GRoute l)
theorem lwm_GMeta (m : List Bool) (n : Nat) (l : List GMeta) : lowLL m n (l.map eGMeta) = true := lowLL_plain _ _ _ (plm_GMeta l)
theorem rowE_GMeta : RowE eGMeta 2 := ⟨fun y => rfl, fun y => rfl, fun y => pl_GMeta y, fun y => rfl⟩
def nGMeta : En GMeta := ⟨eGMeta, eGMeta, 2, fun _ => rfl, fun _ => rfl, rowE_GMeta⟩
theorem rowE_GRoute : RowE eGRoute 5 := ⟨fun y => rfl, fun y => rfl, fun y => pl_GRoute y, fun y => rfl⟩
def nGRoute : En GRoute := ⟨eGRoute, eGRoute, 5, fun _ => rfl, fun _ => rfl, rowE_GRoute⟩
theorem rowE_I_u8 : RowE eI_u8 1 := ⟨fun y => rfl, fun y => rfl, fun y => rfl, fun y => rfl⟩
def nI_u8 : En Int := ⟨eI_u8, eI_u8, 1, fun _ => rfl, fun _ => rfl, rowE_I_u8⟩
theorem rowE_Str : RowE eStr 1 := ⟨fun y => rfl, fun y => rfl, fun y => rfl, fun y => rfl⟩
def nStr : En ByteArray := ⟨eStr, eStr, 1, fun _ => rfl, fun _ => rfl, rowE_Str⟩
def GLm (mg : Int) : List (Nat × List AV) := [(2, [.v (.int .i64 mg)]), (1, [.v (.string ⟨#[111, 107]⟩), .v (.string ⟨#[99, 97, 110, 99, 101, 108, 108, 101, 100]⟩), .v (.string ⟨#[105, 110, 118, 97, 108, 105, 100]⟩), .v (.string ⟨#[100, 101, 97, 100, 108, 105, 110, 101]⟩), .v (.string ⟨#[110, 111, 116, 95, 102, 111, 117, 110, 100]⟩), .v (.string ⟨#[101, 120, 105, 115, 116, 115]⟩), .v (.string ⟨#[100, 101, 110, 105, 101, 100]⟩), .v (.string ⟨#[101, 120, 104, 97, 117, 115, 116, 101, 100]⟩), .v (.string ⟨#[102, 97, 105, 108, 101, 100]⟩), .v (.string ⟨#[97, 98, 111, 114, 116, 101, 100]⟩), .v (.string ⟨#[117, 110, 105, 109, 112, 108, 101, 109, 101, 110, 116, 101, 100]⟩), .v (.string ⟨#[105, 110, 116, 101, 114, 110, 97, 108]⟩), .v (.string ⟨#[117, 110, 97, 118, 97, 105, 108, 97, 98, 108, 101]⟩), .v (.string ⟨#[100, 97, 116, 97, 95, 108, 111, 115, 115]⟩)])]
theorem pg {P : Program} {gl : List (Nat × List AV)} {f : FuncId} {a : List AV} {r : AV} (h : PureN P [] f a r) : PureN P gl f a r := ⟨h.1, fun w outer cargs ho _ hr => h.2 w outer cargs ho (fun g cells hg => by cases hg) hr⟩
theorem pgX {P : Program} {f : FuncId} {a : List AV} {α : Type} {e : α -> AV} {W : α -> Prop} (mg : Int) (h : ∃ y, PureN P [] f a (e y) /\ W y) : ∃ y, PureN P (GLm mg) f a (e y) /\ W y := h.imp fun _ h => ⟨pg h.1, h.2⟩
def e3 (r : Bool) : AV := .v (.bool r)
def e4 (r : Bool) : AV := .v (.bool r)
def law55_GatewayMatches (mg : Int) (l : (List GRoute)) (verb : ByteArray) (path : ByteArray) (r : Bool) : Prop := PureN Tryz.prog (GLm mg) 4 [.sl (List.map eGRoute l) .no, .v (.string verb), .v (.string path)] (e4 r)
def e5 (r : Bool) : AV := .v (.bool r)
def e6 (r : Bool) : AV := .v (.bool r)
def e7 (r : Bool) : AV := .v (.bool r)
def law55_awake (mg : Int)  (r : Bool) : Prop := PureN Tryz.prog (GLm mg) 7 [] (e7 r)
def e10 (r : Bool) : AV := .v (.bool r)
def ref55_Small (l : (List GRoute)) (r : Bool) : Prop := PureN Tryz.prog [] 10 [.sl (List.map eGRoute l) .no] (e10 r)
def e11 (r : (Int × (List GMeta) × Int)) : AV := .tuple [.v (.int .i64 r.1), .sl (List.map eGMeta r.2.1) .no, .v (.int .i64 r.2.2)]
def gateway_Match (mg : Int) (l : (List GRoute)) (verb : ByteArray) (path : ByteArray) (r : (Int × (List GMeta) × Int)) : Prop := PureN Tryz.prog (GLm mg) 11 [.sl (List.map eGRoute l) .no, .v (.string verb), .v (.string path)] (e11 r)
def e12 (r : (Int × (List GMeta) × Int)) : AV := .tuple [.v (.int .i64 r.1), .sl (List.map eGMeta r.2.1) .no, .v (.int .i64 r.2.2)]
def ref55_Match (l : (List GRoute)) (verb : ByteArray) (path : ByteArray) (r : (Int × (List GMeta) × Int)) : Prop := PureN Tryz.prog [] 12 [.sl (List.map eGRoute l) .no, .v (.string verb), .v (.string path)] (e12 r)
def e13 (r : Bool) : AV := .v (.bool r)
def ref55_SameWeb (a : GWeb) (b : GWeb) (r : Bool) : Prop := PureN Tryz.prog [] 13 [.agg (eGWeb a), .agg (eGWeb b)] (e13 r)
def e19 (r : (ByteArray × Int)) : AV := .tuple [.v (.string r.1), .v (.int .i64 r.2)]
def gateway_Unescape (x0 : ByteArray) (r : (ByteArray × Int)) : Prop := PureN Tryz.prog [] 19 [.v (.string x0)] (e19 r)
def e29 (r : ((List GMeta) × Bool)) : AV := .tuple [.sl (List.map eGMeta r.1) .no, .v (.bool r.2)]
def gateway_match (mg : Int) (r_ : GRoute) (verb : ByteArray) (path : ByteArray) (r : ((List GMeta) × Bool)) : Prop := PureN Tryz.prog (GLm mg) 29 [.agg (eGRoute r_), .v (.string verb), .v (.string path)] (e29 r)
def e30 (r : ((List GMeta) × Bool)) : AV := .tuple [.sl (List.map eGMeta r.1) .no, .v (.bool r.2)]
def ref55_matches (r_ : GRoute) (path : ByteArray) (r : ((List GMeta) × Bool)) : Prop := PureN Tryz.prog [] 30 [.agg (eGRoute r_), .v (.string path)] (e30 r)
def e50 (r : Bool) : AV := .v (.bool r)
def gateway_plain (c : Int) (r : Bool) : Prop := PureN Tryz.prog [] 50 [.v (.int .u8 c)] (e50 r)
def e52 (r : ((List ByteArray) × Bool)) : AV := .tuple [.sl (List.map eStr r.1) .no, .v (.bool r.2)]
def gateway_pattern (mg : Int) (path : ByteArray) (r : ((List ByteArray) × Bool)) : Prop := PureN Tryz.prog (GLm mg) 52 [.v (.string path)] (e52 r)
def e59 (r : Bool) : AV := .v (.bool r)
def gateway_literal (segment : ByteArray) (r : Bool) : Prop := PureN Tryz.prog [] 59 [.v (.string segment)] (e59 r)
def e60 (r : ((List ByteArray) × Bool)) : AV := .tuple [.sl (List.map eStr r.1) .no, .v (.bool r.2)]
def ref55_Pattern (path : ByteArray) (r : ((List ByteArray) × Bool)) : Prop := PureN Tryz.prog [] 60 [.v (.string path)] (e60 r)
def e65 (r : Bool) : AV := .v (.bool r)
def ref55_literal (s : ByteArray) (r : Bool) : Prop := PureN Tryz.prog [] 65 [.v (.string s)] (e65 r)
def e66 (r : ((List ByteArray) × Bool)) : AV := .tuple [.sl (List.map eStr r.1) .no, .v (.bool r.2)]
def gateway_segments (path : ByteArray) (r : ((List ByteArray) × Bool)) : Prop := PureN Tryz.prog [] 66 [.v (.string path)] (e66 r)
def e67 (r : (ByteArray × Bool)) : AV := .tuple [.v (.string r.1), .v (.bool r.2)]
def gateway_variable (mg : Int) (segment : ByteArray) (r : (ByteArray × Bool)) : Prop := PureN Tryz.prog (GLm mg) 67 [.v (.string segment)] (e67 r)
def e68 (r : ((List ByteArray) × Bool)) : AV := .tuple [.sl (List.map eStr r.1) .no, .v (.bool r.2)]
def ref55_segments (x0 : ByteArray) (r : ((List ByteArray) × Bool)) : Prop := PureN Tryz.prog [] 68 [.v (.string x0)] (e68 r)
def e69 (r : ByteArray) : AV := .v (.string r)
def ref55_variable (s : ByteArray) (r : ByteArray) : Prop := PureN Tryz.prog [] 69 [.v (.string s)] (e69 r)
def e70 (r : (ByteArray × Int)) : AV := .tuple [.v (.string r.1), .v (.int .i64 r.2)]
def ref55_Unescape (s : ByteArray) (r : (ByteArray × Int)) : Prop := PureN Tryz.prog [] 70 [.v (.string s)] (e70 r)
def e80 (r : Bool) : AV := .v (.bool r)
def ident_IsFull (mg : Int) (s : ByteArray) (r : Bool) : Prop := PureN Tryz.prog (GLm mg) 80 [.v (.string s)] (e80 r)
def e81 (r : Bool) : AV := .v (.bool r)
def ident_IsPart (s : ByteArray) (r : Bool) : Prop := PureN Tryz.prog [] 81 [.v (.string s)] (e81 r)
def e124 (r : Bool) : AV := .v (.bool r)
def ref06_IsFull (s : ByteArray) (r : Bool) : Prop := PureN Tryz.prog [] 124 [.v (.string s)] (e124 r)
def e125 (r : Bool) : AV := .v (.bool r)
def ref06_IsPart (s : ByteArray) (r : Bool) : Prop := PureN Tryz.prog [] 125 [.v (.string s)] (e125 r)
def e133 (r : Bool) : AV := .v (.bool r)
def ref55_plain (b : Int) (r : Bool) : Prop := PureN Tryz.prog [] 133 [.v (.int .u8 b)] (e133 r)
def e134 (r : Int) : AV := .v (.int .i64 r)
def ref55_digit (b : Int) (r : Int) : Prop := PureN Tryz.prog [] 134 [.v (.int .u8 b)] (e134 r)
def e135 (r : ByteArray) : AV := .v (.string r)
def ref55_Escape (s : ByteArray) (r : ByteArray) : Prop := PureN Tryz.prog [] 135 [.v (.string s)] (e135 r)
def e150 (r : (List ByteArray)) : AV := .sl (List.map eStr r) .no
def strings_Split (mg : Int) (x0 : ByteArray) (x1 : ByteArray) (r : (List ByteArray)) : Prop := PureN Tryz.prog (GLm mg) 150 [.v (.string x0), .v (.string x1)] (e150 r)
def e151 (r : Int) : AV := .v (.int .i64 r)
def ident_class (c : Int) (r : Int) : Prop := PureN Tryz.prog [] 151 [.v (.int .i32 c)] (e151 r)
def e201 (r : Bool) : AV := .v (.bool r)
def ref06_small (b : Int) (r : Bool) : Prop := PureN Tryz.prog [] 201 [.v (.int .u8 b)] (e201 r)
def e202 (r : Bool) : AV := .v (.bool r)
def ref06_capital (b : Int) (r : Bool) : Prop := PureN Tryz.prog [] 202 [.v (.int .u8 b)] (e202 r)
theorem pl7  : plainL [] = true := rfl
theorem pl10 {x0 : (List GRoute)} : plainL [.sl (List.map eGRoute x0) .no] = true := (pcons (psl (plm_GRoute x0)) rfl)
theorem pl11 {x0 : (List GRoute)} {x1 : ByteArray} {x2 : ByteArray} : plainL [.sl (List.map eGRoute x0) .no, .v (.string x1), .v (.string x2)] = true := (pcons (psl (plm_GRoute x0)) (pcons rfl (pcons rfl rfl)))
theorem pl12 {x0 : (List GRoute)} {x1 : ByteArray} {x2 : ByteArray} : plainL [.sl (List.map eGRoute x0) .no, .v (.string x1), .v (.string x2)] = true := (pcons (psl (plm_GRoute x0)) (pcons rfl (pcons rfl rfl)))
theorem pl13 {x0 : GWeb} {x1 : GWeb} : plainL [.agg (eGWeb x0), .agg (eGWeb x1)] = true := (pcons (pl_GWeb x0) (pcons (pl_GWeb x1) rfl))
theorem pl19 {x0 : ByteArray} : plainL [.v (.string x0)] = true := (pcons rfl rfl)
theorem pl29 {x0 : GRoute} {x1 : ByteArray} {x2 : ByteArray} : plainL [.agg (eGRoute x0), .v (.string x1), .v (.string x2)] = true := (pcons (pl_GRoute x0) (pcons rfl (pcons rfl rfl)))
theorem pl30 {x0 : GRoute} {x1 : ByteArray} : plainL [.agg (eGRoute x0), .v (.string x1)] = true := (pcons (pl_GRoute x0) (pcons rfl rfl))
theorem pl50 {x0 : Int} : plainL [.v (.int .u8 x0)] = true := (pcons rfl rfl)
theorem pl52 {x0 : ByteArray} : plainL [.v (.string x0)] = true := (pcons rfl rfl)
theorem pl59 {x0 : ByteArray} : plainL [.v (.string x0)] = true := (pcons rfl rfl)
theorem pl60 {x0 : ByteArray} : plainL [.v (.string x0)] = true := (pcons rfl rfl)
theorem pl65 {x0 : ByteArray} : plainL [.v (.string x0)] = true := (pcons rfl rfl)
theorem pl66 {x0 : ByteArray} : plainL [.v (.string x0)] = true := (pcons rfl rfl)
theorem pl67 {x0 : ByteArray} : plainL [.v (.string x0)] = true := (pcons rfl rfl)
theorem pl68 {x0 : ByteArray} : plainL [.v (.string x0)] = true := (pcons rfl rfl)
theorem pl69 {x0 : ByteArray} : plainL [.v (.string x0)] = true := (pcons rfl rfl)
theorem pl70 {x0 : ByteArray} : plainL [.v (.string x0)] = true := (pcons rfl rfl)
theorem pl80 {x0 : ByteArray} : plainL [.v (.string x0)] = true := (pcons rfl rfl)
theorem pl81 {x0 : ByteArray} : plainL [.v (.string x0)] = true := (pcons rfl rfl)
theorem pl124 {x0 : ByteArray} : plainL [.v (.string x0)] = true := (pcons rfl rfl)
theorem pl125 {x0 : ByteArray} : plainL [.v (.string x0)] = true := (pcons rfl rfl)
theorem pl133 {x0 : Int} : plainL [.v (.int .u8 x0)] = true := (pcons rfl rfl)
theorem pl134 {x0 : Int} : plainL [.v (.int .u8 x0)] = true := (pcons rfl rfl)
theorem pl135 {x0 : ByteArray} : plainL [.v (.string x0)] = true := (pcons rfl rfl)
theorem pl150 {x0 : ByteArray} {x1 : ByteArray} : plainL [.v (.string x0), .v (.string x1)] = true := (pcons rfl (pcons rfl rfl))
theorem pl151 {x0 : Int} : plainL [.v (.int .i32 x0)] = true := (pcons rfl rfl)
theorem pl201 {x0 : Int} : plainL [.v (.int .u8 x0)] = true := (pcons rfl rfl)
theorem pl202 {x0 : Int} : plainL [.v (.int .u8 x0)] = true := (pcons rfl rfl)
section
attribute [local irreducible] Ok run put putH br jn pos dr0 So
attribute [-simp] List.map_take List.map_drop List.map_append List.map_set List.map_replicate List.map_cons List.map_map
attribute [local simp] plain plainL lowE lowB keepB low lowL lowLL plm_I_i8 plm_I_i16 plm_I_i32 plm_I_i64 plm_I_u8 plm_I_u16 plm_I_u32 plm_I_u64 plm_Bool plm_Str gfn_fi gfn_cap plm_Fn pl_GType_ plm_GType_ pl_GRaw plm_GRaw pl_GValue plm_GValue pl_GSlot plm_GSlot pl_GPair plm_GPair pl_GNote plm_GNote pl_GField plm_GField pl_GSpan plm_GSpan pl_GMessage plm_GMessage pl_GItem plm_GItem pl_GEnum plm_GEnum pl_GMethod plm_GMethod pl_GService plm_GService pl_GSchema plm_GSchema pl_GRoute plm_GRoute pl_GMeta plm_GMeta pl_GWeb eI_i8 eI_i16 eI_i32 eI_i64 eI_u8 eI_u16 eI_u32 eI_u64 eBool eStr eFn lwm_Str lwm_GRoute lwm_GMeta
theorem plr4 (r : Bool) : plain (e4 r) = true := rfl
theorem law55_GatewayMatches_step (mg : Int) (l : (List GRoute)) (verb : ByteArray) (path : ByteArray) (r : Bool) (hw : ∃ y1, ref55_Small l y1 /\ (((((!y1) || (decide (300 < (verb.size : Int)))) || (decide (1000 < (path.size : Int)))) = true -> ∃ y2, law55_awake mg y2 /\ (r = y2)) /\ ((((!y1) || (decide (300 < (verb.size : Int)))) || (decide (1000 < (path.size : Int)))) = false -> ∃ y3, gateway_Match mg l verb path y3 /\ (∃ y4, ref55_Match l verb path y4 /\ ((((y3.1 == y4.1) && (y3.2.2 == y4.2.2)) = true -> ∃ y5, ref55_SameWeb (⟨(⟨#[]⟩ : ByteArray), (⟨#[]⟩ : ByteArray), y3.2.1, (⟨#[]⟩ : ByteArray)⟩ : GWeb) (⟨(⟨#[]⟩ : ByteArray), (⟨#[]⟩ : ByteArray), y4.2.1, (⟨#[]⟩ : ByteArray)⟩ : GWeb) y5 /\ ((y5 = true -> ∃ y6, law55_awake mg y6 /\ (r = y6)) /\ (y5 = false -> r = false))) /\ (((y3.1 == y4.1) && (y3.2.2 == y4.2.2)) = false -> r = false)))))) : law55_GatewayMatches mg l verb path r :=
 fP (KC 9 (pgX mg hw) pl10 fun _ hw=>KT 2 4<|KT 1 4<|KW 2 hw (fun _ hw=>KC 2 hw pl7 fun _ hw=>KR 5 hw plr4) fun _ hw=>KC 7 hw pl11 fun _ hw=>KC 14 (pgX mg hw) pl12 fun _ hw=>KT 15 4<|KW 1 hw (fun _ hw=>KC 4 (pgX mg hw) pl13 fun _ hw=>KW 2 hw (fun _ hw=>KC 0 hw pl7 fun _ hw=>KR 5 hw plr4) fun _ hw=>KR 6 hw plr4) fun _ hw=>KR 13 hw plr4)
theorem plr10 (r : Bool) : plain (e10 r) = true := rfl
def ref55_Small_j2 (ij1 : Int) (l : (List GRoute)) (r : Bool) : Prop := JP Tryz.prog 10 (e10 r) 6 [(3, aI ij1), (0, .sl (List.map eGRoute l) .no)]
theorem ref55_Small_j2_step (ij1 : Int) (l : (List GRoute)) (r : Bool) (hw : ((decide (ij1 < (l.length : Int))) = true -> ∃ y10, l[ij1.toNat]? = some y10 /\ 0 <= ij1 /\ (∃ R4 : Bool -> Prop, (∀ bz4 : Bool, R4 bz4 -> (∃ R5 : Bool -> Prop, (∀ bz5 : Bool, R5 bz5 -> (∃ R6 : Bool -> Prop, (∀ bz6 : Bool, R6 bz6 -> ((bz6 = true -> r = false) /\ (bz6 = false -> ∃ y18, l[ij1.toNat]? = some y18 /\ 0 <= ij1 /\ (((decide (300 < (y18.Body.size : Int))) = true -> r = false) /\ ((decide (300 < (y18.Body.size : Int))) = false -> ref55_Small_j2 (wI (ij1 + 1)) l r))))) /\ ((bz5 = true -> R6 true) /\ (bz5 = false -> ∃ y16, l[ij1.toNat]? = some y16 /\ 0 <= ij1 /\ (R6 (decide (300 < (y16.Method.size : Int)))))))) /\ ((bz4 = true -> R5 true) /\ (bz4 = false -> ∃ y14, l[ij1.toNat]? = some y14 /\ 0 <= ij1 /\ (R5 (decide (300 < (y14.Service.size : Int)))))))) /\ (((decide (300 < (y10.Verb.size : Int))) = true -> R4 true) /\ ((decide (300 < (y10.Verb.size : Int))) = false -> ∃ y12, l[ij1.toNat]? = some y12 /\ 0 <= ij1 /\ (R4 (decide (300 < (y12.Path.size : Int)))))))) /\ ((decide (ij1 < (l.length : Int))) = false -> r = true)) : ref55_Small_j2 ij1 l r :=
 KL 6 nGRoute l<|KW 3 hw (fun _ hw=>KI 8 nGRoute hw fun _ hw=>KQ 5 8 kB hw (fun _ hw=>KQ 1 8 kB hw (fun _ hw=>KQ 1 8 kB hw (fun _ hw=>KW 1 hw (fun _ hw=>KR 22 hw plr10) fun _ hw=>KI 2 nGRoute hw fun _ hw=>KW 7 hw (fun _ hw=>KR 11 hw plr10) fun _ hw=>KJ 9 [] hw) (fun _ key _ hw=>KE 8 key hw) fun _ key _ hw=>KI 2 nGRoute hw fun _ hw=>KE 5 key hw) (fun _ key _ hw=>KE 8 key hw) fun _ key _ hw=>KI 2 nGRoute hw fun _ hw=>KE 5 key hw) (fun _ key _ hw=>KE 8 key hw) fun _ key _ hw=>KI 2 nGRoute hw fun _ hw=>KE 5 key hw) fun _ hw=>KR 11 hw plr10
theorem ref55_Small_step (l : (List GRoute)) (r : Bool) (hw : ((decide (70 < (l.length : Int))) = true -> r = false) /\ ((decide (70 < (l.length : Int))) = false -> ref55_Small_j2 0 l r)) : ref55_Small l r :=
 fP (KL 9 nGRoute l<|KW 3 hw (fun _ hw=>KR 7 hw plr10) fun _ hw=>KJ 10 [] hw)
theorem plr11 (r : (Int × (List GMeta) × Int)) : plain (e11 r) = true := (ptup (pcons rfl (pcons (psl (plm_GMeta r.2.1)) (pcons rfl rfl))))
def gateway_Match_j2 (ij1 : Int) (l : (List GRoute)) (verb : ByteArray) (path : ByteArray) (mg : Int) (r : (Int × (List GMeta) × Int)) : Prop := J Tryz.prog 11 (.ret (e11 r)) 3 [(15, aI ij1), (14, aI (l.length : Int)), (13, .sl (List.map eGRoute l) .no), (1, aS verb), (2, aS path)] ⟨[], [], GLm mg⟩
theorem gateway_Match_j2_low {ij1 : Int} {l : (List GRoute)} {verb : ByteArray} {path : ByteArray} : lowE [] 0 [(15, aI ij1), (14, aI (l.length : Int)), (13, .sl (List.map eGRoute l) .no), (1, aS verb), (2, aS path)] = true /\ lowB [] 0 [] = true := ⟨by first | rfl | simp, by first | rfl | simp⟩
theorem gateway_Match_j2_step (ij1 : Int) (l : (List GRoute)) (verb : ByteArray) (path : ByteArray) (mg : Int) (r : (Int × (List GMeta) × Int)) (hw : ((decide (ij1 < (l.length : Int))) = true -> ∃ y3, l[ij1.toNat]? = some y3 /\ 0 <= ij1 /\ (∃ y4, gateway_match mg y3 verb path y4 /\ ((y4.2 = true -> r = (ij1, y4.1, 0)) /\ (y4.2 = false -> gateway_Match_j2 (wI (ij1 + 1)) l verb path mg r)))) /\ ((decide (ij1 < (l.length : Int))) = false -> r = (0, ([] : (List GMeta)), 10))) : gateway_Match_j2 ij1 l verb path mg r :=
 KW 7 hw (fun _ hw=>KI 7 nGRoute hw fun _ hw=>KC 11 hw pl29 fun _ hw=>KW 12 hw (fun _ hw=>KR 15 hw plr11) fun _ hw=>KJl 8 [] hw gateway_Match_j2_low) fun _ hw=>KR 13 hw plr11
theorem gateway_Match_step (mg : Int) (l : (List GRoute)) (verb : ByteArray) (path : ByteArray) (r : (Int × (List GMeta) × Int)) (hw : gateway_Match_j2 0 l verb path mg r) : gateway_Match mg l verb path r :=
 fP (KL 11 nGRoute l<|KJ 5 [] hw)
theorem plr12 (r : (Int × (List GMeta) × Int)) : plain (e12 r) = true := (ptup (pcons rfl (pcons (psl (plm_GMeta r.2.1)) (pcons rfl rfl))))
def ref55_Match_j2 (ij1 : Int) (l : (List GRoute)) (verb : ByteArray) (path : ByteArray) (r : (Int × (List GMeta) × Int)) : Prop := JP Tryz.prog 12 (e12 r) 3 [(9, aI ij1), (0, .sl (List.map eGRoute l) .no), (1, aS verb), (2, aS path)]
theorem ref55_Match_j2_step (ij1 : Int) (l : (List GRoute)) (verb : ByteArray) (path : ByteArray) (r : (Int × (List GMeta) × Int)) (hw : ((decide (ij1 < (l.length : Int))) = true -> ∃ y5, l[ij1.toNat]? = some y5 /\ 0 <= ij1 /\ (∃ y6, ref55_matches y5 path y6 /\ (∃ R2 : Bool -> Prop, (∀ bz2 : Bool, R2 bz2 -> ((bz2 = true -> r = (ij1, y6.1, 0)) /\ (bz2 = false -> ref55_Match_j2 (wI (ij1 + 1)) l verb path r))) /\ ((y6.2 = true -> ∃ y8, l[ij1.toNat]? = some y8 /\ 0 <= ij1 /\ (R2 (decide (y8.Verb = verb)))) /\ (y6.2 = false -> R2 false))))) /\ ((decide (ij1 < (l.length : Int))) = false -> r = (0, ([] : (List GMeta)), 10))) : ref55_Match_j2 ij1 l verb path r :=
 KL 6 nGRoute l<|KW 3 hw (fun _ hw=>KI 8 nGRoute hw fun _ hw=>KC 2 hw pl30 fun _ hw=>KQ 11 8 kB hw (fun _ hw=>KW 2 hw (fun _ hw=>KR 15 hw plr12) fun _ hw=>KJ 9 [] hw) (fun _ key _ hw=>KI 2 nGRoute hw fun _ hw=>KE 5 key hw) fun _ key _ hw=>KE 8 key hw) fun _ hw=>KR 13 hw plr12
theorem ref55_Match_step (l : (List GRoute)) (verb : ByteArray) (path : ByteArray) (r : (Int × (List GMeta) × Int)) (hw : ref55_Match_j2 0 l verb path r) : ref55_Match l verb path r :=
 fP (KJ 15 [] hw)
theorem plr13 (r : Bool) : plain (e13 r) = true := rfl
def ref55_SameWeb_j2 (ij1 : Int) (a : GWeb) (b : GWeb) (r : Bool) : Prop := J Tryz.prog 13 (.ret (e13 r)) 6 [(5, aI ij1), (3, .ptr 1 0), (2, .ptr 0 0)] ⟨[some (eGWeb a), some (eGWeb b)], [], []⟩
theorem ref55_SameWeb_j2_step (ij1 : Int) (a : GWeb) (b : GWeb) (r : Bool) (hw : ((decide (ij1 < (a.Query.length : Int))) = true -> ∃ y5, a.Query[ij1.toNat]? = some y5 /\ 0 <= ij1 /\ (∃ y6, b.Query[ij1.toNat]? = some y6 /\ 0 <= ij1 /\ (((!(decide (y5.Key = y6.Key))) = true -> r = false) /\ ((!(decide (y5.Key = y6.Key))) = false -> ∃ y7, a.Query[ij1.toNat]? = some y7 /\ 0 <= ij1 /\ (∃ y8, b.Query[ij1.toNat]? = some y8 /\ 0 <= ij1 /\ (((!(decide (y7.Val = y8.Val))) = true -> r = false) /\ ((!(decide (y7.Val = y8.Val))) = false -> ref55_SameWeb_j2 (wI (ij1 + 1)) a b r))))))) /\ ((decide (ij1 < (a.Query.length : Int))) = false -> r = true)) : ref55_SameWeb_j2 ij1 a b r :=
 KL 7 nGMeta a.Query<|KW 3 hw (fun _ hw=>KD 5 [0, 1]<|KI 3 nGMeta hw fun _ hw=>KI 5 nGMeta hw fun _ hw=>KW 4 hw (fun _ hw=>KR 29 hw plr13) fun _ hw=>KI 3 nGMeta hw fun _ hw=>KI 5 nGMeta hw fun _ hw=>KW 7 hw (fun _ hw=>KR 11 hw plr13) fun _ hw=>KJ 9 [] hw) fun _ hw=>KR 11 hw plr13
theorem ref55_SameWeb_step (a : GWeb) (b : GWeb) (r : Bool) (hw : (((((!(decide (a.Verb = b.Verb))) || (!(decide (a.Path = b.Path)))) || (!(decide (a.Body = b.Body)))) || ((a.Query.length : Int) != (b.Query.length : Int))) = true -> r = false) /\ (((((!(decide (a.Verb = b.Verb))) || (!(decide (a.Path = b.Path)))) || (!(decide (a.Body = b.Body)))) || ((a.Query.length : Int) != (b.Query.length : Int))) = false -> ref55_SameWeb_j2 0 a b r)) : ref55_SameWeb a b r :=
 fP (KT 16 6<|KT 1 6<|KT2 1 8 (((!(decide (a.Verb = b.Verb))) || (!(decide (a.Path = b.Path)))) || (!(decide (a.Body = b.Body)))) (fun z=>aB (z || ((a.Query.length : Int) != (b.Query.length : Int)))) (fun _ key=>KE2 8 key) (fun _ key=>KL 2 nGMeta a.Query<|KL 2 nGMeta b.Query<|KE2 2 key)<|KW 2 hw (fun _ hw=>KR 7 hw plr13) fun _ hw=>KJ 10 [] hw)
theorem plr29 (r : ((List GMeta) × Bool)) : plain (e29 r) = true := (ptup (pcons (psl (plm_GMeta r.1)) (pcons rfl rfl)))
def gateway_match_j2 (ij1 : Int) (y1 : ((List ByteArray) × Bool)) (lj2 : (List GMeta)) (y2 : ((List ByteArray) × Bool)) (mg : Int) (r : ((List GMeta) × Bool)) : Prop := J Tryz.prog 29 (.ret (e29 r)) 9 [(51, aI ij1), (50, aI (y1.1.length : Int)), (49, .sl (List.map eStr y1.1) .no), (12, .sl (List.map eGMeta lj2) (.own 0)), (10, .sl (List.map eStr y2.1) .no)] ⟨[], [(lj2.length, 2)], GLm mg⟩
theorem gateway_match_j2_low {ij1 : Int} {y1 : ((List ByteArray) × Bool)} {lj2 : (List GMeta)} {y2 : ((List ByteArray) × Bool)} : lowE [] 1 [(51, aI ij1), (50, aI (y1.1.length : Int)), (49, .sl (List.map eStr y1.1) .no), (12, .sl (List.map eGMeta lj2) (.own 0)), (10, .sl (List.map eStr y2.1) .no)] = true /\ lowB [] 1 [] = true := ⟨by first | rfl | simp, by first | rfl | simp⟩
theorem gateway_match_j2_step (ij1 : Int) (y1 : ((List ByteArray) × Bool)) (lj2 : (List GMeta)) (y2 : ((List ByteArray) × Bool)) (mg : Int) (r : ((List GMeta) × Bool)) (hw : ((decide (ij1 < (y1.1.length : Int))) = true -> ∃ y11, y1.1[ij1.toNat]? = some y11 /\ 0 <= ij1 /\ (∃ y12, gateway_variable mg y11 y12 /\ (∃ R3 : Bool -> Prop, (∀ bz3 : Bool, R3 bz3 -> ((bz3 = true -> r = (([] : (List GMeta)), false)) /\ (bz3 = false -> (y12.2 = true -> ∃ y15, y2.1[ij1.toNat]? = some y15 /\ 0 <= ij1 /\ (∃ y16, gateway_Unescape y15 y16 /\ (∃ R4 : Bool -> Prop, (∀ bz4 : Bool, R4 bz4 -> ((bz4 = true -> r = (([] : (List GMeta)), false)) /\ (bz4 = false -> (lj2.length + [(⟨y12.1, y16.1⟩ : GMeta)].length) * 32 <= 140737488355328 /\ (gateway_match_j2 (wI (ij1 + 1)) y1 (lj2 ++ [(⟨y12.1, y16.1⟩ : GMeta)]) y2 mg r)))) /\ (((y16.2 != 0) = true -> R4 true) /\ ((y16.2 != 0) = false -> ∃ y18, y2.1[ij1.toNat]? = some y18 /\ 0 <= ij1 /\ (R4 (decide (y18 = (⟨#[]⟩ : ByteArray))))))))) /\ (y12.2 = false -> gateway_match_j2 (wI (ij1 + 1)) y1 lj2 y2 mg r)))) /\ (((!y12.2) = true -> ∃ y14, y2.1[ij1.toNat]? = some y14 /\ 0 <= ij1 /\ (R3 (!(decide (y11 = y14))))) /\ ((!y12.2) = false -> R3 false))))) /\ ((decide (ij1 < (y1.1.length : Int))) = false -> r = (lj2, true))) : gateway_match_j2 ij1 y1 lj2 y2 mg r :=
 KW 7 hw (fun _ hw=>KI 7 nStr hw fun _ hw=>KC 8 hw pl67 fun _ hw=>KQ 13 7 kB hw (fun _ hw=>KW 2 hw (fun _ hw=>KR 13 hw plr29) fun _ hw=>KW 7 hw (fun _ hw=>KI 4 nStr hw fun _ hw=>KC 1 (pgX mg hw) pl19 fun _ hw=>KQ 13 6 kB hw (fun _ hw=>KW 2 hw (fun _ hw=>KR 13 hw plr29) fun _ hw=>KA 8 nGMeta hw mE fun hw=>KJ 9 [] hw) (fun _ key _ hw=>KE 6 key hw) fun _ key _ hw=>KI 2 nStr hw fun _ hw=>KE 3 key hw) fun _ hw=>KJ 8 [] hw) (fun _ key _ hw=>KI 3 nStr hw fun _ hw=>KE 3 key hw) fun _ key _ hw=>KE 7 key hw) fun _ hw=>KR 13 hw plr29
theorem gateway_match_step (mg : Int) (r_ : GRoute) (verb : ByteArray) (path : ByteArray) (r : ((List GMeta) × Bool)) (hw : ∃ y1, gateway_pattern mg r_.Path y1 /\ (∃ y2, gateway_segments path y2 /\ ((((((!y1.2) || (!y2.2)) || (!(decide (r_.Verb = verb)))) || ((y1.1.length : Int) != (y2.1.length : Int))) = true -> r = (([] : (List GMeta)), false)) /\ (((((!y1.2) || (!y2.2)) || (!(decide (r_.Verb = verb)))) || ((y1.1.length : Int) != (y2.1.length : Int))) = false -> gateway_match_j2 0 y1 ([] : List GMeta) y2 mg r)))) : gateway_match mg r_ verb path r :=
 fP (KC 11 hw pl52 fun y1 hw=>KC 10 (pgX mg hw) pl66 fun y2 hw=>KT 13 3<|KT 1 5<|KT2 1 6 (((!y1.2) || (!y2.2)) || (!(decide (r_.Verb = verb)))) (fun z=>aB (z || ((y1.1.length : Int) != (y2.1.length : Int)))) (fun _ key=>KE2 6 key) (fun _ key=>KL 1 nStr y1.1<|KL 1 nStr y2.1<|KE2 2 key)<|KW 2 hw (fun _ hw=>KR 8 hw plr29) fun _ hw=>KL 11 nStr y1.1<|KO 5 12 2<|KJl 0 [] hw gateway_match_j2_low)
theorem plr30 (r : ((List GMeta) × Bool)) : plain (e30 r) = true := (ptup (pcons (psl (plm_GMeta r.1)) (pcons rfl rfl)))
def ref55_matches_j2 (ij1 : Int) (lj2 : (List GMeta)) (y2 : ((List ByteArray) × Bool)) (y1 : ((List ByteArray) × Bool)) (r : ((List GMeta) × Bool)) : Prop := J Tryz.prog 30 (.ret (e30 r)) 9 [(11, aI ij1), (10, .sl (List.map eGMeta lj2) (.own 0)), (8, .sl (List.map eStr y2.1) .no), (6, .sl (List.map eStr y1.1) .no)] ⟨[], [(lj2.length, 2)], []⟩
theorem ref55_matches_j2_low {ij1 : Int} {lj2 : (List GMeta)} {y2 : ((List ByteArray) × Bool)} {y1 : ((List ByteArray) × Bool)} : lowE [] 1 [(11, aI ij1), (10, .sl (List.map eGMeta lj2) (.own 0)), (8, .sl (List.map eStr y2.1) .no), (6, .sl (List.map eStr y1.1) .no)] = true /\ lowB [] 1 [] = true := ⟨by first | rfl | simp, by first | rfl | simp⟩
theorem ref55_matches_j2_step (ij1 : Int) (lj2 : (List GMeta)) (y2 : ((List ByteArray) × Bool)) (y1 : ((List ByteArray) × Bool)) (r : ((List GMeta) × Bool)) (hw : ((decide (ij1 < (y1.1.length : Int))) = true -> ∃ y10, y1.1[ij1.toNat]? = some y10 /\ 0 <= ij1 /\ (∃ y11, ref55_variable y10 y11 /\ (((decide (y11 = (⟨#[]⟩ : ByteArray))) = true -> ∃ y12, y1.1[ij1.toNat]? = some y12 /\ 0 <= ij1 /\ (∃ y13, y2.1[ij1.toNat]? = some y13 /\ 0 <= ij1 /\ (((!(decide (y12 = y13))) = true -> r = (([] : (List GMeta)), false)) /\ ((!(decide (y12 = y13))) = false -> ref55_matches_j2 (wI (ij1 + 1)) lj2 y2 y1 r)))) /\ ((decide (y11 = (⟨#[]⟩ : ByteArray))) = false -> ∃ y14, y2.1[ij1.toNat]? = some y14 /\ 0 <= ij1 /\ (∃ y15, ref55_Unescape y14 y15 /\ (∃ y16, y2.1[ij1.toNat]? = some y16 /\ 0 <= ij1 /\ ((((decide (y16 = (⟨#[]⟩ : ByteArray))) || (y15.2 != 0)) = true -> r = (([] : (List GMeta)), false)) /\ (((decide (y16 = (⟨#[]⟩ : ByteArray))) || (y15.2 != 0)) = false -> (lj2.length + [(⟨y11, y15.1⟩ : GMeta)].length) * 32 <= 140737488355328 /\ (ref55_matches_j2 (wI (ij1 + 1)) (lj2 ++ [(⟨y11, y15.1⟩ : GMeta)]) y2 y1 r))))))))) /\ ((decide (ij1 < (y1.1.length : Int))) = false -> r = (lj2, true))) : ref55_matches_j2 ij1 lj2 y2 y1 r :=
 KL 6 nStr y1.1<|KW 3 hw (fun _ hw=>KI 8 nStr hw fun _ hw=>KC 1 hw pl69 fun _ hw=>KW 10 hw (fun _ hw=>KD 2 []<|KI 2 nStr hw fun _ hw=>KI 3 nStr hw fun _ hw=>KW 5 hw (fun _ hw=>KR 14 hw plr30) fun _ hw=>KJ 12 [] hw) fun _ hw=>KI 6 nStr hw fun _ hw=>KC 1 hw pl70 fun _ hw=>KI 12 nStr hw fun _ hw=>KT 3 3<|KW 2 hw (fun _ hw=>KR 13 hw plr30) fun _ hw=>KA 8 nGMeta hw mE fun hw=>KJ 10 [] hw) fun _ hw=>KR 13 hw plr30
theorem ref55_matches_step (r_ : GRoute) (path : ByteArray) (r : ((List GMeta) × Bool)) (hw : ∃ y1, ref55_Pattern r_.Path y1 /\ (∃ y2, ref55_segments path y2 /\ (((((!y1.2) || (!y2.2)) || ((y1.1.length : Int) != (y2.1.length : Int))) = true -> r = (([] : (List GMeta)), false)) /\ ((((!y1.2) || (!y2.2)) || ((y1.1.length : Int) != (y2.1.length : Int))) = false -> ref55_matches_j2 0 ([] : List GMeta) y2 y1 r)))) : ref55_matches r_ path r :=
 fP (KC 11 hw pl60 fun y1 hw=>KC 10 hw pl68 fun y2 hw=>KT 13 3<|KT2 1 6 ((!y1.2) || (!y2.2)) (fun z=>aB (z || ((y1.1.length : Int) != (y2.1.length : Int)))) (fun _ key=>KE2 6 key) (fun _ key=>KL 1 nStr y1.1<|KL 1 nStr y2.1<|KE2 2 key)<|KW 2 hw (fun _ hw=>KR 8 hw plr30) fun _ hw=>KO 15 10 2<|KJl 0 [] hw ref55_matches_j2_low)
theorem plr50 (r : Bool) : plain (e50 r) = true := rfl
theorem gateway_plain_step (c : Int) (r : Bool) (hw : r = (((((((decide (97 <= c)) && (decide (c <= 122))) || ((decide (65 <= c)) && (decide (c <= 90)))) || ((decide (48 <= c)) && (decide (c <= 57)))) || (c == 45)) || (c == 95)) || (c == 46))) : gateway_plain c r :=
 fP (KT 10 3<|KT2 1 7 ((decide (97 <= c)) && (decide (c <= 122))) (fun z=>aB (z || ((decide (65 <= c)) && (decide (c <= 90))))) (fun _ key=>KE2 7 key) (fun _ key=>KT 3 3<|KE2 1 key)<|KT2 1 7 (((decide (97 <= c)) && (decide (c <= 122))) || ((decide (65 <= c)) && (decide (c <= 90)))) (fun z=>aB (z || ((decide (48 <= c)) && (decide (c <= 57))))) (fun _ key=>KE2 7 key) (fun _ key=>KT 3 3<|KE2 1 key)<|KT 1 3<|KT 1 3<|KT 1 3<|KR 4 hw plr50)
theorem plr52 (r : ((List ByteArray) × Bool)) : plain (e52 r) = true := (ptup (pcons (psl (plm_Str r.1)) (pcons rfl rfl)))
def gateway_pattern_j2 (ij1 : Int) (y1 : ((List ByteArray) × Bool)) (mg : Int) (r : ((List ByteArray) × Bool)) : Prop := J Tryz.prog 52 (.ret (e52 r)) 7 [(24, aI ij1), (23, aI (y1.1.length : Int)), (22, .sl (List.map eStr y1.1) .no), (4, .sl (List.map eStr y1.1) .no)] ⟨[], [], GLm mg⟩
theorem gateway_pattern_j2_step (ij1 : Int) (y1 : ((List ByteArray) × Bool)) (mg : Int) (r : ((List ByteArray) × Bool)) (hw : ((decide (ij1 < (y1.1.length : Int))) = true -> ∃ y5, y1.1[ij1.toNat]? = some y5 /\ 0 <= ij1 /\ (∃ y6, gateway_variable mg y5 y6 /\ (((!y6.2) = true -> ∃ y7, gateway_literal y5 y7 /\ (((!y7) = true -> r = (([] : (List ByteArray)), false)) /\ ((!y7) = false -> gateway_pattern_j2 (wI (ij1 + 1)) y1 mg r))) /\ ((!y6.2) = false -> gateway_pattern_j2 (wI (ij1 + 1)) y1 mg r)))) /\ ((decide (ij1 < (y1.1.length : Int))) = false -> r = (y1.1, true))) : gateway_pattern_j2 ij1 y1 mg r :=
 KW 7 hw (fun _ hw=>KI 6 nStr hw fun _ hw=>KC 7 hw pl67 fun _ hw=>KW 12 hw (fun _ hw=>KC 1 (pgX mg hw) pl59 fun _ hw=>KW 4 hw (fun _ hw=>KR 12 hw plr52) fun _ hw=>KJ 8 [] hw) fun _ hw=>KJ 15 [] hw) fun _ hw=>KR 13 hw plr52
theorem gateway_pattern_step (mg : Int) (path : ByteArray) (r : ((List ByteArray) × Bool)) (hw : ∃ y1, gateway_segments path y1 /\ ((((!y1.2) || (decide (8 < (y1.1.length : Int)))) = true -> r = (([] : (List ByteArray)), false)) /\ (((!y1.2) || (decide (8 < (y1.1.length : Int)))) = false -> gateway_pattern_j2 0 y1 mg r))) : gateway_pattern mg path r :=
 fP (KC 9 (pgX mg hw) pl66 fun y1 hw=>KT2 13 4 (!y1.2) (fun z=>aB (z || (decide (8 < (y1.1.length : Int))))) (fun _ key=>KE2 4 key) (fun _ key=>KL 1 nStr y1.1<|KE2 2 key)<|KW 2 hw (fun _ hw=>KR 8 hw plr52) fun _ hw=>KL 6 nStr y1.1<|KJ 5 [] hw)
theorem plr59 (r : Bool) : plain (e59 r) = true := rfl
def gateway_literal_j2 (ij1 : Int) (segment : ByteArray) (r : Bool) : Prop := JP Tryz.prog 59 (e59 r) 3 [(6, aI ij1), (5, aI (segment.size : Int)), (0, aS segment)]
theorem gateway_literal_j2_step (ij1 : Int) (segment : ByteArray) (r : Bool) (hw : ((decide (ij1 < (segment.size : Int))) = true -> (0 <= ij1 /\ ij1 < (segment.size : Int)) /\ (∃ y2, gateway_plain (byteAt segment ij1.toNat) y2 /\ (((!y2) = true -> r = false) /\ ((!y2) = false -> (0 <= ij1 /\ ij1 < (segment.size : Int)) /\ (((decide (65 <= (byteAt segment ij1.toNat))) = true -> (0 <= ij1 /\ ij1 < (segment.size : Int)) /\ (((decide ((byteAt segment ij1.toNat) <= 90)) = true -> r = false) /\ ((decide ((byteAt segment ij1.toNat) <= 90)) = false -> gateway_literal_j2 (wI (ij1 + 1)) segment r))) /\ ((decide (65 <= (byteAt segment ij1.toNat))) = false -> gateway_literal_j2 (wI (ij1 + 1)) segment r)))))) /\ ((decide (ij1 < (segment.size : Int))) = false -> r = (!(decide (segment = (⟨#[]⟩ : ByteArray)))))) : gateway_literal_j2 ij1 segment r :=
 KW 7 hw (fun _ hw=>KIS 14 hw fun hw=>KC 0 hw pl50 fun _ hw=>KW 2 hw (fun _ hw=>KR 25 hw plr59) fun _ hw=>KIS 2 hw fun hw=>KW 2 hw (fun _ hw=>KIS 2 hw fun hw=>KW 5 hw (fun _ hw=>KR 11 hw plr59) fun _ hw=>KJ 8 [] hw) fun _ hw=>KJ 17 [] hw) fun _ hw=>KR 13 hw plr59
theorem gateway_literal_step (segment : ByteArray) (r : Bool) (hw : gateway_literal_j2 0 segment r) : gateway_literal segment r :=
 fP (KJ 15 [] hw)
theorem plr60 (r : ((List ByteArray) × Bool)) : plain (e60 r) = true := (ptup (pcons (psl (plm_Str r.1)) (pcons rfl rfl)))
def ref55_Pattern_j2 (ij1 : Int) (y1 : ((List ByteArray) × Bool)) (r : ((List ByteArray) × Bool)) : Prop := JP Tryz.prog 60 (e60 r) 7 [(6, aI ij1), (4, .sl (List.map eStr y1.1) .no)]
theorem ref55_Pattern_j2_step (ij1 : Int) (y1 : ((List ByteArray) × Bool)) (r : ((List ByteArray) × Bool)) (hw : ((decide (ij1 < (y1.1.length : Int))) = true -> ∃ y7, y1.1[ij1.toNat]? = some y7 /\ 0 <= ij1 /\ (∃ y8, ref55_literal y7 y8 /\ (∃ R2 : Bool -> Prop, (∀ bz2 : Bool, R2 bz2 -> ((bz2 = true -> r = (([] : (List ByteArray)), false)) /\ (bz2 = false -> ref55_Pattern_j2 (wI (ij1 + 1)) y1 r))) /\ (((!y8) = true -> ∃ y10, y1.1[ij1.toNat]? = some y10 /\ 0 <= ij1 /\ (∃ y11, ref55_variable y10 y11 /\ (R2 (decide (y11 = (⟨#[]⟩ : ByteArray)))))) /\ ((!y8) = false -> R2 false))))) /\ ((decide (ij1 < (y1.1.length : Int))) = false -> r = (y1.1, true))) : ref55_Pattern_j2 ij1 y1 r :=
 KL 6 nStr y1.1<|KW 3 hw (fun _ hw=>KI 8 nStr hw fun _ hw=>KC 1 hw pl65 fun _ hw=>KQ 2 7 kB hw (fun _ hw=>KW 2 hw (fun _ hw=>KR 12 hw plr60) fun _ hw=>KJ 9 [] hw) (fun _ key _ hw=>KI 2 nStr hw fun _ hw=>KC 1 hw pl69 fun _ hw=>KE 2 key hw) fun _ key _ hw=>KE 7 key hw) fun _ hw=>KR 13 hw plr60
theorem ref55_Pattern_step (path : ByteArray) (r : ((List ByteArray) × Bool)) (hw : ∃ y1, ref55_segments path y1 /\ ((((!y1.2) || (decide (8 < (y1.1.length : Int)))) = true -> r = (([] : (List ByteArray)), false)) /\ (((!y1.2) || (decide (8 < (y1.1.length : Int)))) = false -> ref55_Pattern_j2 0 y1 r))) : ref55_Pattern path r :=
 fP (KC 9 hw pl68 fun y1 hw=>KT2 13 4 (!y1.2) (fun z=>aB (z || (decide (8 < (y1.1.length : Int))))) (fun _ key=>KE2 4 key) (fun _ key=>KL 1 nStr y1.1<|KE2 2 key)<|KW 2 hw (fun _ hw=>KR 8 hw plr60) fun _ hw=>KJ 10 [] hw)
theorem plr65 (r : Bool) : plain (e65 r) = true := rfl
def ref55_literal_j2 (ij1 : Int) (s : ByteArray) (r : Bool) : Prop := JP Tryz.prog 65 (e65 r) 3 [(3, aI ij1), (0, aS s)]
theorem ref55_literal_j2_step (ij1 : Int) (s : ByteArray) (r : Bool) (hw : ((decide (ij1 < (s.size : Int))) = true -> (0 <= ij1 /\ ij1 < (s.size : Int)) /\ (∃ y2, ref55_plain (byteAt s ij1.toNat) y2 /\ (((!y2) = true -> r = false) /\ ((!y2) = false -> (0 <= ij1 /\ ij1 < (s.size : Int)) /\ (∃ R2 : Bool -> Prop, (∀ bz2 : Bool, R2 bz2 -> ((bz2 = true -> r = false) /\ (bz2 = false -> ref55_literal_j2 (wI (ij1 + 1)) s r))) /\ (((decide (65 <= (byteAt s ij1.toNat))) = true -> (0 <= ij1 /\ ij1 < (s.size : Int)) /\ (R2 (decide ((byteAt s ij1.toNat) <= 90)))) /\ ((decide (65 <= (byteAt s ij1.toNat))) = false -> R2 false))))))) /\ ((decide (ij1 < (s.size : Int))) = false -> r = (!(decide (s = (⟨#[]⟩ : ByteArray)))))) : ref55_literal_j2 ij1 s r :=
 KW 10 hw (fun _ hw=>KIS 8 hw fun hw=>KC 0 hw pl133 fun _ hw=>KW 2 hw (fun _ hw=>KR 25 hw plr65) fun _ hw=>KIS 2 hw fun hw=>KQ 2 5 kB hw (fun _ hw=>KW 3 hw (fun _ hw=>KR 11 hw plr65) fun _ hw=>KJ 9 [] hw) (fun _ key _ hw=>KIS 2 hw fun hw=>KE 2 key hw) fun _ key _ hw=>KE 5 key hw) fun _ hw=>KR 13 hw plr65
theorem ref55_literal_step (s : ByteArray) (r : Bool) (hw : ref55_literal_j2 0 s r) : ref55_literal s r :=
 fP (KJ 13 [] hw)
theorem plr66 (r : ((List ByteArray) × Bool)) : plain (e66 r) = true := (ptup (pcons (psl (plm_Str r.1)) (pcons rfl rfl)))
def gateway_segments_j2 (ij1 : Int) (ij2 : Int) (lj3 : (List ByteArray)) (path : ByteArray) (r : ((List ByteArray) × Bool)) : Prop := J Tryz.prog 66 (.ret (e66 r)) 9 [(7, aI ij1), (6, aI ij2), (5, .sl (List.map eStr lj3) (.own 0)), (4, .sl (List.map eI_u8 (bI path)) .no)] ⟨[], [(lj3.length, 1)], []⟩
theorem gateway_segments_j2_step (ij1 : Int) (ij2 : Int) (lj3 : (List ByteArray)) (path : ByteArray) (r : ((List ByteArray) × Bool)) (hw : ((decide (ij1 <= ((bI path).length : Int))) = true -> ∃ R3 : Bool -> Prop, (∀ bz3 : Bool, R3 bz3 -> ((bz3 = true -> (0 <= ij2 /\ ij2 <= ij1 /\ ij1 <= ((bI path).length : Int)) /\ (∃ y6, (((bI path).take ij1.toNat).drop ij2.toNat) = bI y6 /\ ((lj3.length + [y6].length) * 16 <= 140737488355328 /\ (gateway_segments_j2 (wI (ij1 + 1)) (wI (ij1 + 1)) (lj3 ++ [y6]) path r)))) /\ (bz3 = false -> gateway_segments_j2 (wI (ij1 + 1)) ij2 lj3 path r))) /\ (((ij1 == ((bI path).length : Int)) = true -> R3 true) /\ ((ij1 == ((bI path).length : Int)) = false -> ∃ y5, (bI path)[ij1.toNat]? = some y5 /\ 0 <= ij1 /\ (R3 (y5 == 47))))) /\ ((decide (ij1 <= ((bI path).length : Int))) = false -> r = (lj3, true))) : gateway_segments_j2 ij1 ij2 lj3 path r :=
 KL 6 nI_u8 (bI path)<|KW 3 hw (fun _ hw=>KL 8 nI_u8 (bI path)<|KQ 2 6 kB hw (fun _ hw=>KW 2 hw (fun _ hw=>KSF 7 nI_u8 hw fun hw=>KS 0 hw fun _ hw=>KA 1 nStr hw mE fun hw=>KJ 16 [] hw) fun _ hw=>KJ 9 [] hw) (fun _ key _ hw=>KE 6 key hw) fun _ key _ hw=>KI 2 nI_u8 hw fun _ hw=>KE 3 key hw) fun _ hw=>KR 13 hw plr66
theorem gateway_segments_step (path : ByteArray) (r : ((List ByteArray) × Bool)) (hw : ∃ R1 : Bool -> Prop, (∀ bz1 : Bool, R1 bz1 -> ((bz1 = true -> r = (([] : (List ByteArray)), false)) /\ (bz1 = false -> gateway_segments_j2 1 1 ([] : List ByteArray) path r))) /\ (((decide (path = (⟨#[]⟩ : ByteArray))) = true -> R1 true) /\ ((decide (path = (⟨#[]⟩ : ByteArray))) = false -> (0 <= (0 : Int) /\ (0 : Int) < (path.size : Int)) /\ (R1 ((byteAt path (0 : Int).toNat) != 47))))) : gateway_segments path r :=
 fP (KQ 12 4 kB hw (fun _ hw=>KW 2 hw (fun _ hw=>KR 8 hw plr66) fun _ hw=>KY 5<|KO 21 5 1<|KJ 0 [] hw) (fun _ key _ hw=>KE 4 key hw) fun _ key _ hw=>KIS 1 hw fun hw=>KE 2 key hw)
theorem plr67 (r : (ByteArray × Bool)) : plain (e67 r) = true := (ptup (pcons rfl (pcons rfl rfl)))
theorem gateway_variable_step (mg : Int) (segment : ByteArray) (r : (ByteArray × Bool)) (hw : ∃ R1 : Bool -> Prop, (∀ bz1 : Bool, R1 bz1 -> (∃ R2 : Bool -> Prop, (∀ bz2 : Bool, R2 bz2 -> (∃ R3 : Bool -> Prop, (∀ bz3 : Bool, R3 bz3 -> ((bz3 = true -> r = ((⟨#[]⟩ : ByteArray), false)) /\ (bz3 = false -> (0 <= (1 : Int) /\ (1 : Int) <= (wI ((segment.size : Int) - 1)) /\ (wI ((segment.size : Int) - 1)) <= (segment.size : Int)) /\ (r = ((segment.extract (1 : Int).toNat (wI ((segment.size : Int) - 1)).toNat), true))))) /\ ((bz2 = true -> R3 true) /\ (bz2 = false -> (0 <= (1 : Int) /\ (1 : Int) <= (wI ((segment.size : Int) - 1)) /\ (wI ((segment.size : Int) - 1)) <= (segment.size : Int)) /\ (∃ y1, ident_IsFull mg (segment.extract (1 : Int).toNat (wI ((segment.size : Int) - 1)).toNat) y1 /\ (R3 (!y1))))))) /\ ((bz1 = true -> R2 true) /\ (bz1 = false -> (0 <= (wI ((segment.size : Int) - 1)) /\ (wI ((segment.size : Int) - 1)) < (segment.size : Int)) /\ (R2 ((byteAt segment (wI ((segment.size : Int) - 1)).toNat) != 125)))))) /\ (((decide ((segment.size : Int) < 2)) = true -> R1 true) /\ ((decide ((segment.size : Int) < 2)) = false -> (0 <= (0 : Int) /\ (0 : Int) < (segment.size : Int)) /\ (R1 ((byteAt segment (0 : Int).toNat) != 123))))) : gateway_variable mg segment r :=
 fP (KQ 19 4 kB hw (fun _ hw=>KQ 1 6 kB hw (fun _ hw=>KQ 1 7 kB hw (fun _ hw=>KW 2 hw (fun _ hw=>KR 8 hw plr67) fun _ hw=>KSS 7 hw fun hw=>KR 5 hw plr67) (fun _ key _ hw=>KE 7 key hw) fun _ key _ hw=>KSS 3 hw fun hw=>KC 0 hw pl80 fun _ hw=>KE 2 key hw) (fun _ key _ hw=>KE 6 key hw) fun _ key _ hw=>KIS 3 hw fun hw=>KE 2 key hw) (fun _ key _ hw=>KE 4 key hw) fun _ key _ hw=>KIS 1 hw fun hw=>KE 2 key hw)
theorem plr69 (r : ByteArray) : plain (e69 r) = true := rfl
theorem ref55_variable_step (s : ByteArray) (r : ByteArray) (hw : ∃ R1 : Bool -> Prop, (∀ bz1 : Bool, R1 bz1 -> (∃ R2 : Bool -> Prop, (∀ bz2 : Bool, R2 bz2 -> (∃ R3 : Bool -> Prop, (∀ bz3 : Bool, R3 bz3 -> ((bz3 = true -> r = (⟨#[]⟩ : ByteArray)) /\ (bz3 = false -> (0 <= (1 : Int) /\ (1 : Int) <= (wI ((s.size : Int) - 1)) /\ (wI ((s.size : Int) - 1)) <= (s.size : Int)) /\ (r = (s.extract (1 : Int).toNat (wI ((s.size : Int) - 1)).toNat))))) /\ ((bz2 = true -> R3 true) /\ (bz2 = false -> (0 <= (1 : Int) /\ (1 : Int) <= (wI ((s.size : Int) - 1)) /\ (wI ((s.size : Int) - 1)) <= (s.size : Int)) /\ (∃ y1, ref06_IsFull (s.extract (1 : Int).toNat (wI ((s.size : Int) - 1)).toNat) y1 /\ (R3 (!y1))))))) /\ ((bz1 = true -> R2 true) /\ (bz1 = false -> (0 <= (wI ((s.size : Int) - 1)) /\ (wI ((s.size : Int) - 1)) < (s.size : Int)) /\ (R2 ((byteAt s (wI ((s.size : Int) - 1)).toNat) != 125)))))) /\ (((decide ((s.size : Int) < 3)) = true -> R1 true) /\ ((decide ((s.size : Int) < 3)) = false -> (0 <= (0 : Int) /\ (0 : Int) < (s.size : Int)) /\ (R1 ((byteAt s (0 : Int).toNat) != 123))))) : ref55_variable s r :=
 fP (KQ 12 4 kB hw (fun _ hw=>KQ 1 7 kB hw (fun _ hw=>KQ 1 8 kB hw (fun _ hw=>KW 2 hw (fun _ hw=>KR 7 hw plr69) fun _ hw=>KSS 8 hw fun hw=>KR 4 hw plr69) (fun _ key _ hw=>KE 8 key hw) fun _ key _ hw=>KSS 4 hw fun hw=>KC 0 hw pl124 fun _ hw=>KE 2 key hw) (fun _ key _ hw=>KE 7 key hw) fun _ key _ hw=>KIS 4 hw fun hw=>KE 2 key hw) (fun _ key _ hw=>KE 4 key hw) fun _ key _ hw=>KIS 1 hw fun hw=>KE 2 key hw)
theorem plr70 (r : (ByteArray × Int)) : plain (e70 r) = true := (ptup (pcons rfl (pcons rfl rfl)))
def ref55_Unescape_j2 (ij1 : Int) (sj2 : ByteArray) (s : ByteArray) (r : (ByteArray × Int)) : Prop := JP Tryz.prog 70 (e70 r) 4 [(5, aI ij1), (4, aS sj2), (0, aS s)]
theorem ref55_Unescape_j2_step (ij1 : Int) (sj2 : ByteArray) (s : ByteArray) (r : (ByteArray × Int)) (hw : ((decide (ij1 < (s.size : Int))) = true -> (0 <= ij1 /\ ij1 < (s.size : Int)) /\ ((((byteAt s ij1.toNat) != 37) = true -> (0 <= ij1 /\ ij1 <= (wI (ij1 + 1)) /\ (wI (ij1 + 1)) <= (s.size : Int)) /\ (((sj2.size + (s.extract ij1.toNat (wI (ij1 + 1)).toNat).size : Nat) : Int) <= 9223372036854775807 /\ (ref55_Unescape_j2 (wI (ij1 + 1)) (sj2 ++ (s.extract ij1.toNat (wI (ij1 + 1)).toNat)) s r))) /\ (((byteAt s ij1.toNat) != 37) = false -> ∃ R3 : Bool -> Prop, (∀ bz3 : Bool, R3 bz3 -> (∃ R4 : Bool -> Prop, (∀ bz4 : Bool, R4 bz4 -> ((bz4 = true -> r = ((⟨#[]⟩ : ByteArray), 2)) /\ (bz4 = false -> (0 <= (wI (ij1 + 1)) /\ (wI (ij1 + 1)) < (s.size : Int)) /\ (∃ y10, ref55_digit (byteAt s (wI (ij1 + 1)).toNat) y10 /\ ((0 <= (wI (ij1 + 2)) /\ (wI (ij1 + 2)) < (s.size : Int)) /\ (∃ y11, ref55_digit (byteAt s (wI (ij1 + 2)).toNat) y11 /\ (∃ y12, ([(IntKind.u8.wrap (wI ((wI (16 * y10)) + y11)))] : List Int) = bI y12 /\ (((sj2.size + y12.size : Nat) : Int) <= 9223372036854775807 /\ (ref55_Unescape_j2 (wI (ij1 + 3)) (sj2 ++ y12) s r))))))))) /\ ((bz3 = true -> R4 true) /\ (bz3 = false -> (0 <= (wI (ij1 + 2)) /\ (wI (ij1 + 2)) < (s.size : Int)) /\ (∃ y9, ref55_digit (byteAt s (wI (ij1 + 2)).toNat) y9 /\ (R4 (decide (y9 < 0)))))))) /\ (((decide ((s.size : Int) <= (wI (ij1 + 2)))) = true -> R3 true) /\ ((decide ((s.size : Int) <= (wI (ij1 + 2)))) = false -> (0 <= (wI (ij1 + 1)) /\ (wI (ij1 + 1)) < (s.size : Int)) /\ (∃ y8, ref55_digit (byteAt s (wI (ij1 + 1)).toNat) y8 /\ (R3 (decide (y8 < 0))))))))) /\ ((decide (ij1 < (s.size : Int))) = false -> ∃ y7, ref55_Escape sj2 y7 /\ (((!(decide (y7 = s))) = true -> r = ((⟨#[]⟩ : ByteArray), 2)) /\ ((!(decide (y7 = s))) = false -> r = (sj2, 0))))) : ref55_Unescape_j2 ij1 sj2 s r :=
 KW 10 hw (fun _ hw=>KIS 8 hw fun hw=>KW 3 hw (fun _ hw=>KSS 7 hw fun hw=>KCat 0 hw fun hw=>KJ 14 [] hw) fun _ hw=>KQ 11 7 kB hw (fun _ hw=>KQ 1 7 kB hw (fun _ hw=>KW 2 hw (fun _ hw=>KR 12 hw plr70) fun _ hw=>KD 3 []<|KIS 4 hw fun hw=>KC 0 hw pl134 fun _ hw=>KIS 4 hw fun hw=>KC 0 hw pl134 fun _ hw=>KS 3 hw fun _ hw=>KCat 1 hw fun hw=>KJ 10 [] hw) (fun _ key _ hw=>KE 7 key hw) fun _ key _ hw=>KIS 3 hw fun hw=>KC 0 hw pl134 fun _ hw=>KE 2 key hw) (fun _ key _ hw=>KE 7 key hw) fun _ key _ hw=>KIS 3 hw fun hw=>KC 0 hw pl134 fun _ hw=>KE 2 key hw) fun _ hw=>KC 9 hw pl135 fun _ hw=>KW 4 hw (fun _ hw=>KR 8 hw plr70) fun _ hw=>KR 10 hw plr70
theorem ref55_Unescape_step (s : ByteArray) (r : (ByteArray × Int)) (hw : ref55_Unescape_j2 0 (⟨#[]⟩ : ByteArray) s r) : ref55_Unescape s r :=
 fP (KJ 19 [] hw)
theorem plr80 (r : Bool) : plain (e80 r) = true := rfl
def ident_IsFull_j2 (ij1 : Int) (y1 : (List ByteArray)) (s : ByteArray) (mg : Int) (r : Bool) : Prop := J Tryz.prog 80 (.ret (e80 r)) 3 [(8, aI ij1), (7, aI (y1.length : Int)), (6, .sl (List.map eStr y1) .no), (0, aS s)] ⟨[], [], GLm mg⟩
theorem ident_IsFull_j2_step (ij1 : Int) (y1 : (List ByteArray)) (s : ByteArray) (mg : Int) (r : Bool) (hw : ((decide (ij1 < (y1.length : Int))) = true -> ∃ y4, y1[ij1.toNat]? = some y4 /\ 0 <= ij1 /\ (∃ y5, ident_IsPart y4 y5 /\ (((!y5) = true -> r = false) /\ ((!y5) = false -> ident_IsFull_j2 (wI (ij1 + 1)) y1 s mg r)))) /\ ((decide (ij1 < (y1.length : Int))) = false -> r = (decide ((s.size : Int) <= 120)))) : ident_IsFull_j2 ij1 y1 s mg r :=
 KW 7 hw (fun _ hw=>KI 6 nStr hw fun _ hw=>KC 7 (pgX mg hw) pl81 fun _ hw=>KW 3 hw (fun _ hw=>KR 11 hw plr80) fun _ hw=>KJ 8 [] hw) fun _ hw=>KR 14 hw plr80
theorem ident_IsFull_step (mg : Int) (s : ByteArray) (r : Bool) (hw : ∃ y1, strings_Split mg s (⟨#[46]⟩ : ByteArray) y1 /\ (ident_IsFull_j2 0 y1 s mg r)) : ident_IsFull mg s r :=
 fP (KC 9 hw pl150 fun y1 hw=>KL 0 nStr y1<|KJ 5 [] hw)
theorem plr81 (r : Bool) : plain (e81 r) = true := rfl
def ident_IsPart_j2 (s : ByteArray) (nj1 : Nat) (r : Bool) : Prop := J Tryz.prog 81 (.ret (e81 r)) 3 [(7, .ptr 0 0), (0, aS s)] ⟨[some [.it s nj1]], [], []⟩
theorem ident_IsPart_j2_step (s : ByteArray) (nj1 : Nat) (r : Bool) (hw : (nj1 < s.size -> ∃ y2, ident_class (Utf8.decode s nj1).1 y2 /\ ((((y2 == 0) || (((((nj1 : Nat) : Int) == 0) && (y2 != 1)) && (y2 != 2))) = true -> r = false) /\ (((y2 == 0) || (((((nj1 : Nat) : Int) == 0) && (y2 != 1)) && (y2 != 2))) = false -> ident_IsPart_j2 s (nj1 + (Utf8.decode s nj1).2) r))) /\ (¬ nj1 < s.size -> r = ((decide (1 <= (s.size : Int))) && (decide ((s.size : Int) <= 40))))) : ident_IsPart_j2 s nj1 r :=
 KX 3 hw (fun _ hw=>KC 19 hw pl151 fun y2 hw=>KT2 8 11 (y2 == 0) (fun z=>aB (z || (((((nj1 : Nat) : Int) == 0) && (y2 != 1)) && (y2 != 2)))) (fun _ key=>KE2 11 key) (fun _ key=>KT 3 3<|KT 1 3<|KE2 1 key)<|KW 2 hw (fun _ hw=>KR 10 hw plr81) fun _ hw=>KJ 3 [] hw) fun _ hw=>KT 16 4<|KR 4 hw plr81
theorem ident_IsPart_step (s : ByteArray) (r : Bool) (hw : ident_IsPart_j2 s 0 r) : ident_IsPart s r :=
 fP (KJ 14 [] hw)
end
section
attribute [local irreducible] Ok run put putH br jn pos dr0 So
attribute [-simp] List.map_take List.map_drop List.map_append List.map_set List.map_replicate List.map_cons List.map_map
attribute [local simp] plain plainL lowE lowB keepB low lowL lowLL plm_I_i8 plm_I_i16 plm_I_i32 plm_I_i64 plm_I_u8 plm_I_u16 plm_I_u32 plm_I_u64 plm_Bool plm_Str gfn_fi gfn_cap plm_Fn pl_GType_ plm_GType_ pl_GRaw plm_GRaw pl_GValue plm_GValue pl_GSlot plm_GSlot pl_GPair plm_GPair pl_GNote plm_GNote pl_GField plm_GField pl_GSpan plm_GSpan pl_GMessage plm_GMessage pl_GItem plm_GItem pl_GEnum plm_GEnum pl_GMethod plm_GMethod pl_GService plm_GService pl_GSchema plm_GSchema pl_GRoute plm_GRoute pl_GMeta plm_GMeta pl_GWeb eI_i8 eI_i16 eI_i32 eI_i64 eI_u8 eI_u16 eI_u32 eI_u64 eBool eStr eFn lwm_Str lwm_GRoute lwm_GMeta
theorem plr124 (r : Bool) : plain (e124 r) = true := rfl
def ref06_IsFull_j2 (ij1 : Int) (sj2 : ByteArray) (s : ByteArray) (r : Bool) : Prop := JP Tryz.prog 124 (e124 r) 7 [(4, aI ij1), (3, aS sj2), (0, aS s)]
theorem ref06_IsFull_j2_step (ij1 : Int) (sj2 : ByteArray) (s : ByteArray) (r : Bool) (hw : ((decide (ij1 < (s.size : Int))) = true -> (0 <= ij1 /\ ij1 < (s.size : Int)) /\ ((((byteAt s ij1.toNat) != 46) = true -> (0 <= ij1 /\ ij1 <= (wI (ij1 + 1)) /\ (wI (ij1 + 1)) <= (s.size : Int)) /\ (((sj2.size + (s.extract ij1.toNat (wI (ij1 + 1)).toNat).size : Nat) : Int) <= 9223372036854775807 /\ (ref06_IsFull_j2 (wI (ij1 + 1)) (sj2 ++ (s.extract ij1.toNat (wI (ij1 + 1)).toNat)) s r))) /\ (((byteAt s ij1.toNat) != 46) = false -> ∃ y4, ref06_IsPart sj2 y4 /\ (((!y4) = true -> r = false) /\ ((!y4) = false -> ref06_IsFull_j2 (wI (ij1 + 1)) (⟨#[]⟩ : ByteArray) s r))))) /\ ((decide (ij1 < (s.size : Int))) = false -> ∃ y3, ref06_IsPart sj2 y3 /\ (r = y3))) : ref06_IsFull_j2 ij1 sj2 s r :=
 KW 10 hw (fun _ hw=>KIS 9 hw fun hw=>KW 3 hw (fun _ hw=>KSS 7 hw fun hw=>KCat 0 hw fun hw=>KJ 13 [] hw) fun _ hw=>KC 6 hw pl125 fun _ hw=>KW 3 hw (fun _ hw=>KR 12 hw plr124) fun _ hw=>KJ 13 [] hw) fun _ hw=>KC 8 hw pl125 fun _ hw=>KR 4 hw plr124
theorem ref06_IsFull_step (s : ByteArray) (r : Bool) (hw : ((decide (120 < (s.size : Int))) = true -> r = false) /\ ((decide (120 < (s.size : Int))) = false -> ref06_IsFull_j2 0 (⟨#[]⟩ : ByteArray) s r)) : ref06_IsFull s r :=
 fP (KW 13 hw (fun _ hw=>KR 7 hw plr124) fun _ hw=>KJ 15 [] hw)
theorem plr125 (r : Bool) : plain (e125 r) = true := rfl
def ref06_IsPart_j2 (ij1 : Int) (s : ByteArray) (r : Bool) : Prop := JP Tryz.prog 125 (e125 r) 6 [(3, aI ij1), (0, aS s)]
theorem ref06_IsPart_j2_step (ij1 : Int) (s : ByteArray) (r : Bool) (hw : ((decide (ij1 < (s.size : Int))) = true -> (0 <= ij1 /\ ij1 < (s.size : Int)) /\ (∃ y5, ref06_small (byteAt s ij1.toNat) y5 /\ (∃ R6 : Bool -> Prop, (∀ bz6 : Bool, R6 bz6 -> (∃ R7 : Bool -> Prop, (∀ bz7 : Bool, R7 bz7 -> ((bz7 = true -> (0 <= ij1 /\ ij1 < (s.size : Int)) /\ (∃ R8 : Bool -> Prop, (∀ bz8 : Bool, R8 bz8 -> ((bz8 = true -> r = false) /\ (bz8 = false -> ref06_IsPart_j2 (wI (ij1 + 1)) s r))) /\ (((decide ((byteAt s ij1.toNat) < 48)) = true -> R8 true) /\ ((decide ((byteAt s ij1.toNat) < 48)) = false -> (0 <= ij1 /\ ij1 < (s.size : Int)) /\ (R8 (decide (57 < (byteAt s ij1.toNat)))))))) /\ (bz7 = false -> ref06_IsPart_j2 (wI (ij1 + 1)) s r))) /\ ((bz6 = true -> (0 <= ij1 /\ ij1 < (s.size : Int)) /\ (R7 ((byteAt s ij1.toNat) != 95))) /\ (bz6 = false -> R7 false)))) /\ (((!y5) = true -> (0 <= ij1 /\ ij1 < (s.size : Int)) /\ (∃ y6, ref06_capital (byteAt s ij1.toNat) y6 /\ (R6 (!y6)))) /\ ((!y5) = false -> R6 false))))) /\ ((decide (ij1 < (s.size : Int))) = false -> r = true)) : ref06_IsPart_j2 ij1 s r :=
 KW 10 hw (fun _ hw=>KIS 8 hw fun hw=>KC 0 hw pl201 fun _ hw=>KQ 2 6 kB hw (fun _ hw=>KQ 1 5 kB hw (fun _ hw=>KW 1 hw (fun _ hw=>KIS 2 hw fun hw=>KQ 2 5 kB hw (fun _ hw=>KW 3 hw (fun _ hw=>KR 11 hw plr125) fun _ hw=>KJ 9 [] hw) (fun _ key _ hw=>KE 5 key hw) fun _ key _ hw=>KIS 2 hw fun hw=>KE 2 key hw) fun _ hw=>KJ 23 [] hw) (fun _ key _ hw=>KIS 2 hw fun hw=>KE 2 key hw) fun _ key _ hw=>KE 5 key hw) (fun _ key _ hw=>KIS 2 hw fun hw=>KC 0 hw pl202 fun _ hw=>KE 2 key hw) fun _ key _ hw=>KE 6 key hw) fun _ hw=>KR 11 hw plr125
theorem ref06_IsPart_step (s : ByteArray) (r : Bool) (hw : ∃ R1 : Bool -> Prop, (∀ bz1 : Bool, R1 bz1 -> ((bz1 = true -> r = false) /\ (bz1 = false -> ref06_IsPart_j2 1 s r))) /\ (((((s.size : Int) == 0) || (decide (40 < (s.size : Int)))) = true -> R1 true) /\ ((((s.size : Int) == 0) || (decide (40 < (s.size : Int)))) = false -> (0 <= (0 : Int) /\ (0 : Int) < (s.size : Int)) /\ (∃ y1, ref06_small (byteAt s (0 : Int).toNat) y1 /\ (∃ R2 : Bool -> Prop, (∀ bz2 : Bool, R2 bz2 -> (R1 bz2)) /\ (((!y1) = true -> (0 <= (0 : Int) /\ (0 : Int) < (s.size : Int)) /\ (∃ y2, ref06_capital (byteAt s (0 : Int).toNat) y2 /\ (R2 (!y2)))) /\ ((!y1) = false -> R2 false))))))) : ref06_IsPart s r :=
 fP (KT 12 4<|KQ 1 11 kB hw (fun _ hw=>KW 2 hw (fun _ hw=>KR 7 hw plr125) fun _ hw=>KJ 10 [] hw) (fun _ key _ hw=>KE 11 key hw) fun _ key _ hw=>KIS 1 hw fun hw=>KC 0 hw pl201 fun _ hw=>KQ 2 5 kB hw (fun _ hw=>KE 1 key hw) (fun _ key _ hw=>KIS 1 hw fun hw=>KC 0 hw pl202 fun _ hw=>KE 2 key hw) fun _ key _ hw=>KE 5 key hw)
theorem plr133 (r : Bool) : plain (e133 r) = true := rfl
theorem ref55_plain_step (b : Int) (r : Bool) (hw : r = (((((((decide (97 <= b)) && (decide (b <= 122))) || ((decide (65 <= b)) && (decide (b <= 90)))) || ((decide (48 <= b)) && (decide (b <= 57)))) || (b == 45)) || (b == 95)) || (b == 46))) : ref55_plain b r :=
 fP (KT 10 3<|KT2 1 7 ((decide (97 <= b)) && (decide (b <= 122))) (fun z=>aB (z || ((decide (65 <= b)) && (decide (b <= 90))))) (fun _ key=>KE2 7 key) (fun _ key=>KT 3 3<|KE2 1 key)<|KT2 1 7 (((decide (97 <= b)) && (decide (b <= 122))) || ((decide (65 <= b)) && (decide (b <= 90)))) (fun z=>aB (z || ((decide (48 <= b)) && (decide (b <= 57))))) (fun _ key=>KE2 7 key) (fun _ key=>KT 3 3<|KE2 1 key)<|KT 1 3<|KT 1 3<|KT 1 3<|KR 4 hw plr133)
theorem plr134 (r : Int) : plain (e134 r) = true := rfl
def ref55_digit_j2 (ij1 : Int) (b : Int) (r : Int) : Prop := JP Tryz.prog 134 (e134 r) 3 [(3, aI ij1), (0, aC b)]
theorem ref55_digit_j2_step (ij1 : Int) (b : Int) (r : Int) (hw : ((decide (ij1 < 16)) = true -> (0 <= ij1 /\ ij1 < ((⟨#[48, 49, 50, 51, 52, 53, 54, 55, 56, 57, 65, 66, 67, 68, 69, 70]⟩ : ByteArray).size : Int)) /\ ((((byteAt (⟨#[48, 49, 50, 51, 52, 53, 54, 55, 56, 57, 65, 66, 67, 68, 69, 70]⟩ : ByteArray) ij1.toNat) == b) = true -> r = ij1) /\ (((byteAt (⟨#[48, 49, 50, 51, 52, 53, 54, 55, 56, 57, 65, 66, 67, 68, 69, 70]⟩ : ByteArray) ij1.toNat) == b) = false -> ref55_digit_j2 (wI (ij1 + 1)) b r))) /\ ((decide (ij1 < 16)) = false -> r = (-1))) : ref55_digit_j2 ij1 b r :=
 KW 8 hw (fun _ hw=>KIS 7 hw fun hw=>KW 4 hw (fun _ hw=>KR 12 hw plr134) fun _ hw=>KJ 9 [] hw) fun _ hw=>KR 11 hw plr134
theorem ref55_digit_step (b : Int) (r : Int) (hw : ref55_digit_j2 0 b r) : ref55_digit b r :=
 fP (KJ 13 [] hw)
theorem plr135 (r : ByteArray) : plain (e135 r) = true := rfl
def ref55_Escape_j2 (ij1 : Int) (sj2 : ByteArray) (s : ByteArray) (r : ByteArray) : Prop := JP Tryz.prog 135 (e135 r) 4 [(4, aI ij1), (3, aS sj2), (0, aS s)]
theorem ref55_Escape_j2_step (ij1 : Int) (sj2 : ByteArray) (s : ByteArray) (r : ByteArray) (hw : ((decide (ij1 < (s.size : Int))) = true -> (0 <= ij1 /\ ij1 < (s.size : Int)) /\ (∃ y2, ref55_plain (byteAt s ij1.toNat) y2 /\ ((y2 = true -> (0 <= ij1 /\ ij1 <= (wI (ij1 + 1)) /\ (wI (ij1 + 1)) <= (s.size : Int)) /\ (((sj2.size + (s.extract ij1.toNat (wI (ij1 + 1)).toNat).size : Nat) : Int) <= 9223372036854775807 /\ (ref55_Escape_j2 (wI (ij1 + 1)) (sj2 ++ (s.extract ij1.toNat (wI (ij1 + 1)).toNat)) s r))) /\ (y2 = false -> ((sj2.size + (⟨#[37]⟩ : ByteArray).size : Nat) : Int) <= 9223372036854775807 /\ ((0 <= (IntKind.u8.wrap ((byteAt s ij1.toNat).tdiv 16)) /\ (IntKind.u8.wrap ((byteAt s ij1.toNat).tdiv 16)) <= (IntKind.u8.wrap ((IntKind.u8.wrap ((byteAt s ij1.toNat).tdiv 16)) + 1)) /\ (IntKind.u8.wrap ((IntKind.u8.wrap ((byteAt s ij1.toNat).tdiv 16)) + 1)) <= ((⟨#[48, 49, 50, 51, 52, 53, 54, 55, 56, 57, 65, 66, 67, 68, 69, 70]⟩ : ByteArray).size : Int)) /\ ((((sj2 ++ (⟨#[37]⟩ : ByteArray)).size + ((⟨#[48, 49, 50, 51, 52, 53, 54, 55, 56, 57, 65, 66, 67, 68, 69, 70]⟩ : ByteArray).extract (IntKind.u8.wrap ((byteAt s ij1.toNat).tdiv 16)).toNat (IntKind.u8.wrap ((IntKind.u8.wrap ((byteAt s ij1.toNat).tdiv 16)) + 1)).toNat).size : Nat) : Int) <= 9223372036854775807 /\ ((0 <= ((byteAt s ij1.toNat).tmod 16) /\ ((byteAt s ij1.toNat).tmod 16) <= (IntKind.u8.wrap (((byteAt s ij1.toNat).tmod 16) + 1)) /\ (IntKind.u8.wrap (((byteAt s ij1.toNat).tmod 16) + 1)) <= ((⟨#[48, 49, 50, 51, 52, 53, 54, 55, 56, 57, 65, 66, 67, 68, 69, 70]⟩ : ByteArray).size : Int)) /\ (((((sj2 ++ (⟨#[37]⟩ : ByteArray)) ++ ((⟨#[48, 49, 50, 51, 52, 53, 54, 55, 56, 57, 65, 66, 67, 68, 69, 70]⟩ : ByteArray).extract (IntKind.u8.wrap ((byteAt s ij1.toNat).tdiv 16)).toNat (IntKind.u8.wrap ((IntKind.u8.wrap ((byteAt s ij1.toNat).tdiv 16)) + 1)).toNat)).size + ((⟨#[48, 49, 50, 51, 52, 53, 54, 55, 56, 57, 65, 66, 67, 68, 69, 70]⟩ : ByteArray).extract ((byteAt s ij1.toNat).tmod 16).toNat (IntKind.u8.wrap (((byteAt s ij1.toNat).tmod 16) + 1)).toNat).size : Nat) : Int) <= 9223372036854775807 /\ (ref55_Escape_j2 (wI (ij1 + 1)) (((sj2 ++ (⟨#[37]⟩ : ByteArray)) ++ ((⟨#[48, 49, 50, 51, 52, 53, 54, 55, 56, 57, 65, 66, 67, 68, 69, 70]⟩ : ByteArray).extract (IntKind.u8.wrap ((byteAt s ij1.toNat).tdiv 16)).toNat (IntKind.u8.wrap ((IntKind.u8.wrap ((byteAt s ij1.toNat).tdiv 16)) + 1)).toNat)) ++ ((⟨#[48, 49, 50, 51, 52, 53, 54, 55, 56, 57, 65, 66, 67, 68, 69, 70]⟩ : ByteArray).extract ((byteAt s ij1.toNat).tmod 16).toNat (IntKind.u8.wrap (((byteAt s ij1.toNat).tmod 16) + 1)).toNat)) s r))))))))) /\ ((decide (ij1 < (s.size : Int))) = false -> r = sj2)) : ref55_Escape_j2 ij1 sj2 s r :=
 KW 10 hw (fun _ hw=>KIS 8 hw fun hw=>KC 6 hw pl133 fun _ hw=>KW 2 hw (fun _ hw=>KSS 6 hw fun hw=>KCat 0 hw fun hw=>KJ 10 [] hw) fun _ hw=>KD 0 []<|KCat 1 hw fun hw=>KSS 5 hw fun hw=>KCat 0 hw fun hw=>KSS 5 hw fun hw=>KCat 1 hw fun hw=>KJ 10 [] hw) fun _ hw=>KR 12 hw plr135
theorem ref55_Escape_step (s : ByteArray) (r : ByteArray) (hw : ref55_Escape_j2 0 (⟨#[]⟩ : ByteArray) s r) : ref55_Escape s r :=
 fP (KJ 18 [] hw)
theorem plr151 (r : Int) : plain (e151 r) = true := rfl
theorem ident_class_step (c : Int) (r : Int) (hw : (((decide (97 <= c)) && (decide (c <= 122))) = true -> r = 1) /\ (((decide (97 <= c)) && (decide (c <= 122))) = false -> (((decide (65 <= c)) && (decide (c <= 90))) = true -> r = 2) /\ (((decide (65 <= c)) && (decide (c <= 90))) = false -> (((decide (48 <= c)) && (decide (c <= 57))) = true -> r = 3) /\ (((decide (48 <= c)) && (decide (c <= 57))) = false -> ((c == 95) = true -> r = 4) /\ ((c == 95) = false -> r = 0))))) : ident_class c r :=
 fP (KT 12 3<|KW 3 hw (fun _ hw=>KR 8 hw plr151) fun _ hw=>KT 5 3<|KW 3 hw (fun _ hw=>KR 8 hw plr151) fun _ hw=>KT 5 3<|KW 3 hw (fun _ hw=>KR 8 hw plr151) fun _ hw=>KW 7 hw (fun _ hw=>KR 8 hw plr151) fun _ hw=>KR 9 hw plr151)
theorem plr201 (r : Bool) : plain (e201 r) = true := rfl
theorem ref06_small_step (b : Int) (r : Bool) (hw : r = ((decide (97 <= b)) && (decide (b <= 122)))) : ref06_small b r :=
 fP (KT 10 3<|KR 4 hw plr201)
theorem plr202 (r : Bool) : plain (e202 r) = true := rfl
theorem ref06_capital_step (b : Int) (r : Bool) (hw : r = ((decide (65 <= b)) && (decide (b <= 90)))) : ref06_capital b r :=
 fP (KT 10 3<|KR 4 hw plr202)
end
theorem wrapI {n : Int} (h : -9223372036854775808 <= n /\ n <= 9223372036854775807) : IntKind.i64.wrap n = n := by simp [IntKind.wrap, IntKind.signed, IntKind.bits]; omega
section
theorem nz_v {av : AV} {x : Value} (h : nz av = .v x) (hx : ∀ n, x ≠ .slice none n n := by intro n h; cases h) : av = .v x := by
 cases av with
 | v y => simpa [nz, nzA, nz1] using h
 | _ => simp [nz, nzA, nz1] at h
theorem calls_v {P : Program} {f : FuncId} {args : List AV} {cargs : Array Value} {W : World} {x : Value} (hf : PureN P [] f args (.v x)) (hr : Rels (bare W nowhere) args cargs.toList) (hx : ∀ n, x ≠ .slice none n n := by intro n h; cases h) :
  Calls P f cargs W fun e W' => e = .returned x /\ Below W.heap.size W W' := by
 refine (hf.2 W nowhere cargs (fun b o h => h.elim) (fun g cells h => by cases h) hr).mono fun e W' ⟨av, y, he, hp, hrel, hav⟩ => ?_
 rw [nz_v hav hx] at hrel
 cases hrel with
 | v _ _ => exact ⟨he, hp.below⟩
open Lift
def plainI (c : Int) : Bool := ((((((decide (97 <= c)) && (decide (c <= 122))) || ((decide (65 <= c)) && (decide (c <= 90)))) || ((decide (48 <= c)) && (decide (c <= 57)))) || (c == 45)) || (c == 95)) || (c == 46)
theorem plain_is (c : Int) : gateway_plain c (plainI c) := gateway_plain_step _ _ rfl
theorem plain_c (c : Int) (w : World) : Calls Tryz.prog 50 #[.int .u8 c] w fun e w' => e = .returned (.bool (plainI c)) /\ Below w.heap.size w w' :=
 calls_v (plain_is c) (rels_cons' (.v _ rfl) (rels_nil' _)) 
def plainU (c : UInt8) : Bool := plainI (c.toNat : Int)
def hexU (n : Nat) : UInt8 := if n < 10 then UInt8.ofNat (48 + n) else UInt8.ofNat (55 + n)
def escU (c : UInt8) : List UInt8 := if plainU c = true then [c] else [37, hexU (c.toNat / 16), hexU (c.toNat % 16)]
def escL (l : List UInt8) : List UInt8 := l.flatMap escU
theorem escL_cons (c : UInt8) (l : List UInt8) : escL (c :: l) = escU c ++ escL l := rfl
theorem drop_at' (s : ByteArray) (p : Nat) (h : p < s.size) : s.data.toList.drop p = s[p] :: s.data.toList.drop (p + 1) := by
 have h' : p < s.data.toList.length := by simpa using h
 rw [List.drop_eq_getElem_cons h']
 rfl
theorem isB_keep {T e : TypeId} {B b : Nat} {bs : List Value} {w w' : World} (h : Lib.IsBuilder T e B b bs w) (hb : Below w.heap.size w w') : Lib.IsBuilder T e B b bs w' := by
 have one : ∀ p, Lib.BuilderAt T e B b p bs w -> Lib.BuilderAt T e B b p bs w' := by
  rintro p ⟨h1, v, h2, h3, h4⟩
  have hlt : b < w.heap.size := by
   rcases Nat.lt_or_ge b w.heap.size with h' | h'
   ·exact h'
   ·simp [Array.getElem?_eq_none h'] at h2
  refine ⟨h1, v, (hb.block b hlt).trans h2, ⟨h3.1, ?_⟩, h4⟩
  rcases h3.2 with h | ⟨g, cap, cur, k1, k2, k3, k4⟩
  ·exact .inl h
  ·refine .inr ⟨g, cap, cur, k1, k2, (hb.block g ?_).trans k3, k4⟩
   rcases Nat.lt_or_ge g w.heap.size with h' | h'
   ·exact h'
   ·simp [Array.getElem?_eq_none h'] at k3
 rcases h with h | h
 ·exact .inl (one _ h)
 ·exact .inr (one _ h)
set_option maxRecDepth 100000 in
theorem run_dig (a : Nat) (h : a < 16) (w : World) : Sem.run Tryz.prog (Instr.slice 9 (.string ⟨#[48, 49, 50, 51, 52, 53, 54, 55, 56, 57, 65, 66, 67, 68, 69, 70]⟩) (some (.int .u8 (a : Int))) (some (.int .u8 ((a : Int) + 1))) none) w = .ok (.string ⟨#[hexU a]⟩) w := by
 have : a = 0 ∨ a = 1 ∨ a = 2 ∨ a = 3 ∨ a = 4 ∨ a = 5 ∨ a = 6 ∨ a = 7 ∨ a = 8 ∨ a = 9 ∨ a = 10 ∨ a = 11 ∨ a = 12 ∨ a = 13 ∨ a = 14 ∨ a = 15 := by omega
 rcases this with rfl | rfl | rfl | rfl | rfl | rfl | rfl | rfl | rfl | rfl | rfl | rfl | rfl | rfl | rfl | rfl
 all_goals rfl
theorem bits15 (c : UInt8) : bits .and .u8 (c.toNat : Int) 15 = ((c.toNat % 16 : Nat) : Int) := by
 have : ∀ c : Fin 256, bits .and .u8 ((c.val : Nat) : Int) 15 = ((c.val % 16 : Nat) : Int) := by decide +kernel
 exact this ⟨c.toNat, c.toNat_lt⟩
theorem wrap16 (a : Nat) (h : a < 16) : IntKind.u8.wrap ((a : Int) + 1) = (a : Int) + 1 := by simp [IntKind.wrap, IntKind.signed, IntKind.bits]; omega
theorem isB_drew {T e : TypeId} {B b : Nat} {bs : List Value} {w : World} (h : Lib.IsBuilder T e B b bs w) : Lib.IsBuilder T e B b bs w.drew := h
theorem three (a b : UInt8) : Lib.strCells ((⟨#[37]⟩ : ByteArray) ++ ⟨#[a]⟩ ++ ⟨#[b]⟩) = Lib.byteCells [37, a, b] := by
 rw [Lib.strCells_eq]; rfl
theorem three_size (a b : UInt8) : ((⟨#[37]⟩ : ByteArray) ++ ⟨#[a]⟩ ++ ⟨#[b]⟩).size = 3 := by simp [ByteArray.size_append]; rfl
theorem hidE {p : Prop} (h : p) : Hid p := h
set_option maxHeartbeats 4000000 in
set_option maxRecDepth 100000 in
theorem esc_c (s : ByteArray) (hs : s.size <= 1048576) (w : World) :
  Calls Tryz.prog 21 #[.string s] w fun e w' => e = .returned (.string ⟨(escL s.data.toList).toArray⟩) /\ Below w.heap.size w w' := by
 obtain ⟨R, HR⟩ : ∃ R, Hid (R = escL s.data.toList) := ⟨_, hidE rfl⟩
 rw [← HR.out]
 go_enter Tryz.func21, Tryz.ntmps21
 go_wp2_with fail
 go_loopg [8] (s.size) (fun g s8 wx => ∃ (p : Nat) (acc : List UInt8), s8 = .int .i64 p /\ p + g = s.size /\ Hid (Lib.IsBuilder 121 5 w.heap.size w.heap.size (Lib.byteCells acc) wx) /\ Hid (Below w.heap.size w wx) /\ Hid (R = acc ++ escL (s.data.toList.drop p)) /\ acc.length <= 3 * p)
 case atStart => exact ⟨0, [], rfl, by omega, hidE (Lib.fresh_isBuilder _ _ _), hidE ((Below.refl w.heap.size w).alloc (Nat.le_refl _) _), hidE (by rw [HR.out]; simp), by simp⟩
 case round =>
  obtain ⟨p, acc, rfl, hpg, HB, HW, HR2, hacc⟩ := hrel
  have hBw : w.heap.size <= wr.heap.size := HW.out.size
  cases gk with
  | zero =>
   have hlt : ¬ (p : Int) < (s.size : Int) := by omega
   go_wp2_with (go_at_call 45; refine (Tryz.Builder_String_any w.heap.size w.heap.size acc _ HB.out hBw).mono ?_)
   rintro e w5 rfl hb5
   have Hb5 := hidE (HW.out.trans hb5)
   have HA : Hid (R = acc) := hidE (by rw [HR2.out, List.drop_eq_nil_of_le (by simp; show s.size <= p; omega)]; simp [escL])
   clear hb5
   go_wp2
   go_ret
   exact ⟨by rw [HA.out]; rfl, Hb5.out⟩
  | succ g =>
   have i0 : (0 : Int) <= (p : Int) := by omega
   have hlt : (p : Int) < (s.size : Int) := by omega
   have hp : p < s.size := by omega
   have HN : Hid (R = acc ++ escU s[p] ++ escL (s.data.toList.drop (p + 1))) := hidE (by rw [HR2.out, drop_at' s p hp, escL_cons, List.append_assoc])
   by_cases hpl : plainU s[p] = true
   ·have HE : Hid (R = acc ++ [s[p]] ++ escL (s.data.toList.drop (p + 1))) := hidE (by rw [HN.out, escU, if_pos hpl])
    have HPC : ∀ w, Calls Tryz.prog 50 #[.int .u8 (s[p].toNat : Int)] w fun e w' => e = .returned (.bool true) /\ Below w.heap.size w w' := fun w => by
     have := plain_c (s[p].toNat : Int) w
     rw [show plainI (s[p].toNat : Int) = true from hpl] at this
     exact this
    clear hpl
    go_wp2_with (go_at_call 50; refine (HPC _).mono ?_)
    rintro e w1 ⟨rfl, hb1⟩
    have HB1 := hidE (isB_keep HB.out hb1)
    have HW1 := hidE (HW.out.trans (hb1.mono hBw))
    have hBw1 : w.heap.size <= w1.heap.size := HW1.out.size
    clear hb1
    go_wp2_with (go_at_call 43; refine (bwb w.heap.size w.heap.size _ _ _ HB1.out (by rw [Lib.byteCells_length]; omega) hBw1).mono ?_)
    rintro e w2 ⟨rfl, h2, hb2⟩
    have HB2 : Hid (Lib.IsBuilder 121 5 w.heap.size w.heap.size (Lib.byteCells (acc ++ [s[p]])) w2) := hidE (.inr (by rw [Lib.byteCells_append]; exact h2))
    have HW2 := hidE (HW1.out.trans hb2)
    clear h2 hb2
    go_wp2
    go_roundg g
    case measure => omega
    case rel => exact ⟨p + 1, acc ++ [s[p]], by go_num, by omega, HB2, HW2, HE, by simp; omega⟩
   ·have hpl' : plainU s[p] = false := by simpa using hpl
    have HPC : ∀ w, Calls Tryz.prog 50 #[.int .u8 (s[p].toNat : Int)] w fun e w' => e = .returned (.bool false) /\ Below w.heap.size w w' := fun w => by
     have := plain_c (s[p].toNat : Int) w
     rw [show plainI (s[p].toNat : Int) = false from hpl'] at this
     exact this
    have HE : Hid (R = acc ++ [37, hexU (s[p].toNat / 16), hexU (s[p].toNat % 16)] ++ escL (s.data.toList.drop (p + 1))) := hidE (by rw [HN.out, escU, if_neg hpl])
    have q0 : (s[p].toNat : Int) / 16 = ((s[p].toNat / 16 : Nat) : Int) := by omega
    have hc := s[p].toNat_lt
    have q1 : IntKind.u8.wrap ((s[p].toNat : Int) / 16 + 1) = ((s[p].toNat / 16 : Nat) : Int) + 1 := by rw [q0]; exact wrap16 _ (by omega)
    have q2 := bits15 s[p]
    have q3 : IntKind.u8.wrap (bits .and .u8 (s[p].toNat : Int) 15 + 1) = ((s[p].toNat % 16 : Nat) : Int) + 1 := by rw [q2]; exact wrap16 _ (by omega)
    have r1 : ∀ w : World, Sem.run Tryz.prog (Instr.slice 9 (.string ⟨#[48, 49, 50, 51, 52, 53, 54, 55, 56, 57, 65, 66, 67, 68, 69, 70]⟩) (some (.int .u8 ((s[p].toNat : Int) / 16))) (some (.int .u8 (IntKind.u8.wrap ((s[p].toNat : Int) / 16 + 1)))) none) w = .ok (.string ⟨#[hexU (s[p].toNat / 16)]⟩) w := fun w => by rw [q1, q0]; exact run_dig _ (by omega) w
    have r2 : ∀ w : World, Sem.run Tryz.prog (Instr.slice 9 (.string ⟨#[48, 49, 50, 51, 52, 53, 54, 55, 56, 57, 65, 66, 67, 68, 69, 70]⟩) (some (.int .u8 (bits .and .u8 (s[p].toNat : Int) 15))) (some (.int .u8 (IntKind.u8.wrap (bits .and .u8 (s[p].toNat : Int) 15 + 1)))) none) w = .ok (.string ⟨#[hexU (s[p].toNat % 16)]⟩) w := fun w => by rw [q3, q2]; exact run_dig _ (by omega) w
    clear hpl hpl' q0 q1 q2 q3 hc
    go_wp2_with (go_at_call 50; refine (HPC _).mono ?_)
    rintro e w1 ⟨rfl, hb1⟩
    have HB1 := hidE (isB_keep HB.out hb1)
    have HW1 := hidE (HW.out.trans (hb1.mono hBw))
    have hBw1 : w.heap.size <= w1.heap.size := HW1.out.size
    clear hb1
    go_wp2
    go_region_with (go_at_call 51; refine (bws w.heap.size w.heap.size _ _ _ (isB_drew HB1.out) (by rw [Lib.byteCells_length, three_size]; omega) hBw1).mono ?_; rintro e w2 ⟨rfl, h2, hb2⟩)
    have HB2 : Hid (Lib.IsBuilder 121 5 w.heap.size w.heap.size (Lib.byteCells (acc ++ [37, hexU (s[p].toNat / 16), hexU (s[p].toNat % 16)])) w2) := hidE (.inr (by rw [Lib.byteCells_append]; rw [three] at h2; exact h2))
    have HW2 := hidE ((Below.drew HW1.out).trans hb2)
    clear h2 hb2
    go_wp2
    go_roundg g
    case measure => omega
    case rel => exact ⟨p + 1, _, by go_num, by omega, HB2, HW2, HE, by simp; omega⟩
end
section
open Go.RowKit Lift
def digI (c : UInt8) : Int := if 48 <= c /\ c <= 57 then (c.toNat : Int) - 48 else if 65 <= c /\ c <= 70 then (c.toNat : Int) - 55 else -1
def unraw : List UInt8 -> List UInt8 -> Option (List UInt8)
 | [], acc => some acc
 | c :: r, acc => if c ≠ 37 then unraw r (acc ++ [c]) else match r with
  | a :: b :: r' => if 0 <= digI a /\ 0 <= digI b then unraw r' (acc ++ [UInt8.ofNat (16 * (digI a).toNat + (digI b).toNat)]) else none
  | _ => none
 termination_by l => l.length
def unescL (l : List UInt8) : List UInt8 × Int := match unraw l [] with
 | some t => if escL t = l then (t, 0) else ([], 2)
 | none => ([], 2)
theorem dig_index (c : UInt8) : Lib.indexByte (⟨#[48, 49, 50, 51, 52, 53, 54, 55, 56, 57, 65, 66, 67, 68, 69, 70]⟩ : ByteArray).data.toList ((c.toNat : Int).toNat.toUInt8) = digI c := by
 have : ∀ c : Fin 256, Lib.indexByte (⟨#[48, 49, 50, 51, 52, 53, 54, 55, 56, 57, 65, 66, 67, 68, 69, 70]⟩ : ByteArray).data.toList (((c.val : Nat) : Int).toNat.toUInt8) = digI (UInt8.ofNat c.val) := by decide +kernel
 have h := this ⟨c.toNat, c.toNat_lt⟩
 simpa using h
theorem dig_lt (c : UInt8) (h : 0 <= digI c) : (digI c).toNat < 16 := by
 have : ∀ c : Fin 256, 0 <= digI (UInt8.ofNat c.val) -> (digI (UInt8.ofNat c.val)).toNat < 16 := by decide +kernel
 have h1 := this ⟨c.toNat, c.toNat_lt⟩
 simp only [UInt8.ofNat_toNat] at h1
 exact h1 h
theorem dig_neg (c : UInt8) (h : ¬ 0 <= digI c) : digI c = -1 := by
 have : ∀ c : Fin 256, ¬ 0 <= digI (UInt8.ofNat c.val) -> digI (UInt8.ofNat c.val) = -1 := by decide +kernel
 have h1 := this ⟨c.toNat, c.toNat_lt⟩
 simp only [UInt8.ofNat_toNat] at h1
 exact h1 h
theorem or_dig (x y : Nat) (hx : x < 16) (hy : y < 16) : bits .or .i64 ((x : Int) * 16) (y : Int) % 256 = (((UInt8.ofNat (16 * x + y)).toNat : Nat) : Int) := by
 have : ∀ x y : Fin 16, bits .or .i64 (((x.val : Nat) : Int) * 16) ((y.val : Nat) : Int) % 256 = (((UInt8.ofNat (16 * x.val + y.val)).toNat : Nat) : Int) := by decide +kernel
 exact this ⟨x, hx⟩ ⟨y, hy⟩
theorem index_c (c : UInt8) (w : World) : Calls Tryz.prog 44 #[.string ⟨#[48, 49, 50, 51, 52, 53, 54, 55, 56, 57, 65, 66, 67, 68, 69, 70]⟩, .int .u8 (c.toNat : Int)] w fun e w' => e = .returned (.int .i64 (digI c)) /\ w' = w := by
 have h := Tryz.strings_IndexByte ⟨#[48, 49, 50, 51, 52, 53, 54, 55, 56, 57, 65, 66, 67, 68, 69, 70]⟩ (c.toNat : Int) w
 rw [dig_index] at h
 exact h
theorem isBF_keep {T e : TypeId} {B b : Nat} {bs : List Value} {w w' : World} (h : Lib.IsBuilderF T e B b bs w) (hb : Below w.heap.size w w') : Lib.IsBuilderF T e B b bs w' := by
 have one : ∀ p, Lib.BuilderAtF T e B b p bs w -> Lib.BuilderAtF T e B b p bs w' := by
  rintro p ⟨h1, v, h2, h3, h4⟩
  have hlt : b < w.heap.size := by
   rcases Nat.lt_or_ge b w.heap.size with h' | h'
   ·exact h'
   ·simp [Array.getElem?_eq_none h'] at h2
  refine ⟨h1, v, (hb.block b hlt).trans h2, ⟨h3.1, ?_⟩, h4⟩
  rcases h3.2 with h | ⟨g, cap, cur, fz, k1, k2, k3, k4⟩
  ·exact .inl h
  ·refine .inr ⟨g, cap, cur, fz, k1, k2, (hb.block g ?_).trans k3, k4⟩
   rcases Nat.lt_or_ge g w.heap.size with h' | h'
   ·exact h'
   ·simp [Array.getElem?_eq_none h'] at k3
 rcases h with h | h
 ·exact .inl (one _ h)
 ·exact .inr (one _ h)
theorem bstr (B b : Nat) (l : List UInt8) (w : World) (h : Lib.IsBuilderF 121 5 B b (Lib.byteCells l) w) (hBw : B <= w.heap.size) :
  Calls Tryz.prog 45 #[.pointer (some ⟨b, 0, none⟩)] w fun e w' => e = .returned (.string ⟨l.toArray⟩) /\ (Lib.IsBuilderF 121 5 B b (Lib.byteCells l) w' /\ Below B w w') := Any.Builder_String_any_f Tryz.lays169 Tryz.Builder_Extra_169 B b l w h hBw
theorem ret2 {a b : ByteArray} {x y : Int} (h1 : a = b) (h2 : x = y) : Ending.returned (.tuple #[.string a, .int .i64 x]) = .returned (.tuple #[.string b, .int .i64 y]) := by rw [h1, h2]
set_option maxHeartbeats 4000000 in
set_option maxRecDepth 100000 in
theorem unesc_c (s : ByteArray) (hs : s.size <= 1048576) (w : World) :
  Calls Tryz.prog 19 #[.string s] w fun e w' => e = .returned (.tuple #[.string ⟨(unescL s.data.toList).1.toArray⟩, .int .i64 (unescL s.data.toList).2]) /\ Below w.heap.size w w' := by
 obtain ⟨R, HR⟩ : ∃ R, Hid (R = unescL s.data.toList) := ⟨_, hidE rfl⟩
 rw [← HR.out]
 go_enter Tryz.func19, Tryz.ntmps19
 go_wp2_with fail
 go_loopg [5] (s.size) (fun g s5 wx => ∃ (p : Nat) (acc : List UInt8), s5 = .int .i64 p /\ p + g = s.size /\ Hid (Lib.IsBuilder 121 5 w.heap.size w.heap.size (Lib.byteCells acc) wx) /\ Hid (Below w.heap.size w wx) /\ Hid (unraw s.data.toList [] = unraw (s.data.toList.drop p) acc) /\ acc.length <= p)
 case atStart => exact ⟨0, [], rfl, by omega, hidE (Lib.fresh_isBuilder _ _ _), hidE ((Below.refl w.heap.size w).alloc (Nat.le_refl _) _), hidE (by simp), by simp⟩
 case round =>
  obtain ⟨p, acc, rfl, hpg, HB, HW, HR2, hacc⟩ := hrel
  have hBw : w.heap.size <= wr.heap.size := HW.out.size
  have i0 : (0 : Int) <= (p : Int) := by omega
  cases gk with
  | zero =>
   have hlt : ¬ (p : Int) < (s.size : Int) := by omega
   have HA : Hid (R = if escL acc = s.data.toList then (acc, 0) else ([], 2)) := hidE (by
    have e : unraw s.data.toList [] = some acc := by rw [HR2.out, List.drop_eq_nil_of_le (by simp; show s.size <= p; omega)]; simp [unraw]
    rw [HR.out, unescL, e])
   have hal : acc.length <= 1048576 := by omega
   go_wp2_with (go_at_call 45; refine (bstr w.heap.size w.heap.size acc _ (.of HB.out) hBw).mono ?_)
   rintro e w3 rfl hf3 hb3
   have HF3 := hidE hf3
   have HW3 := hidE (HW.out.trans hb3)
   have hBw3 : w.heap.size <= w3.heap.size := HW3.out.size
   have hsz : (⟨acc.toArray⟩ : ByteArray).size <= 1048576 := by show acc.toArray.size <= _; simpa using hal
   clear hf3 hb3
   go_wp2_with (go_at_call 21; refine (esc_c ⟨acc.toArray⟩ hsz _).mono ?_)
   rintro e w4 rfl hb4
   have HF4 := hidE (isBF_keep HF3.out hb4)
   have HW4 := hidE (HW3.out.trans (hb4.mono hBw3))
   have hBw4 : w.heap.size <= w4.heap.size := HW4.out.size
   clear hb4
   by_cases hq : escL acc = s.data.toList
   ·have HN : Hid (R = (acc, 0)) := hidE (by rw [HA.out, if_pos hq])
    have hE : (escL acc == s.toList) = true := by rw [hq, Lib.toList_data]; simp
    go_wp2_with (go_at_call 45; refine (bstr w.heap.size w.heap.size acc _ HF4.out hBw4).mono ?_)
    first | rintro e w5 rfl hf5 hb5 | rintro e w5 ⟨rfl, hf5, hb5⟩
    have HW5 := hidE (HW4.out.trans hb5)
    clear hf5 hb5
    go_wp2_with fail
    go_ret2
    exact ⟨ret2 (by rw [HN.out]) (by rw [HN.out]), HW5.out⟩
   ·have HN : Hid (R = ([], 2)) := hidE (by rw [HA.out, if_neg hq])
    have hE : (escL acc == s.toList) = false := by rw [Lib.toList_data]; simpa using hq
    go_wp2_with fail
    go_ret2
    exact ⟨ret2 (by rw [HN.out]) (by rw [HN.out]), HW4.out⟩
  | succ g =>
   have hlt : (p : Int) < (s.size : Int) := by omega
   have hp : p < s.size := by omega
   by_cases hb : s[p] = 37
   ·have hbq : ((s[p].toNat : Int) != 37) = false := by rw [hb]; rfl
    have HB0 := hidE hb
    clear hb
    by_cases h2 : p + 2 < s.size
    ·have j0 : (0 : Int) <= (p : Int) + 1 := by omega
     have j1 : (p : Int) + 1 < (s.size : Int) := by omega
     have j2 : (0 : Int) <= (p : Int) + 2 := by omega
     have j3 : (p : Int) + 2 < (s.size : Int) := by omega
     have hp1 : p + 1 < s.size := by omega
     have jg : decide ((s.size : Int) <= (p : Int) + 2) = false := decide_eq_false (by omega)
     have HX : ∀ (c : UInt8) w, Calls Tryz.prog 44 #[.string ⟨#[48, 49, 50, 51, 52, 53, 54, 55, 56, 57, 65, 66, 67, 68, 69, 70]⟩, .int .u8 (c.toNat : Int)] w fun e w' => e = .returned (.int .i64 (digI c)) /\ w' = w := index_c
     obtain ⟨x, hxx⟩ : ∃ x : Int, digI s[p + 1] = x := ⟨_, rfl⟩
     obtain ⟨y, hyy⟩ : ∃ y : Int, digI s[p + 2] = y := ⟨_, rfl⟩
     have HX1 : ∀ w, Calls Tryz.prog 44 #[.string ⟨#[48, 49, 50, 51, 52, 53, 54, 55, 56, 57, 65, 66, 67, 68, 69, 70]⟩, .int .u8 (s[p + 1].toNat : Int)] w fun e w' => e = .returned (.int .i64 x) /\ w' = w := fun w => by rw [← hxx]; exact HX _ w
     have HX2 : ∀ w, Calls Tryz.prog 44 #[.string ⟨#[48, 49, 50, 51, 52, 53, 54, 55, 56, 57, 65, 66, 67, 68, 69, 70]⟩, .int .u8 (s[p + 2].toNat : Int)] w fun e w' => e = .returned (.int .i64 y) /\ w' = w := fun w => by rw [← hyy]; exact HX _ w
     have HS : Hid (unraw s.data.toList [] = if 0 <= x /\ 0 <= y then unraw (s.data.toList.drop (p + 3)) (acc ++ [UInt8.ofNat (16 * x.toNat + y.toNat)]) else none) := hidE (by
      rw [HR2.out, drop_at' s p hp, drop_at' s (p + 1) hp1, drop_at' s (p + 2) h2, unraw.eq_def]
      simp only [HB0.out, ne_eq, not_true_eq_false, if_false, hxx, hyy])
     have HD : Hid ((0 <= x -> x.toNat < 16) /\ (0 <= y -> y.toNat < 16)) := hidE ⟨by rw [← hxx]; exact dig_lt _, by rw [← hyy]; exact dig_lt _⟩
     have HM : Hid ((¬ 0 <= x -> x = -1) /\ (¬ 0 <= y -> y = -1)) := hidE ⟨by rw [← hxx]; exact dig_neg _, by rw [← hyy]; exact dig_neg _⟩
     clear hxx hyy HX
     have v1 : IntKind.i64.wrap ((p : Int) + 1) = (p : Int) + 1 := wrapI (by omega)
     have v2 : IntKind.i64.wrap ((p : Int) + 2) = (p : Int) + 2 := wrapI (by omega)
     go_wp2_with fail
     go_region_with ((go_at_call 44; first | (refine (HX1 _).mono ?_; rintro e w' ⟨rfl, rfl⟩) | (refine (HX2 _).mono ?_; rintro e w' ⟨rfl, rfl⟩)))
     all_goals (
      clear HX1 HX2
      by_cases hx : 0 <= x
      ·by_cases hy : 0 <= y
       ·have hx16 := HD.out.1 hx
        have hy16 := HD.out.2 hy
        have HN : Hid (unraw s.data.toList [] = unraw (s.data.toList.drop (p + 3)) (acc ++ [UInt8.ofNat (16 * x.toNat + y.toNat)])) := hidE (by rw [HS.out, if_pos ⟨hx, hy⟩])
        clear HS HD HM
        obtain ⟨x, rfl⟩ := Int.eq_ofNat_of_zero_le hx
        obtain ⟨y, rfl⟩ := Int.eq_ofNat_of_zero_le hy
        simp only [Int.toNat_natCast] at HN hx16 hy16
        have n1 : ¬ ((x : Int) < 0) := by omega
        have n2 : ¬ ((y : Int) < 0) := by omega
        clear hx hy
        go_wp2_with (go_at_call 43; refine (bwb w.heap.size w.heap.size _ _ _ (isB_drew HB.out) (by rw [Lib.byteCells_length]; omega) hBw).mono ?_)
        first | rintro e w2 rfl h3 hb2 | rintro e w2 ⟨rfl, h3, hb2⟩
        have HB2 : Hid (Lib.IsBuilder 121 5 w.heap.size w.heap.size (Lib.byteCells (acc ++ [UInt8.ofNat (16 * x + y)])) w2) := hidE (.inr (by rw [Lib.byteCells_append]; rw [or_dig x y hx16 hy16] at h3; exact h3))
        have HW2 := hidE ((Below.drew HW.out).trans hb2)
        clear h3 hb2
        go_wp2_with fail
        go_roundg (g - 2)
        case measure => omega
        case rel => exact ⟨p + 3, _, by go_num, by omega, HB2, HW2, HN, by simp; omega⟩
       ·have hm := HM.out.2 (by omega)
        have HN : Hid (R = ([], 2)) := hidE (by rw [HR.out, unescL, HS.out, if_neg (fun h => hy h.2)])
        clear HS HD HM hy
        subst hm
        have n1 : ¬ (x < 0) := by omega
        go_wp2_with fail
        go_ret2
        exact ⟨ret2 (by rw [HN.out]) (by rw [HN.out]), Below.drew HW.out⟩
      ·have hm := HM.out.1 (by omega)
       have HN : Hid (R = ([], 2)) := hidE (by rw [HR.out, unescL, HS.out, if_neg (fun h => hx h.1)])
       clear HS HD HM hx
       subst hm
       go_wp2_with fail
       go_ret2
       exact ⟨ret2 (by rw [HN.out]) (by rw [HN.out]), Below.drew HW.out⟩)
    ·have HN : Hid (R = ([], 2)) := hidE (by
      have e : unraw s.data.toList [] = none := by
       rw [HR2.out, drop_at' s p hp, unraw.eq_def]
       simp only [HB0.out, ne_eq, not_true_eq_false, if_false]
       split
       ·rename_i a b r' he
        exfalso
        have := congrArg List.length he
        simp at this
        have h3 : s.data.size = s.size := rfl
        omega
       ·rfl
      rw [HR.out, unescL, e])
     have jg : decide ((s.size : Int) <= (p : Int) + 2) = true := decide_eq_true (by omega)
     have jh : (s.size : Int) <= (p : Int) + 2 := by omega
     go_wp2_with fail
     go_ret2
     exact ⟨ret2 (by rw [HN.out]) (by rw [HN.out]), HW.out⟩
   ·have HN : Hid (unraw s.data.toList [] = unraw (s.data.toList.drop (p + 1)) (acc ++ [s[p]])) := hidE (by rw [HR2.out, drop_at' s p hp, unraw.eq_def]; simp only [ne_eq, hb, not_false_eq_true, if_true])
    have hbn : ¬ (s[p].toNat : Int) = 37 := fun h => hb (UInt8.toNat_inj.1 (by have : ((37 : UInt8).toNat) = 37 := rfl; omega))
    have hbq : ((s[p].toNat : Int) != 37) = true := by rw [bne_iff_ne]; exact hbn
    clear hb hbn
    go_wp2_with (go_at_call 43; refine (bwb w.heap.size w.heap.size _ _ _ HB.out (by rw [Lib.byteCells_length]; omega) hBw).mono ?_)
    rintro e w2 ⟨rfl, h2, hb2⟩
    have HB2 : Hid (Lib.IsBuilder 121 5 w.heap.size w.heap.size (Lib.byteCells (acc ++ [s[p]])) w2) := hidE (.inr (by rw [Lib.byteCells_append]; exact h2))
    have HW2 := hidE (HW.out.trans hb2)
    clear h2 hb2
    go_wp2
    go_roundg g
    case measure => omega
    case rel => exact ⟨p + 1, acc ++ [s[p]], by go_num, by omega, HB2, HW2, HN, by simp; omega⟩
end
def r7_0 : LO := [o 0 (mb false)]
def r7_1 : LO := [o 19 (.call (cf 16) []), o 18 (mv 19), o 20 (.extract 0 (T 18)), o 21 (.extract 1 (T 18)), o 1 (.alloc [.nil, .nil, .nil]), o 2 (.alloc [aE, aE, aE, aE, aE]), on (st 3 1 20), on (st 5 2 21)]
def r7_2 : LO := [o 22 (.build [aE, aE] [((0, 1), (.c (aS ⟨#[116, 97, 103]⟩))), ((1, 1), (.c (aS ⟨#[97, 32, 98]⟩)))]), o 23 (.sliceLit 2 1 [aE, aE] [((0, 2), (T 22))]), o 24 (.build [aE, aE, .nil, aE] [((0, 1), (.c (aS ⟨#[71, 69, 84]⟩))), ((1, 1), (.c (aS ⟨#[47, 117, 115, 101, 114, 115, 47, 55]⟩))), ((2, 1), (T 23))]), o 3 (.alloc [aE, aE, .nil, aE]), on (st 4 3 24)]
def r7_3 : LO := [o 26 (ln 3 1), o 27 (ln 5 2), o 28 (.sliceLit 5 1 [aE, aE, aE, aE, aE] [((0, 5), (T 27))]), o 29 (ln 4 3), o 30 (.call (cf 17) [(T 26), (T 28), (T 29)]), o 25 (mv 30), o 31 (.extract 0 (T 25)), o 32 (.extract 1 (T 25)), o 33 (.extract 2 (T 25)), o 5 (.alloc zV), o 4 (mv 31), on (st 7 5 32), o 6 (mv 33)]
def r7_4 : LO := [o 35 (ln 3 1), o 36 (ln 5 2), o 37 (ln 7 5), o 38 (.call (cf 18) [(T 35), (T 36), (T 37)]), o 34 (mv 38), o 39 (.extract 0 (T 34)), o 40 (.extract 1 (T 34)), o 7 (.alloc [aE, aE, .nil, aE]), on (st 4 7 39), o 8 (mv 40)]
def r7_5 : LO := [o 42 (ln 3 1), o 43 (ln 5 2), o 44 (.build zV [((0, 1), (ci 10))]), o 45 (.call (cf 18) [(T 42), (T 43), (T 44)]), o 41 (mv 45), o 46 (.extract 0 (T 41)), o 47 (.extract 1 (T 41)), o 9 (.alloc [aE, aE, .nil, aE]), on (st 4 9 46), o 10 (mv 47)]
def r7_6 : LO := [o 49 (ln 5 2), o 50 (.sliceLit 5 1 [aE, aE, aE, aE, aE] [((0, 5), (T 49))]), o 51 (.call (cf 11) [(T 50), (.c (aS ⟨#[71, 69, 84]⟩)), (.c (aS ⟨#[47, 117, 115, 101, 114, 115, 47, 37, 50, 48]⟩))]), o 48 (mv 51), o 52 (.extract 0 (T 48)), o 53 (.extract 1 (T 48)), o 54 (.extract 2 (T 48)), o 11 (mv 52), o 12 (mv 53), o 13 (mv 54)]
def r7_7 : LO := [o 56 (.call (cf 19) [(.c (aS ⟨#[37, 50, 102]⟩))]), o 55 (mv 56), o 57 (.extract 0 (T 55)), o 58 (.extract 1 (T 55)), o 14 (mv 57), o 15 (mv 58)]
def r7_8 : LO := [o 59 (ln 3 1), o 60 (mv 4), o 61 (.build [(aI 0), aE] [((0, 1), (ci 6)), ((1, 1), (.c (aS ⟨#[110, 111]⟩)))]), o 62 (ln 7 5), o 63 (.call (cf 20) [(T 59), (T 60), (T 61), (T 62)]), o 16 (.alloc [(aI 0), aE]), on (st 2 16 63)]
def r7_9 : LO := [o 64 (ln 3 1), o 65 (mv 4), o 66 (.build [(aI 0), aE] []), o 67 (ln 7 5), o 68 (.call (cf 20) [(T 64), (T 65), (T 66), (T 67)]), o 17 (.alloc [(aI 0), aE]), on (st 2 17 68)]
def r7_10 : LO := [o 69 (mv 4), o 70 (.bin .neq (T 69) (.c (aS ⟨#[83, 47, 71, 101, 116]⟩))), o 71 (mv 70), og 72 (mv 6) 71 false, og 73 (.bin .neq (T 72) (ci 0)) 71 false, o 74 (.pick (T 71) (cb true) (T 73)), o 75 (mv 74), og 76 (fa 5 5) 75 false, og 77 (ld 76) 75 false, og 78 (.len false (T 77)) 75 false, og 79 (.bin .neq (T 78) (ci 2)) 75 false, o 80 (.pick (T 75) (cb true) (T 79)), o 81 (mv 80), og 82 (fa 5 5) 81 false, og 83 (ld 82) 81 false, og 84 (.idxSl 8 (T 83) (ci 0)) 81 false, og 85 (fa 1 84) 81 false, og 86 (fa 1 85) 81 false, og 87 (ld 86) 81 false, og 88 (.bin .neq (T 87) (.c (aU 7))) 81 false, o 89 (.pick (T 81) (cb true) (T 88)), o 90 (mv 89), og 91 (fa 5 5) 90 false, og 92 (ld 91) 90 false, og 93 (.idxSl 8 (T 92) (ci 1)) 90 false, og 94 (fa 1 93) 90 false, og 95 (fa 3 94) 90 false, og 96 (ld 95) 90 false, og 97 (.len false (T 96)) 90 false, og 98 (.bin .neq (T 97) (ci 1)) 90 false, o 99 (.pick (T 90) (cb true) (T 98)), o 100 (mv 99), og 101 (mv 8) 100 false, og 102 (.bin .neq (T 101) (ci 0)) 100 false, o 103 (.pick (T 100) (cb true) (T 102)), o 104 (mv 103), og 105 (ln 4 3) 104 false, og 106 (ln 4 7) 104 false, og 107 (.call (cf 13) [(T 105), (T 106)]) 104 false, og 108 (.un .not (T 107)) 104 false, o 109 (.pick (T 104) (cb true) (T 108)), o 110 (mv 109), og 111 (mv 10) 110 false, og 112 (.bin .neq (T 111) (ci 14)) 110 false, o 113 (.pick (T 110) (cb true) (T 112))]
def r7_11 : LO := [o 0 (mb false)]
def k7_1 : ACode := .seq (.region r7_10) (.cond (T 113) (.seq (.region r7_11) .ret) .skip)
def r7_17 : LO := [o 114 (mv 11), o 115 (.bin .eql (T 114) (ci 0)), o 116 (mv 115), og 117 (mv 12) 116 true, og 118 (.len false (T 117)) 116 true, og 119 (.bin .eql (T 118) (ci 1)) 116 true, o 120 (.pick (T 116) (T 119) (cb false)), o 121 (mv 120), og 122 (mv 12) 121 true, og 123 (.idxSl 2 (T 122) (ci 0)) 121 true, og 124 (fa 0 123) 121 true, og 125 (ld 124) 121 true, og 126 (.bin .eql (T 125) (.c (aS ⟨#[105, 100]⟩))) 121 true, o 127 (.pick (T 121) (T 126) (cb false)), o 128 (mv 127), og 129 (mv 12) 128 true, og 130 (.idxSl 2 (T 129) (ci 0)) 128 true, og 131 (fa 1 130) 128 true, og 132 (ld 131) 128 true, og 133 (.bin .eql (T 132) (.c (aS ⟨#[32]⟩))) 128 true, o 134 (.pick (T 128) (T 133) (cb false)), o 135 (mv 134), og 136 (mv 13) 135 true, og 137 (.bin .eql (T 136) (ci 0)) 135 true, o 138 (.pick (T 135) (T 137) (cb false)), o 139 (mv 138), og 140 (mv 15) 139 true, og 141 (.bin .eql (T 140) (ci 2)) 139 true, o 142 (.pick (T 139) (T 141) (cb false)), o 143 (mv 142), og 144 (.call (cf 21) [(.c (aS ⟨#[97, 32, 47]⟩))]) 143 true, og 145 (.bin .eql (T 144) (.c (aS ⟨#[97, 37, 50, 48, 37, 50, 70]⟩))) 143 true, o 146 (.pick (T 143) (T 145) (cb false)), o 147 (mv 146), og 148 (fa 0 16) 147 true, og 149 (ld 148) 147 true, og 150 (.bin .eql (T 149) (ci 403)) 147 true, o 151 (.pick (T 147) (T 150) (cb false)), o 152 (mv 151), og 153 (fa 1 16) 152 true, og 154 (ld 153) 152 true, og 155 (.bin .eql (T 154) (.c (aS ⟨#[100, 101, 110, 105, 101, 100, 32, 110, 111]⟩))) 152 true, o 156 (.pick (T 152) (T 155) (cb false)), o 157 (mv 156), og 158 (fa 0 17) 157 true, og 159 (ld 158) 157 true, og 160 (.bin .eql (T 159) (ci 200)) 157 true, o 161 (.pick (T 157) (T 160) (cb false)), o 162 (mv 161), og 163 (fa 1 17) 162 true, og 164 (ld 163) 162 true, og 165 (.bin .eql (T 164) (.c (aS ⟨#[105, 100, 58, 32, 55, 32, 116, 97, 103, 58, 32, 34, 97, 32, 98, 34]⟩))) 162 true, o 166 (.pick (T 162) (T 165) (cb false)), o 167 (mv 166), og 168 (ln 3 1) 167 true, og 169 (ln 5 2) 167 true, og 170 (.sliceLit 5 1 [aE, aE, aE, aE, aE] [((0, 5), (T 169))]) 167 true, og 171 (.call (cf 8) [(T 168), (T 170)]) 167 true, og 172 (.bin .eql (T 171) (ci 0)) 167 true, o 173 (.pick (T 167) (T 172) (cb false)), o 174 (mv 173), og 175 (ln 3 1) 174 true, og 176 (ln 5 2) 174 true, og 177 (ln 5 2) 174 true, og 178 (.sliceLit 5 2 [aE, aE, aE, aE, aE, aE, aE, aE, aE, aE] [((0, 5), (T 176)), ((5, 5), (T 177))]) 174 true, og 179 (.call (cf 8) [(T 175), (T 178)]) 174 true, og 180 (.bin .eql (T 179) (ci 9)) 174 true, o 181 (.pick (T 174) (T 180) (cb false)), o 182 (mv 181), og 183 (.call (cf 22) [(ci 4)]) 182 true, og 184 (.bin .eql (T 183) (ci 404)) 182 true, o 185 (.pick (T 182) (T 184) (cb false)), o 0 (mv 185)]
def k7_2 : ACode := .seq (.region r7_8) (.seq (.region r7_9) (.seq k7_1 (.seq (.region r7_17) .ret)))
def k7_3 : ACode := .seq (.region r7_5) (.seq (.region r7_6) (.seq (.region r7_7) k7_2))
def k7_4 : ACode := .seq (.region r7_2) (.seq (.region r7_3) (.seq (.region r7_4) k7_3))
def k7_5 : ACode := .seq (.region r7_0) (.seq (.region r7_1) k7_4)
theorem fn7 : getFn Tryz.prog 7 = some (186, k7_5, [.tmp 0]) := by kernel_rfl
def r22_0 : LO := [o 2 (mi 0)]
def r22_1 : LO := [o 4 (.build [(aI 0), (aI 0), (aI 0), (aI 0), (aI 0), (aI 0), (aI 0), (aI 0), (aI 0), (aI 0), (aI 0), (aI 0), (aI 0), (aI 0)] [((0, 1), (ci 200)), ((1, 1), (ci 499)), ((2, 1), (ci 400)), ((3, 1), (ci 504)), ((4, 1), (ci 404)), ((5, 1), (ci 409)), ((6, 1), (ci 403)), ((7, 1), (ci 429)), ((8, 1), (ci 412)), ((9, 1), (ci 409)), ((10, 1), (ci 501)), ((11, 1), (ci 500)), ((12, 1), (ci 503)), ((13, 1), (ci 500))]), o 3 (.alloc [(aI 0), (aI 0), (aI 0), (aI 0), (aI 0), (aI 0), (aI 0), (aI 0), (aI 0), (aI 0), (aI 0), (aI 0), (aI 0), (aI 0)]), on (st 14 3 4)]
def r22_2 : LO := [o 5 (mv 0), o 6 (.bin .lss (T 5) (ci 0)), o 7 (mv 6), og 8 (mv 0) 7 false, og 9 (.bin .geq (T 8) (ci 14)) 7 false, o 10 (.pick (T 7) (cb true) (T 9))]
def r22_3 : LO := [o 2 (mi 500)]
def k22_1 : ACode := .seq (.region r22_2) (.cond (T 10) (.seq (.region r22_3) .ret) .skip)
def r22_9 : LO := [o 11 (mv 0), o 12 (.idxA 14 1 (T 3) (T 11)), o 13 (ld 12), o 2 (mv 13)]
def k22_2 : ACode := .seq (.region r22_1) (.seq k22_1 (.seq (.region r22_9) .ret))
def k22_3 : ACode := .seq (.region r22_0) k22_2
theorem fn22 : getFn Tryz.prog 22 = some (14, k22_3, [.tmp 2]) := by kernel_rfl
def r21_0 : LO := [o 2 (.mv (.c aE))]
def r21_1 : LO := [o 3 (.allocB 121 5)]
def r21_2 : LO := [o 6 (mv 0), o 7 (.len true (T 6)), o 8 (mi 0)]
def r21_3 : LO := [o 9 (.bin .lss (T 8) (T 7))]
def r21_7 : LO := [o 10 (mv 8), o 4 (mv 10)]
def r21_8 : LO := [o 11 (mv 0), o 12 (mv 4), o 13 (.idxS (T 11) (T 12)), o 5 (mv 13)]
def r21_9 : LO := [o 14 (mv 5), o 15 (.call (cf 50) [(T 14)])]
def r21_10 : LO := [o 16 (mv 5), o 17 (.call (cf 43) [(T 3), (T 16)])]
def r21_11 : LO := [o 18 (mv 5), o 19 (.bin .shr (T 18) (.c (aU 4))), o 20 (mv 5), o 21 (.bin .shr (T 20) (.c (aU 4))), o 22 (.bin .add (T 21) (.c (aC 1))), o 23 (.sliceS (.c (aS ⟨#[48, 49, 50, 51, 52, 53, 54, 55, 56, 57, 65, 66, 67, 68, 69, 70]⟩)) (some (T 19)) (some (T 22))), o 24 (.bin .add (.c (aS ⟨#[37]⟩)) (T 23)), o 25 (mv 5), o 26 (.bin .and (T 25) (.c (aC 15))), o 27 (mv 5), o 28 (.bin .and (T 27) (.c (aC 15))), o 29 (.bin .add (T 28) (.c (aC 1))), o 30 (.sliceS (.c (aS ⟨#[48, 49, 50, 51, 52, 53, 54, 55, 56, 57, 65, 66, 67, 68, 69, 70]⟩)) (some (T 26)) (some (T 29)))]
def r21_11t : LO := [o 31 (.bin .add (T 24) (T 30)), o 32 (.call (cf 51) [(T 3), (T 31)])]
def r21_11o : LN := [[], [0], [], [2], [3], [1, 4], [5], [], [7], [], [9], [10], [8, 11]]
def k21_1 : ACode := .cond (T 15) (.region r21_10) (.drawn r21_11o r21_11 r21_11t)
def k21_2 : ACode := .seq (.region r21_7) (.seq (.region r21_8) (.seq (.region r21_9) k21_1))
def r21_17 : LO := [o 33 (.bin .add (T 8) (ci 1)), o 8 (mv 33)]
def k21_3 : ACode := .seq (.cond (T 9) .skip (.exit 0)) (.seq (.block 1 k21_2) (.region r21_17))
def k21_4 : ACode := .seq (.region r21_3) k21_3
def r21_24 : LO := [o 34 (.call (cf 45) [(T 3)]), o 2 (mv 34)]
def k21_5 : ACode := .seq (.seq (.region r21_2) (.block 0 (.loop k21_4))) (.seq (.region r21_24) .ret)
def k21_6 : ACode := .seq (.region r21_0) (.seq (.region r21_1) k21_5)
theorem fn21 : getFn Tryz.prog 21 = some (35, k21_6, [.tmp 2]) := by kernel_rfl
def r51_0 : LO := [o 4 (mi 0), o 5 (.mv (.c (.v .nilIface)))]
def r51_1 : LO := [o 6 (mv 0), o 7 (.call (cf 106) [(T 6)])]
def r51_2 : LO := [o 8 (mv 0), o 9 (mv 0), o 10 (.nilCheck (T 9)), o 11 (fa 1 10), o 12 (ld 11), o 13 (mv 1), o 14 (.append 5 1 1 (T 12) (T 13)), o 15 (.nilCheck (T 8)), o 16 (fa 1 15), on (st 1 16 14)]
def r51_3 : LO := [o 17 (mv 1), o 18 (.len true (T 17)), o 4 (mv 18), o 5 (.mv (.c (.v .nilIface)))]
def k51_1 : ACode := .seq (.region r51_1) (.seq (.region r51_2) (.seq (.region r51_3) .ret))
def k51_2 : ACode := .seq (.region r51_0) k51_1
theorem fn51 : getFn Tryz.prog 51 = some (19, k51_2, [.tmp 4, .tmp 5]) := by kernel_rfl
def r50_0 : LO := [o 2 (mb false)]
def r50_1 : LO := [o 3 (mv 0), o 4 (.bin .geq (T 3) (.c (aC 97))), o 5 (mv 4), og 6 (mv 0) 5 true, og 7 (.bin .leq (T 6) (.c (aC 122))) 5 true, o 8 (.pick (T 5) (T 7) (cb false)), o 9 (mv 8), og 10 (mv 0) 9 false, og 11 (.bin .geq (T 10) (.c (aC 65))) 9 false, og 12 (mv 11) 9 false, og 13 (mv 0) 12 true, og 14 (.bin .leq (T 13) (.c (aC 90))) 12 true, og 15 (.pick (T 12) (T 14) (cb false)) 9 false, o 16 (.pick (T 9) (cb true) (T 15)), o 17 (mv 16), og 18 (mv 0) 17 false, og 19 (.bin .geq (T 18) (.c (aC 48))) 17 false, og 20 (mv 19) 17 false, og 21 (mv 0) 20 true, og 22 (.bin .leq (T 21) (.c (aC 57))) 20 true, og 23 (.pick (T 20) (T 22) (cb false)) 17 false, o 24 (.pick (T 17) (cb true) (T 23)), o 25 (mv 24), og 26 (mv 0) 25 false, og 27 (.bin .eql (T 26) (.c (aC 45))) 25 false, o 28 (.pick (T 25) (cb true) (T 27)), o 29 (mv 28), og 30 (mv 0) 29 false, og 31 (.bin .eql (T 30) (.c (aC 95))) 29 false, o 32 (.pick (T 29) (cb true) (T 31)), o 33 (mv 32), og 34 (mv 0) 33 false, og 35 (.bin .eql (T 34) (.c (aC 46))) 33 false, o 36 (.pick (T 33) (cb true) (T 35)), o 2 (mv 36)]
def k50_1 : ACode := .seq (.region r50_0) (.seq (.region r50_1) .ret)
theorem fn50 : getFn Tryz.prog 50 = some (37, k50_1, [.tmp 2]) := by kernel_rfl
def r45_0 : LO := [o 2 (.mv (.c aE))]
def r45_1 : LO := [o 3 (mv 0), o 4 (.nilCheck (T 3)), o 5 (fa 1 4), o 6 (ld 5), o 7 (.udata (T 6)), o 8 (mv 0), o 9 (.nilCheck (T 8)), o 10 (fa 1 9), o 11 (ld 10), o 12 (.len false (T 11))]
def r45_1t : LO := [o 13 (.ustr 5 (T 7) (T 12)), o 2 (mv 13)]
def r45_1o : LN := [[], [0], [1], [2], [3], [], [5], [6], [7], [8]]
def k45_1 : ACode := .seq (.region r45_0) (.seq (.drawn r45_1o r45_1 r45_1t) .ret)
theorem fn45 : getFn Tryz.prog 45 = some (14, k45_1, [.tmp 2]) := by kernel_rfl
def r43_0 : LO := [o 4 (.mv (.c (.v .nilIface)))]
def r43_1 : LO := [o 5 (mv 0), o 6 (.call (cf 106) [(T 5)])]
def r43_2 : LO := [o 7 (mv 0), o 8 (mv 0), o 9 (.nilCheck (T 8)), o 10 (fa 1 9), o 11 (ld 10), o 12 (mv 1), o 13 (.sliceLit 1 1 [(aC 0)] [((0, 1), (T 12))]), o 14 (.append 5 1 1 (T 11) (T 13)), o 15 (.nilCheck (T 7)), o 16 (fa 1 15), on (st 1 16 14)]
def r43_3 : LO := [o 4 (.mv (.c (.v .nilIface)))]
def k43_1 : ACode := .seq (.region r43_1) (.seq (.region r43_2) (.seq (.region r43_3) .ret))
def k43_2 : ACode := .seq (.region r43_0) k43_1
theorem fn43 : getFn Tryz.prog 43 = some (17, k43_2, [.tmp 4]) := by kernel_rfl
def r20_0 : LO := [o 4 (bx 0), o 6 (bx 2), o 7 (bx 3), o 8 (.alloc [(aI 0), aE])]
def r20_1 : LO := [o 14 (fa 0 6), o 15 (ld 14), o 16 (.bin .neq (T 15) (ci 0))]
def r20_2 : LO := [o 17 (ln 2 6), o 18 (.call (cf 46) [(T 17)]), on (st 2 8 18)]
def k20_1 : ACode := .seq (.region r20_1) (.cond (T 16) (.seq (.region r20_2) .ret) .skip)
def r20_8 : LO := [o 20 (ln 3 4), o 21 (mv 1), o 22 (.call (cf 36) [(T 20), (T 21)]), o 19 (mv 22), o 23 (.extract 0 (T 19)), o 24 (.extract 1 (T 19)), o 9 (.alloc [aE, aE, aE, (aI 0), .nil]), on (st 5 9 23), o 10 (mv 24)]
def r20_9 : LO := [o 25 (mv 10), o 26 (.bin .neq (T 25) (ci 0))]
def r20_10 : LO := [o 27 (mv 10), o 28 (.call (cf 47) [(T 27)]), o 29 (.call (cf 46) [(T 28)]), on (st 2 8 29)]
def k20_2 : ACode := .seq (.region r20_9) (.cond (T 26) (.seq (.region r20_10) .ret) .skip)
def r20_16 : LO := [o 31 (ln 3 4), o 32 (.call (cf 48) [(T 31)]), o 30 (mv 32), o 33 (.extract 0 (T 30)), o 34 (.extract 1 (T 30)), o 11 (.alloc [.nil, .nil]), on (st 2 11 33), o 12 (mv 34)]
def r20_17 : LO := [o 36 (ln 2 11), o 37 (fa 2 9), o 38 (ld 37), o 39 (ln 7 7), o 40 (.call (cf 49) [(T 36), (T 38), (T 39)]), o 35 (mv 40), o 41 (.extract 0 (T 35)), o 42 (.extract 1 (T 35)), o 13 (mv 41), o 10 (mv 42)]
def r20_18 : LO := [o 43 (mv 10), o 44 (.bin .neq (T 43) (ci 0))]
def r20_19 : LO := [o 45 (mv 10), o 46 (.call (cf 47) [(T 45)]), o 47 (.call (cf 46) [(T 46)]), on (st 2 8 47)]
def k20_3 : ACode := .seq (.region r20_18) (.cond (T 44) (.seq (.region r20_19) .ret) .skip)
def r20_25 : LO := [o 48 (fa 0 6), o 49 (ld 48), o 50 (.call (cf 22) [(T 49)]), o 51 (mv 13), o 52 (.build [(aI 0), aE] [((0, 1), (T 50)), ((1, 1), (T 51))]), on (st 2 8 52)]
def k20_4 : ACode := .seq (.region r20_17) (.seq k20_3 (.seq (.region r20_25) .ret))
def k20_5 : ACode := .seq (.region r20_8) (.seq k20_2 (.seq (.region r20_16) k20_4))
def k20_6 : ACode := .seq (.region r20_0) (.seq k20_1 k20_5)
theorem fn20 : getFn Tryz.prog 20 = some (53, k20_6, [.cell 8 (some 2)]) := by kernel_rfl
def r49_0 : LO := [o 3 (bx 0), o 5 (bx 2), o 6 (.mv (.c aE)), o 7 (mi 0)]
def r49_1 : LO := [o 13 (ln 2 3), o 14 (mv 1), o 15 (ln 7 5), o 16 (.call (cf 113) [(T 13), (T 14), (T 15)]), o 12 (mv 16), o 17 (.extract 0 (T 12)), o 18 (.extract 1 (T 12)), o 8 (mv 17), o 9 (mv 18)]
def r49_2 : LO := [o 19 (mv 9), o 20 (.bin .neq (T 19) (ci 0))]
def r49_3 : LO := [o 21 (mv 9), o 6 (.mv (.c aE)), o 7 (mv 21)]
def k49_1 : ACode := .seq (.region r49_2) (.cond (T 20) (.seq (.region r49_3) .ret) .skip)
def r49_9 : LO := [o 23 (mv 8), o 24 (.call (cf 114) [(T 23)]), o 22 (mv 24), o 25 (.extract 0 (T 22)), o 26 (.extract 1 (T 22)), o 10 (mv 25), o 11 (mv 26)]
def r49_10 : LO := [o 27 (mv 10), o 28 (.call (cf 116) [(T 27), (.c (aS ⟨#[32]⟩))]), o 29 (.call (cf 115) [(T 28)]), o 30 (.extract 0 (T 29)), o 31 (.extract 1 (T 29)), o 6 (mv 30), o 7 (mv 31)]
def k49_2 : ACode := .seq k49_1 (.seq (.region r49_9) (.seq (.region r49_10) .ret))
def k49_3 : ACode := .seq (.region r49_0) (.seq (.region r49_1) k49_2)
theorem fn49 : getFn Tryz.prog 49 = some (32, k49_3, [.tmp 6, .tmp 7]) := by kernel_rfl
def r116_0 : LO := [o 4 (.mv (.c aE))]
def r116_1 : LO := [o 11 (mv 0), o 12 (.len false (T 11))]
def r116_2 : LO := [o 14 (.bin .eql (T 12) (ci 0)), o 13 (mv 14)]
def r116_3 : LO := [o 4 (.mv (.c aE))]
def r116_6 : LO := [o 16 (.bin .eql (T 12) (ci 1)), o 15 (mv 16)]
def r116_7 : LO := [o 17 (mv 0), o 18 (.idxSl 1 (T 17) (ci 0)), o 19 (ld 18), o 4 (mv 19)]
def k116_1 : ACode := .seq (.region r116_6) (.cond (T 15) (.seq (.region r116_7) .ret) .skip)
def k116_2 : ACode := .seq (.region r116_2) (.cond (T 13) (.seq (.region r116_3) .ret) k116_1)
def r116_17 : LO := [o 5 (mi 0)]
def r116_18 : LO := [o 20 (mv 1), o 21 (.len true (T 20)), o 22 (.bin .gtr (T 21) (ci 0))]
def r116_19 : LO := [o 23 (mv 1), o 24 (.len true (T 23)), o 25 (mv 0), o 26 (.len false (T 25)), o 27 (.bin .sub (T 26) (ci 1)), o 28 (.bin .quo (ci 9223372036854775807) (T 27)), o 29 (.bin .geq (T 24) (T 28))]
def r116_20 : LO := [o 30 (.iface 9 (.c (aS ⟨#[115, 116, 114, 105, 110, 103, 115, 58, 32, 74, 111, 105, 110, 32, 111, 117, 116, 112, 117, 116, 32, 108, 101, 110, 103, 116, 104, 32, 111, 118, 101, 114, 102, 108, 111, 119]⟩))), on (.bad)]
def k116_3 : ACode := .seq (.region r116_19) (.cond (T 29) (.region r116_20) .skip)
def r116_24 : LO := [o 31 (mv 5), o 32 (mv 1), o 33 (.len true (T 32)), o 34 (mv 0), o 35 (.len false (T 34)), o 36 (.bin .sub (T 35) (ci 1)), o 37 (.bin .mul (T 33) (T 36)), o 38 (.bin .add (T 31) (T 37)), o 5 (mv 38)]
def k116_4 : ACode := .seq (.region r116_18) (.cond (T 22) (.seq k116_3 (.region r116_24)) .skip)
def r116_29 : LO := [o 39 (mv 0), o 40 (.len false (T 39)), o 41 (mi 0)]
def r116_30 : LO := [o 42 (.bin .lss (T 41) (T 40))]
def r116_34 : LO := [o 43 (.idxSl 1 (T 39) (T 41)), o 44 (ld 43), o 7 (mv 44)]
def r116_35 : LO := [o 45 (mv 7), o 46 (.len true (T 45)), o 47 (mv 5), o 48 (.bin .sub (ci 9223372036854775807) (T 47)), o 49 (.bin .gtr (T 46) (T 48))]
def r116_36 : LO := [o 50 (.iface 9 (.c (aS ⟨#[115, 116, 114, 105, 110, 103, 115, 58, 32, 74, 111, 105, 110, 32, 111, 117, 116, 112, 117, 116, 32, 108, 101, 110, 103, 116, 104, 32, 111, 118, 101, 114, 102, 108, 111, 119]⟩))), on (.bad)]
def k116_5 : ACode := .seq (.region r116_35) (.cond (T 49) (.region r116_36) .skip)
def r116_40 : LO := [o 51 (mv 5), o 52 (mv 7), o 53 (.len true (T 52)), o 54 (.bin .add (T 51) (T 53)), o 5 (mv 54)]
def k116_6 : ACode := .block 2 (.seq (.region r116_34) (.seq k116_5 (.region r116_40)))
def r116_44 : LO := [o 55 (.bin .add (T 41) (ci 1)), o 41 (mv 55)]
def k116_7 : ACode := .seq (.cond (T 42) .skip (.exit 1)) (.seq k116_6 (.region r116_44))
def k116_8 : ACode := .seq (.region r116_30) k116_7
def r116_51 : LO := [o 8 (.allocB 121 5)]
def r116_52 : LO := [o 56 (mv 5), o 57 (.call (cf 197) [(T 8), (T 56)])]
def r116_53 : LO := [o 58 (mv 0), o 59 (.idxSl 1 (T 58) (ci 0)), o 60 (ld 59), o 61 (.call (cf 51) [(T 8), (T 60)])]
def r116_54 : LO := [o 62 (mv 0), o 63 (.sliceV 1 (T 62) (some (ci 1)) none none), o 64 (.len false (T 63)), o 65 (mi 0)]
def r116_55 : LO := [o 66 (.bin .lss (T 65) (T 64))]
def r116_59 : LO := [o 67 (.idxSl 1 (T 63) (T 65)), o 68 (ld 67), o 10 (mv 68)]
def r116_60 : LO := [o 69 (mv 1), o 70 (.call (cf 51) [(T 8), (T 69)])]
def r116_61 : LO := [o 71 (mv 10), o 72 (.call (cf 51) [(T 8), (T 71)])]
def k116_9 : ACode := .seq (.region r116_59) (.seq (.region r116_60) (.region r116_61))
def r116_65 : LO := [o 73 (.bin .add (T 65) (ci 1)), o 65 (mv 73)]
def k116_10 : ACode := .seq (.cond (T 66) .skip (.exit 3)) (.seq (.block 4 k116_9) (.region r116_65))
def k116_11 : ACode := .seq (.region r116_55) k116_10
def r116_72 : LO := [o 74 (.call (cf 45) [(T 8)]), o 4 (mv 74)]
def k116_12 : ACode := .seq (.seq (.region r116_54) (.block 3 (.loop k116_11))) (.seq (.region r116_72) .ret)
def k116_13 : ACode := .seq (.region r116_51) (.seq (.region r116_52) (.seq (.region r116_53) k116_12))
def k116_14 : ACode := .seq (.seq (.region r116_29) (.block 1 (.loop k116_8))) k116_13
def k116_15 : ACode := .seq (.seq (.region r116_1) (.block 0 k116_2)) (.seq (.region r116_17) (.seq k116_4 k116_14))
def k116_16 : ACode := .seq (.region r116_0) k116_15
theorem fn116 : getFn Tryz.prog 116 = some (75, k116_16, [.tmp 4]) := by kernel_rfl
def r197_0 : LO := [o 4 (mv 0), o 5 (.call (cf 106) [(T 4)])]
def r197_1 : LO := [o 6 (mv 1), o 7 (.bin .lss (T 6) (ci 0))]
def r197_2 : LO := [o 8 (.iface 9 (.c (aS ⟨#[115, 116, 114, 105, 110, 103, 115, 46, 66, 117, 105, 108, 100, 101, 114, 46, 71, 114, 111, 119, 58, 32, 110, 101, 103, 97, 116, 105, 118, 101, 32, 99, 111, 117, 110, 116]⟩))), on (.bad)]
def r197_6 : LO := [o 9 (mv 0), o 10 (.nilCheck (T 9)), o 11 (fa 1 10), o 12 (ld 11), o 13 (.cap0 (T 12)), o 14 (mv 0), o 15 (.nilCheck (T 14)), o 16 (fa 1 15), o 17 (ld 16), o 18 (.len false (T 17)), o 19 (.bin .sub (T 13) (T 18)), o 20 (mv 1)]
def r197_6t : LO := [o 21 (.bin .lss (T 19) (T 20))]
def r197_6o : LN := [[], [0], [1], [2], [3], [], [5], [6], [7], [8], [4, 9], []]
def r197_7 : LO := [o 22 (mv 0), o 23 (mv 1), o 24 (.call (cf 275) [(T 22), (T 23)])]
def k197_1 : ACode := .seq (.drawn r197_6o r197_6 r197_6t) (.cond (T 21) (.region r197_7) .skip)
def k197_2 : ACode := .seq (.seq (.region r197_1) (.cond (T 7) (.region r197_2) .skip)) k197_1
def k197_3 : ACode := .seq (.region r197_0) k197_2
theorem fn197 : getFn Tryz.prog 197 = some (25, k197_3, []) := by kernel_rfl
def r275_0 : LO := [o 5 (mv 0), o 6 (.nilCheck (T 5)), o 7 (fa 1 6), o 8 (ld 7), o 9 (.cap0 (T 8)), o 10 (.bin .mul (ci 2) (T 9)), o 11 (mv 1), o 12 (.bin .add (T 10) (T 11)), o 13 (.mknz 5 (T 12)), o 14 (mv 0), o 15 (.nilCheck (T 14)), o 16 (fa 1 15), o 17 (ld 16), o 18 (.len false (T 17))]
def r275_0t : LO := [o 19 (.sliceV 1 (T 13) none (some (T 18)) none), o 4 (mv 19)]
def r275_0o : LN := [[], [0], [1], [2], [3], [4], [], [5, 6], [7], [], [9], [10], [11], [12]]
def r275_1 : LO := [o 20 (mv 4), o 21 (mv 0), o 22 (.nilCheck (T 21)), o 23 (fa 1 22), o 24 (ld 23), o 25 (.copy0 (T 20) (T 24))]
def r275_2 : LO := [o 26 (mv 0), o 27 (mv 4), o 28 (.nilCheck (T 26)), o 29 (fa 1 28), on (st 1 29 27)]
def k275_1 : ACode := .seq (.drawn r275_0o r275_0 r275_0t) (.seq (.region r275_1) (.region r275_2))
theorem fn275 : getFn Tryz.prog 275 = some (30, k275_1, []) := by kernel_rfl
def r115_0 : LO := [o 2 (.mv (.c aE)), o 3 (mi 0)]
def r115_1 : LO := [o 4 (mv 0), o 5 (.len true (T 4)), o 6 (.bin .gtr (T 5) (ci 262144))]
def r115_2 : LO := [o 2 (.mv (.c aE)), o 3 (mi 3)]
def k115_1 : ACode := .seq (.region r115_1) (.cond (T 6) (.seq (.region r115_2) .ret) .skip)
def r115_8 : LO := [o 7 (mv 0), o 2 (mv 7), o 3 (mi 0)]
def k115_2 : ACode := .seq (.region r115_0) (.seq k115_1 (.seq (.region r115_8) .ret))
theorem fn115 : getFn Tryz.prog 115 = some (8, k115_2, [.tmp 2, .tmp 3]) := by kernel_rfl
def r114_0 : LO := [o 2 (.mv (.c .nil)), o 3 (.mv (.c .nil))]
def r114_1 : LO := [o 4 (.mv (.c .nil))]
def r114_2 : LO := [o 5 (.mv (.c .nil))]
def r114_3 : LO := [o 6 (mi 0)]
def r114_4 : LO := [o 14 (mv 0), o 15 (.nilCheck (T 14)), o 16 (fa 2 15), o 17 (ld 16), o 18 (.len false (T 17)), o 19 (mi 0)]
def r114_5 : LO := [o 20 (.bin .lss (T 19) (T 18))]
def r114_9 : LO := [o 21 (.idxSl 1 (T 17) (T 19)), o 22 (ld 21), o 8 (mv 22)]
def r114_10 : LO := [o 23 (mv 6), o 9 (mv 23)]
def r114_11 : LO := [o 10 (.mv (.c (aS ⟨#[125]⟩)))]
def r114_12 : LO := [o 24 (mv 8)]
def r114_13 : LO := [o 25 (.assertT 292 true (.agg [aE, aE]) (T 24)), o 26 (.extract 1 (T 25)), o 27 (.extract 0 (T 25))]
def r114_14 : LO := [o 11 (.alloc [aE, aE]), on (st 2 11 27)]
def r114_15 : LO := [o 28 (fa 0 11), o 29 (ld 28), o 30 (.bin .add (T 29) (.c (aS ⟨#[58, 32]⟩))), o 31 (fa 1 11), o 32 (ld 31), o 33 (.bin .add (T 30) (T 32)), o 10 (mv 33)]
def r114_17 : LO := [o 34 (.assertT 294 true (.agg [aE]) (T 24)), o 35 (.extract 1 (T 34)), o 36 (.extract 0 (T 34))]
def r114_18 : LO := [o 12 (.alloc [aE]), on (st 1 12 36)]
def r114_19 : LO := [o 37 (fa 0 12), o 38 (ld 37), o 39 (.bin .add (T 38) (.c (aS ⟨#[32, 123]⟩))), o 10 (mv 39)]
def r114_20 : LO := [o 40 (mv 6), o 41 (.bin .add (T 40) (ci 1)), o 6 (mv 41)]
def k114_1 : ACode := .seq (.region r114_18) (.seq (.region r114_19) (.region r114_20))
def r114_23 : LO := [o 42 (.assertT 296 true (.agg []) (T 24)), o 43 (.extract 1 (T 42)), o 44 (.extract 0 (T 42))]
def r114_24 : LO := [o 13 (.alloc []), on (st 0 13 44)]
def r114_25 : LO := [o 45 (mv 6), o 46 (.bin .sub (T 45) (ci 1)), o 6 (mv 46)]
def r114_26 : LO := [o 47 (mv 6), o 9 (mv 47)]
def k114_2 : ACode := .seq (.region r114_24) (.seq (.region r114_25) (.region r114_26))
def k114_3 : ACode := .cond (T 35) k114_1 (.seq (.region r114_23) (.cond (T 43) k114_2 .skip))
def k114_4 : ACode := .cond (T 26) (.seq (.region r114_14) (.region r114_15)) (.seq (.region r114_17) k114_3)
def k114_5 : ACode := .seq (.region r114_12) (.block 2 (.seq (.region r114_13) k114_4))
def r114_38 : LO := [o 48 (mv 4), o 49 (mv 10), o 50 (.sliceLit 1 1 [aE] [((0, 1), (T 49))]), o 51 (.append 9 1 16 (T 48) (T 50)), o 52 (mv 5), o 53 (mv 9), o 54 (.sliceLit 1 1 [(aI 0)] [((0, 1), (T 53))]), o 55 (.append 3 1 8 (T 52) (T 54)), o 4 (mv 51), o 5 (mv 55)]
def k114_6 : ACode := .seq (.region r114_10) (.seq (.region r114_11) (.seq k114_5 (.region r114_38)))
def r114_44 : LO := [o 56 (.bin .add (T 19) (ci 1)), o 19 (mv 56)]
def k114_7 : ACode := .seq (.block 1 (.seq (.region r114_9) k114_6)) (.region r114_44)
def k114_8 : ACode := .seq (.region r114_5) (.seq (.cond (T 20) .skip (.exit 0)) k114_7)
def r114_51 : LO := [o 57 (mv 4), o 58 (mv 5), o 2 (mv 57), o 3 (mv 58)]
def k114_9 : ACode := .seq (.seq (.region r114_4) (.block 0 (.loop k114_8))) (.seq (.region r114_51) .ret)
def k114_10 : ACode := .seq (.region r114_1) (.seq (.region r114_2) (.seq (.region r114_3) k114_9))
def k114_11 : ACode := .seq (.region r114_0) k114_10
theorem fn114 : getFn Tryz.prog 114 = some (59, k114_11, [.tmp 2, .tmp 3]) := by kernel_rfl
def r113_0 : LO := [o 3 (bx 0), o 5 (bx 2), o 6 (.mv (.c (.v (.pointer none)))), o 7 (mi 0)]
def r113_1 : LO := [o 13 (ln 2 3), o 14 (mv 1), o 15 (.call (cf 162) [(T 13), (T 14)]), o 12 (mv 15), o 16 (.extract 0 (T 12)), o 17 (.extract 1 (T 12)), o 8 (mv 16), o 9 (mv 17)]
def r113_2 : LO := [o 18 (mv 9), o 19 (.un .not (T 18))]
def r113_3 : LO := [o 6 (.mv (.c (.v (.pointer none)))), o 7 (mi 10)]
def k113_1 : ACode := .seq (.region r113_2) (.cond (T 19) (.seq (.region r113_3) .ret) .skip)
def r113_9 : LO := [o 20 (ln 2 3), o 21 (mv 8), o 22 (ln 7 5), o 23 (.call (cf 193) [(T 20), (T 21), (T 22)]), o 10 (mv 23)]
def r113_10 : LO := [o 24 (mv 10), o 25 (.bin .neq (T 24) (ci 0))]
def r113_11 : LO := [o 26 (mv 10), o 6 (.mv (.c (.v (.pointer none)))), o 7 (mv 26)]
def k113_2 : ACode := .seq (.region r113_10) (.cond (T 25) (.seq (.region r113_11) .ret) .skip)
def r113_18 : LO := [o 27 (ln 7 5), o 28 (.call (cf 194) [(T 27)])]
def r113_19 : LO := [o 6 (.mv (.c (.v (.pointer none)))), o 7 (mi 18)]
def k113_3 : ACode := .seq (.region r113_18) (.cond (T 28) (.seq (.region r113_19) .ret) .skip)
def r113_25 : LO := [o 29 (ln 2 3), o 30 (.build [.nil, .nil, .nil] [((0, 2), (T 29))]), o 31 (bx 30), o 11 (mv 31)]
def r113_26 : LO := [o 32 (mv 11), o 33 (mv 8), o 34 (ln 2 3), o 35 (mv 8), o 36 (ln 7 5), o 37 (.call (cf 196) [(T 34), (T 35), (T 36)]), o 38 (.call (cf 195) [(T 32), (T 33), (T 37)])]
def r113_27 : LO := [o 39 (mv 11), o 6 (mv 39), o 7 (mi 0)]
def k113_4 : ACode := .seq (.region r113_25) (.seq (.region r113_26) (.seq (.region r113_27) .ret))
def k113_5 : ACode := .seq k113_1 (.seq (.seq (.region r113_9) k113_2) (.seq k113_3 k113_4))
def k113_6 : ACode := .seq (.region r113_0) (.seq (.region r113_1) k113_5)
theorem fn113 : getFn Tryz.prog 113 = some (40, k113_6, [.tmp 6, .tmp 7]) := by kernel_rfl
def r196_0 : LO := [o 3 (bx 0), o 5 (bx 2), o 6 (.alloc zV)]
def r196_1 : LO := [o 14 (fa 6 5), o 15 (ld 14), o 16 (.call (cf 96) [(T 15)]), o 17 (.build zV [((0, 1), (ci 10)), ((6, 1), (T 16))]), o 7 (.alloc zV), on (st 7 7 17)]
def r196_2 : LO := [o 18 (mv 1), o 19 (.bin .lss (T 18) (ci 0)), o 20 (mv 19), og 21 (mv 1) 20 false, og 22 (fa 0 3) 20 false, og 23 (ld 22) 20 false, og 24 (.len false (T 23)) 20 false, og 25 (.bin .geq (T 21) (T 24)) 20 false, o 26 (.pick (T 20) (cb true) (T 25))]
def r196_3 : LO := [o 27 (ln 7 7), on (st 7 6 27)]
def k196_1 : ACode := .seq (.region r196_2) (.cond (T 26) (.seq (.region r196_3) .ret) .skip)
def r196_9 : LO := [o 28 (fa 5 5), o 29 (ld 28), o 30 (.call (cf 97) [(T 29)]), o 31 (.len false (T 30)), o 32 (mi 0)]
def r196_10 : LO := [o 33 (.bin .lss (T 32) (T 31))]
def r196_14 : LO := [o 34 (.idxSl 8 (T 30) (T 32)), o 35 (ln 8 34), o 9 (.alloc [(aI 0), (aI 0), (aU 0), aE, .nil, .nil, .nil, .nil]), on (st 8 9 35)]
def r196_15 : LO := [o 37 (fa 0 3), o 38 (ld 37), o 39 (mv 1), o 40 (.idxSl 3 (T 38) (T 39)), o 41 (ln 3 40), o 42 (fa 0 9), o 43 (ld 42), o 44 (.call (cf 163) [(T 41), (T 43)]), o 36 (mv 44), o 45 (.extract 0 (T 36)), o 46 (.extract 1 (T 36)), o 10 (.alloc [(aI 0), aE, aE, (aI 0), (aI 0), (aI 0), (aI 0), (aI 0)]), on (st 8 10 45)]
def r196_15t : LO := [o 11 (mv 46)]
def r196_15o : LN := [[], [0], [], [1, 2], [3], [], [5], [4, 6], [7], [8], [8], [], [0, 1, 2, 3, 4, 5, 6, 7, 8, 9, 11]]
def r196_16 : LO := [o 47 (fa 3 10), o 48 (ld 47), o 49 (.bin .eql (T 48) (ci 3)), o 50 (mv 49), og 51 (fa 3 10) 50 false, og 52 (ld 51) 50 false, og 53 (.bin .eql (T 52) (ci 4)) 50 false, o 54 (.pick (T 50) (cb true) (T 53)), o 55 (mv 54), og 56 (fa 3 10) 55 false, og 57 (ld 56) 55 false, og 58 (.bin .eql (T 57) (ci 5)) 55 false, o 59 (.pick (T 55) (cb true) (T 58)), o 12 (mv 59)]
def r196_17 : LO := [o 60 (ln 2 3), o 61 (ln 8 10), o 62 (fa 1 9), o 63 (ln 7 62), o 64 (.call (cf 272) [(T 60), (T 61), (T 63)]), o 13 (.alloc zV), on (st 7 13 64)]
def r196_18 : LO := [o 65 (mv 12), o 66 (.un .not (T 65)), o 67 (mv 66), og 68 (ln 7 13) 67 false, og 69 (.call (cf 273) [(T 68)]) 67 false, og 70 (.un .not (T 69)) 67 false, o 71 (.pick (T 67) (cb true) (T 70))]
def r196_19 : LO := [o 72 (fa 5 7), o 73 (ld 72), o 74 (fa 0 9), o 75 (ld 74), o 76 (ln 7 13), o 77 (.build [(aI 0), (aI 0), (aU 0), aE, .nil, .nil, .nil, .nil] [((0, 1), (T 75)), ((1, 7), (T 76))]), o 78 (.sliceLit 8 1 [(aI 0), (aI 0), (aU 0), aE, .nil, .nil, .nil, .nil] [((0, 8), (T 77))]), o 79 (.append 67 8 136 (T 73) (T 78)), o 80 (fa 5 7), on (st 1 80 79)]
def k196_2 : ACode := .seq (.region r196_18) (.cond (T 71) (.region r196_19) .skip)
def k196_3 : ACode := .seq (.drawn r196_15o r196_15 r196_15t) (.seq (.region r196_16) (.seq (.region r196_17) k196_2))
def r196_28 : LO := [o 81 (.bin .add (T 32) (ci 1)), o 32 (mv 81)]
def k196_4 : ACode := .seq (.block 1 (.seq (.region r196_14) k196_3)) (.region r196_28)
def k196_5 : ACode := .seq (.region r196_10) (.seq (.cond (T 33) .skip (.exit 0)) k196_4)
def r196_35 : LO := [o 82 (fa 6 7), o 83 (ld 82), o 84 (.call (cf 100) [(T 83), (cf 274)])]
def r196_36 : LO := [o 85 (ln 7 7), on (st 7 6 85)]
def k196_6 : ACode := .seq (.seq (.region r196_9) (.block 0 (.loop k196_5))) (.seq (.region r196_35) (.seq (.region r196_36) .ret))
def k196_7 : ACode := .seq (.region r196_0) (.seq (.region r196_1) (.seq k196_1 k196_6))
theorem fn196 : getFn Tryz.prog 196 = some (86, k196_7, [.cell 6 (some 7)]) := by kernel_rfl
def r102_0 : LO := [o 4 (mi 0)]
def r102_1 : LO := [o 7 (mv 0), o 8 (.call (cf 182) [(T 7)]), o 5 (mv 8)]
def r102_2 : LO := [o 9 (mv 1), o 10 (.call (cf 182) [(T 9)]), o 6 (mv 10)]
def r102_3 : LO := [o 11 (mv 5)]
def r102_4 : LO := [o 12 (mv 6)]
def r102_5 : LO := [o 4 (mi 0)]
def k102_1 : ACode := .seq (.region r102_4) (.cond (T 12) (.seq (.region r102_5) .ret) .skip)
def r102_11 : LO := [o 4 (mi (-1))]
def k102_2 : ACode := .cond (T 11) (.seq k102_1 (.seq (.region r102_11) .ret)) .skip
def r102_18 : LO := [o 13 (mv 6)]
def r102_19 : LO := [o 4 (mi 1)]
def k102_3 : ACode := .seq (.region r102_18) (.cond (T 13) (.seq (.region r102_19) .ret) .skip)
def r102_25 : LO := [o 14 (mv 0), o 15 (mv 1), o 16 (.bin .lss (T 14) (T 15))]
def r102_26 : LO := [o 4 (mi (-1))]
def k102_4 : ACode := .seq (.region r102_25) (.cond (T 16) (.seq (.region r102_26) .ret) .skip)
def r102_32 : LO := [o 17 (mv 0), o 18 (mv 1), o 19 (.bin .gtr (T 17) (T 18))]
def r102_33 : LO := [o 4 (mi 1)]
def k102_5 : ACode := .seq (.region r102_32) (.cond (T 19) (.seq (.region r102_33) .ret) .skip)
def r102_39 : LO := [o 4 (mi 0)]
def k102_6 : ACode := .seq k102_3 (.seq k102_4 (.seq k102_5 (.seq (.region r102_39) .ret)))
def k102_7 : ACode := .seq (.region r102_2) (.seq (.seq (.region r102_3) k102_2) k102_6)
def k102_8 : ACode := .seq (.region r102_0) (.seq (.region r102_1) k102_7)
theorem fn102 : getFn Tryz.prog 102 = some (20, k102_8, [.tmp 4]) := by kernel_rfl
def r182_0 : LO := [o 2 (mb false)]
def r182_1 : LO := [o 3 (mv 0), o 4 (mv 0), o 5 (.bin .neq (T 3) (T 4)), o 2 (mv 5)]
def k182_1 : ACode := .seq (.region r182_0) (.seq (.region r182_1) .ret)
theorem fn182 : getFn Tryz.prog 182 = some (6, k182_1, [.tmp 2]) := by kernel_rfl
def r273_0 : LO := [o 1 (bx 0), o 2 (mb false)]
def r273_1 : LO := [o 3 (fa 0 1), o 4 (ld 3), o 5 (.bin .eql (T 4) (ci 11)), o 6 (mv 5), og 7 (fa 3 1) 6 true, og 8 (ld 7) 6 true, og 9 (.len false (T 8)) 6 true, og 10 (.bin .eql (T 9) (ci 0)) 6 true, o 11 (.pick (T 6) (T 10) (cb false)), o 12 (mv 11), og 13 (fa 0 1) 12 false, og 14 (ld 13) 12 false, og 15 (.bin .eql (T 14) (ci 12)) 12 false, og 16 (mv 15) 12 false, og 17 (fa 4 1) 16 true, og 18 (ld 17) 16 true, og 19 (.len false (T 18)) 16 true, og 20 (.bin .eql (T 19) (ci 0)) 16 true, og 21 (.pick (T 16) (T 20) (cb false)) 12 false, o 22 (.pick (T 12) (cb true) (T 21)), o 23 (mv 22), og 24 (ln 7 1) 23 false, og 25 (.call (cf 180) [(T 24)]) 23 false, o 26 (.pick (T 23) (cb true) (T 25)), o 2 (mv 26)]
def k273_1 : ACode := .seq (.region r273_0) (.seq (.region r273_1) .ret)
theorem fn273 : getFn Tryz.prog 273 = some (27, k273_1, [.tmp 2]) := by kernel_rfl
def r180_0 : LO := [o 1 (bx 0), o 2 (mb false)]
def r180_1 : LO := [o 3 (fa 0 1), o 4 (ld 3), o 5 (.call (cf 164) [(T 4)]), o 6 (mv 5), og 7 (ln 7 1) 6 true, og 8 (.call (cf 252) [(T 7)]) 6 true, o 9 (.pick (T 6) (T 8) (cb false)), o 10 (mv 9), og 11 (fa 1 1) 10 true, og 12 (ld 11) 10 true, og 13 (.bin .eql (T 12) (.c (aU 0))) 10 true, o 14 (.pick (T 10) (T 13) (cb false)), o 15 (mv 14), og 16 (fa 2 1) 15 true, og 17 (ld 16) 15 true, og 18 (.bin .eql (T 17) (.c aE)) 15 true, o 19 (.pick (T 15) (T 18) (cb false)), o 2 (mv 19)]
def k180_1 : ACode := .seq (.region r180_0) (.seq (.region r180_1) .ret)
theorem fn180 : getFn Tryz.prog 180 = some (20, k180_1, [.tmp 2]) := by kernel_rfl
def r252_0 : LO := [o 1 (bx 0), o 2 (mb false)]
def r252_1 : LO := [o 3 (fa 3 1), o 4 (ld 3), o 5 (.len false (T 4)), o 6 (fa 4 1), o 7 (ld 6), o 8 (.len false (T 7)), o 9 (.bin .add (T 5) (T 8)), o 10 (fa 5 1), o 11 (ld 10), o 12 (.len false (T 11)), o 13 (.bin .add (T 9) (T 12)), o 14 (fa 6 1), o 15 (ld 14), o 16 (.len false (T 15)), o 17 (.bin .add (T 13) (T 16)), o 18 (.bin .gtr (T 17) (ci 0))]
def r252_2 : LO := [o 2 (mb false)]
def k252_1 : ACode := .seq (.region r252_1) (.cond (T 18) (.seq (.region r252_2) .ret) .skip)
def r252_8 : LO := [o 19 (fa 0 1), o 20 (ld 19), o 21 (.call (cf 299) [(T 20)])]
def r252_9 : LO := [o 22 (fa 1 1), o 23 (ld 22), o 24 (.bin .eql (T 23) (.c (aU 0))), o 2 (mv 24)]
def k252_2 : ACode := .seq (.region r252_8) (.cond (T 21) (.seq (.region r252_9) .ret) .skip)
def r252_15 : LO := [o 25 (fa 2 1), o 26 (ld 25), o 27 (.bin .eql (T 26) (.c aE)), o 2 (mv 27)]
def k252_3 : ACode := .seq (.region r252_0) (.seq k252_1 (.seq k252_2 (.seq (.region r252_15) .ret)))
theorem fn252 : getFn Tryz.prog 252 = some (28, k252_3, [.tmp 2]) := by kernel_rfl
def r299_0 : LO := [o 2 (mb false)]
def r299_1 : LO := [o 3 (mv 0), o 4 (.bin .eql (T 3) (ci 7)), o 5 (mv 4), og 6 (mv 0) 5 false, og 7 (.bin .eql (T 6) (ci 8)) 5 false, o 8 (.pick (T 5) (cb true) (T 7)), o 2 (mv 8)]
def k299_1 : ACode := .seq (.region r299_0) (.seq (.region r299_1) .ret)
theorem fn299 : getFn Tryz.prog 299 = some (9, k299_1, [.tmp 2]) := by kernel_rfl
def r164_0 : LO := [o 2 (mb false)]
def r164_1 : LO := [o 3 (mv 0), o 4 (.bin .geq (T 3) (ci 1)), o 5 (mv 4), og 6 (mv 0) 5 true, og 7 (.bin .leq (T 6) (ci 9)) 5 true, o 8 (.pick (T 5) (T 7) (cb false)), o 2 (mv 8)]
def k164_1 : ACode := .seq (.region r164_0) (.seq (.region r164_1) .ret)
theorem fn164 : getFn Tryz.prog 164 = some (9, k164_1, [.tmp 2]) := by kernel_rfl
def r272_0 : LO := [o 3 (bx 0), o 4 (bx 1), o 5 (bx 2), o 6 (.alloc zV)]
def r272_1 : LO := [o 13 (fa 3 4), o 14 (ld 13)]
def r272_2 : LO := [o 16 (.bin .eql (T 14) (ci 4)), o 15 (mv 16)]
def r272_3 : LO := [o 17 (.build zV [((0, 1), (ci 11))]), o 7 (.alloc zV), on (st 7 7 17)]
def r272_4 : LO := [o 18 (fa 3 5), o 19 (ld 18), o 20 (.len false (T 19)), o 21 (mi 0)]
def r272_5 : LO := [o 22 (.bin .lss (T 21) (T 20))]
def r272_9 : LO := [o 23 (.idxSl 7 (T 19) (T 21)), o 24 (ln 7 23), o 9 (.alloc zV), on (st 7 9 24)]
def r272_10 : LO := [o 25 (fa 3 7), o 26 (ld 25), o 27 (ln 2 3), o 28 (ln 8 4), o 29 (ln 7 9), o 30 (.call (cf 356) [(T 27), (T 28), (T 29)]), o 31 (.sliceLit 7 1 zV [((0, 7), (T 30))])]
def r272_10t : LO := [o 32 (.append 54 7 128 (T 26) (T 31)), o 33 (fa 3 7), on (st 1 33 32)]
def r272_10o : LN := [[], [0], [], [], [], [2, 3, 4], [5]]
def k272_1 : ACode := .block 2 (.seq (.region r272_9) (.drawn r272_10o r272_10 r272_10t))
def r272_13 : LO := [o 34 (.bin .add (T 21) (ci 1)), o 21 (mv 34)]
def k272_2 : ACode := .seq (.cond (T 22) .skip (.exit 1)) (.seq k272_1 (.region r272_13))
def k272_3 : ACode := .seq (.region r272_5) k272_2
def r272_20 : LO := [o 35 (ln 7 7), on (st 7 6 35)]
def k272_4 : ACode := .seq (.seq (.region r272_4) (.block 1 (.loop k272_3))) (.seq (.region r272_20) .ret)
def r272_25 : LO := [o 37 (.bin .eql (T 14) (ci 5)), o 36 (mv 37)]
def r272_26 : LO := [o 38 (.build zV [((0, 1), (ci 12))]), o 10 (.alloc zV), on (st 7 10 38)]
def r272_27 : LO := [o 39 (fa 4 5), o 40 (ld 39), o 41 (.call (cf 178) [(T 40)]), o 42 (.len false (T 41)), o 43 (mi 0)]
def r272_28 : LO := [o 44 (.bin .lss (T 43) (T 42))]
def r272_32 : LO := [o 45 (.idxSl 14 (T 41) (T 43)), o 46 (ln 14 45), o 12 (.alloc [(aI 0), (aU 0), aE, .nil, .nil, .nil, .nil, (aI 0), (aU 0), aE, .nil, .nil, .nil, .nil]), on (st 14 12 46)]
def r272_33 : LO := [o 47 (fa 4 10), o 48 (ld 47), o 49 (fa 0 12), o 50 (ln 7 49), o 51 (.call (cf 179) [(T 50)]), o 52 (ln 2 3), o 53 (ln 8 4), o 54 (fa 7 12), o 55 (ln 7 54), o 56 (.call (cf 356) [(T 52), (T 53), (T 55)]), o 57 (.build [(aI 0), (aU 0), aE, .nil, .nil, .nil, .nil, (aI 0), (aU 0), aE, .nil, .nil, .nil, .nil] [((0, 7), (T 51)), ((7, 7), (T 56))]), o 58 (.sliceLit 14 1 [(aI 0), (aU 0), aE, .nil, .nil, .nil, .nil, (aI 0), (aU 0), aE, .nil, .nil, .nil, .nil] [((0, 14), (T 57))])]
def r272_33t : LO := [o 59 (.append 269 14 256 (T 48) (T 58)), o 60 (fa 4 10), on (st 1 60 59)]
def r272_33o : LN := [[], [0], [], [2], [3], [], [], [], [7], [4, 5, 6, 8], [4, 9], [10]]
def k272_5 : ACode := .block 4 (.seq (.region r272_32) (.drawn r272_33o r272_33 r272_33t))
def r272_36 : LO := [o 61 (.bin .add (T 43) (ci 1)), o 43 (mv 61)]
def k272_6 : ACode := .seq (.cond (T 44) .skip (.exit 3)) (.seq k272_5 (.region r272_36))
def k272_7 : ACode := .seq (.region r272_28) k272_6
def r272_43 : LO := [o 62 (ln 7 10), on (st 7 6 62)]
def k272_8 : ACode := .seq (.seq (.region r272_27) (.block 3 (.loop k272_7))) (.seq (.region r272_43) .ret)
def k272_9 : ACode := .seq (.region r272_25) (.cond (T 36) (.seq (.region r272_26) k272_8) .skip)
def k272_10 : ACode := .seq (.region r272_2) (.cond (T 15) (.seq (.region r272_3) k272_4) k272_9)
def r272_55 : LO := [o 63 (ln 2 3), o 64 (ln 8 4), o 65 (ln 7 5), o 66 (.call (cf 356) [(T 63), (T 64), (T 65)]), on (st 7 6 66)]
def k272_11 : ACode := .seq (.seq (.region r272_1) (.block 0 k272_10)) (.seq (.region r272_55) .ret)
def k272_12 : ACode := .seq (.region r272_0) k272_11
theorem fn272 : getFn Tryz.prog 272 = some (67, k272_12, [.cell 6 (some 7)]) := by kernel_rfl
def r356_0 : LO := [o 3 (bx 0), o 4 (bx 1), o 5 (bx 2), o 6 (.alloc zV)]
def r356_1 : LO := [o 7 (fa 5 4), o 8 (ld 7), o 9 (.bin .eql (T 8) (ci 10))]
def r356_2 : LO := [o 10 (ln 2 3), o 11 (fa 6 4), o 12 (ld 11), o 13 (ln 7 5), o 14 (.call (cf 196) [(T 10), (T 12), (T 13)]), on (st 7 6 14)]
def k356_1 : ACode := .seq (.region r356_1) (.cond (T 9) (.seq (.region r356_2) .ret) .skip)
def r356_8 : LO := [o 15 (ln 7 5), o 16 (.call (cf 179) [(T 15)]), on (st 7 6 16)]
def k356_2 : ACode := .seq (.region r356_0) (.seq k356_1 (.seq (.region r356_8) .ret))
theorem fn356 : getFn Tryz.prog 356 = some (17, k356_2, [.cell 6 (some 7)]) := by kernel_rfl
def r179_0 : LO := [o 1 (bx 0), o 2 (.alloc zV)]
def r179_1 : LO := [o 3 (fa 0 1), o 4 (ld 3), o 5 (.bin .eql (T 4) (ci 6)), o 6 (mv 5), og 7 (fa 1 1) 6 true, og 8 (ld 7) 6 true, og 9 (.call (cf 251) [(T 8)]) 6 true, og 10 (.bin .eql (T 9) (ci 0)) 6 true, o 11 (.pick (T 6) (T 10) (cb false))]
def r179_2 : LO := [o 12 (fa 1 1), on (.store 1 (T 12) (.c (aU 9221120237041090560)))]
def r179_6 : LO := [o 13 (ln 7 1), on (st 7 2 13)]
def k179_1 : ACode := .seq (.seq (.region r179_1) (.cond (T 11) (.region r179_2) .skip)) (.seq (.region r179_6) .ret)
def k179_2 : ACode := .seq (.region r179_0) k179_1
theorem fn179 : getFn Tryz.prog 179 = some (14, k179_2, [.cell 2 (some 7)]) := by kernel_rfl
def r163_0 : LO := [o 2 (bx 0), o 3 (bx 1), o 4 (.alloc [(aI 0), aE, aE, (aI 0), (aI 0), (aI 0), (aI 0), (aI 0)]), o 5 (mb false)]
def r163_1 : LO := [o 6 (.func (.func 236) [] [(T 3)]), o 7 (.build [(.v .nilFunc)] [((0, 1), (T 6))]), o 8 (ln 3 2), o 9 (.call (cf 237) [(T 7), (T 8)]), o 10 (.extract 0 (T 9)), o 11 (.extract 1 (T 9)), on (st 8 4 10), o 5 (mv 11)]
def k163_1 : ACode := .seq (.region r163_0) (.seq (.region r163_1) .ret)
theorem fn163 : getFn Tryz.prog 163 = some (12, k163_1, [.cell 4 (some 8), .tmp 5]) := by kernel_rfl
def r237_0 : LO := [o 2 (bx 0), o 3 (bx 1), o 4 (.alloc [(aI 0), aE, aE, (aI 0), (aI 0), (aI 0), (aI 0), (aI 0)]), o 5 (mb false)]
def r237_1 : LO := [o 7 (fa 1 3), o 8 (ld 7), o 9 (fa 0 2), o 10 (ld 9), o 11 (.call (cf 305) [(T 8), (T 10)]), o 6 (mv 11)]
def r237_2 : LO := [o 12 (mv 6), o 13 (.bin .lss (T 12) (ci 0))]
def r237_3 : LO := [o 14 (.build [(aI 0), aE, aE, (aI 0), (aI 0), (aI 0), (aI 0), (aI 0)] []), on (st 8 4 14), o 5 (mb false)]
def k237_1 : ACode := .seq (.region r237_2) (.cond (T 13) (.seq (.region r237_3) .ret) .skip)
def r237_9 : LO := [o 15 (fa 1 3), o 16 (ld 15), o 17 (mv 6), o 18 (.idxSl 8 (T 16) (T 17)), o 19 (ln 8 18), on (st 8 4 19), o 5 (mb true)]
def k237_2 : ACode := .seq (.region r237_1) (.seq k237_1 (.seq (.region r237_9) .ret))
def k237_3 : ACode := .seq (.region r237_0) k237_2
theorem fn237 : getFn Tryz.prog 237 = some (20, k237_3, [.cell 4 (some 8), .tmp 5]) := by kernel_rfl
def r305_0 : LO := [o 4 (mi 0)]
def r305_1 : LO := [o 6 (mv 0), o 7 (.len false (T 6)), o 8 (mi 0)]
def r305_2 : LO := [o 9 (.bin .lss (T 8) (T 7))]
def r305_6 : LO := [o 10 (mv 8), o 5 (mv 10)]
def r305_7 : LO := [o 11 (mv 1), o 12 (mv 0), o 13 (mv 5), o 14 (.idxSl 8 (T 12) (T 13)), o 15 (ln 8 14), o 16 (.call (T 11) [(T 15)])]
def r305_8 : LO := [o 17 (mv 5), o 4 (mv 17)]
def k305_1 : ACode := .seq (.region r305_7) (.cond (T 16) (.seq (.region r305_8) .ret) .skip)
def r305_16 : LO := [o 18 (.bin .add (T 8) (ci 1)), o 8 (mv 18)]
def k305_2 : ACode := .seq (.block 1 (.seq (.region r305_6) k305_1)) (.region r305_16)
def k305_3 : ACode := .seq (.region r305_2) (.seq (.cond (T 9) .skip (.exit 0)) k305_2)
def r305_23 : LO := [o 4 (mi (-1))]
def k305_4 : ACode := .seq (.seq (.region r305_1) (.block 0 (.loop k305_3))) (.seq (.region r305_23) .ret)
def k305_5 : ACode := .seq (.region r305_0) k305_4
theorem fn305 : getFn Tryz.prog 305 = some (19, k305_5, [.tmp 4]) := by kernel_rfl
def r236_0 : LO := [o 2 (bx 0), o 3 (mb false)]
def r236_1 : LO := [o 4 (fa 0 2), o 5 (ld 4), o 6 (ld 1), o 7 (.bin .eql (T 5) (T 6)), o 3 (mv 7)]
def k236_1 : ACode := .seq (.region r236_0) (.seq (.region r236_1) .ret)
theorem fn236 : getFn Tryz.prog 236 = some (8, k236_1, [.tmp 3]) := by kernel_rfl
def r100_0 : LO := [o 4 (mv 0), o 5 (mv 0), o 6 (.len false (T 5)), o 7 (mv 1), o 8 (.call (cf 181) [(T 4), (T 6), (T 7)])]
theorem fn100 : getFn Tryz.prog 100 = some (9, .region r100_0, []) := by kernel_rfl
def r181_0 : LO := [o 6 (mi 20)]
def r181_1 : LO := [o 10 (mv 6), o 7 (mi 0), o 8 (mv 10)]
def r181_2 : LO := [o 11 (mv 8), o 12 (mv 1), o 13 (.bin .leq (T 11) (T 12))]
def r181_7 : LO := [o 14 (mv 0), o 15 (mv 7), o 16 (mv 8), o 17 (mv 2), o 18 (.call (cf 253) [(T 14), (T 15), (T 16), (T 17)])]
def r181_8 : LO := [o 19 (mv 8), o 7 (mv 19)]
def r181_9 : LO := [o 20 (mv 8), o 21 (mv 6), o 22 (.bin .add (T 20) (T 21)), o 8 (mv 22)]
def k181_1 : ACode := .seq (.region r181_7) (.seq (.region r181_8) (.region r181_9))
def k181_2 : ACode := .seq (.seq (.region r181_2) (.cond (T 13) .skip (.exit 0))) (.block 1 k181_1)
def r181_16 : LO := [o 23 (mv 0), o 24 (mv 7), o 25 (mv 1), o 26 (mv 2), o 27 (.call (cf 253) [(T 23), (T 24), (T 25), (T 26)])]
def r181_17 : LO := [o 28 (mv 6), o 29 (mv 1), o 30 (.bin .lss (T 28) (T 29))]
def r181_22 : LO := [o 31 (mv 6), o 32 (.bin .mul (ci 2) (T 31)), o 7 (mi 0), o 8 (mv 32)]
def r181_23 : LO := [o 33 (mv 8), o 34 (mv 1), o 35 (.bin .leq (T 33) (T 34))]
def r181_28 : LO := [o 36 (mv 0), o 37 (mv 7), o 38 (mv 7), o 39 (mv 6), o 40 (.bin .add (T 38) (T 39)), o 41 (mv 8), o 42 (mv 2), o 43 (.call (cf 254) [(T 36), (T 37), (T 40), (T 41), (T 42)])]
def r181_29 : LO := [o 44 (mv 8), o 7 (mv 44)]
def r181_30 : LO := [o 45 (mv 8), o 46 (mv 6), o 47 (.bin .mul (ci 2) (T 46)), o 48 (.bin .add (T 45) (T 47)), o 8 (mv 48)]
def k181_3 : ACode := .seq (.region r181_28) (.seq (.region r181_29) (.region r181_30))
def k181_4 : ACode := .seq (.seq (.region r181_23) (.cond (T 35) .skip (.exit 4))) (.block 5 k181_3)
def r181_37 : LO := [o 49 (mv 7), o 50 (mv 6), o 51 (.bin .add (T 49) (T 50)), o 9 (mv 51)]
def r181_38 : LO := [o 52 (mv 9), o 53 (mv 1), o 54 (.bin .lss (T 52) (T 53))]
def r181_39 : LO := [o 55 (mv 0), o 56 (mv 7), o 57 (mv 9), o 58 (mv 1), o 59 (mv 2), o 60 (.call (cf 254) [(T 55), (T 56), (T 57), (T 58), (T 59)])]
def k181_5 : ACode := .seq (.region r181_38) (.cond (T 54) (.region r181_39) .skip)
def r181_44 : LO := [o 61 (mv 6), o 62 (.bin .mul (T 61) (ci 2)), o 6 (mv 62)]
def k181_6 : ACode := .seq (.block 4 (.loop k181_4)) (.seq (.seq (.region r181_37) k181_5) (.region r181_44))
def k181_7 : ACode := .seq (.seq (.region r181_17) (.cond (T 30) .skip (.exit 2))) (.block 3 (.seq (.region r181_22) k181_6))
def k181_8 : ACode := .seq (.block 0 (.loop k181_2)) (.seq (.region r181_16) (.block 2 (.loop k181_7)))
def k181_9 : ACode := .seq (.region r181_0) (.seq (.region r181_1) k181_8)
theorem fn181 : getFn Tryz.prog 181 = some (63, k181_9, []) := by kernel_rfl
def r253_0 : LO := [o 10 (mv 1), o 11 (.bin .add (T 10) (ci 1)), o 8 (mv 11)]
def r253_1 : LO := [o 12 (mv 8), o 13 (mv 2), o 14 (.bin .lss (T 12) (T 13))]
def r253_6 : LO := [o 17 (mv 8), o 9 (mv 17)]
def r253_7 : LO := [o 18 (mv 9), o 19 (mv 1), o 20 (.bin .gtr (T 18) (T 19)), o 21 (mv 20), og 22 (mv 3) 21 true, og 23 (mv 0) 21 true, og 24 (mv 9) 21 true, og 25 (.idxSl 4 (T 23) (T 24)) 21 true, og 26 (ln 4 25) 21 true, og 27 (mv 0) 21 true, og 28 (mv 9) 21 true, og 29 (.bin .sub (T 28) (ci 1)) 21 true, og 30 (.idxSl 4 (T 27) (T 29)) 21 true, og 31 (ln 4 30) 21 true]
def r253_7t : LO := [og 32 (.call (T 22) [(T 26), (T 31)]) 21 true, og 33 (.bin .lss (T 32) (ci 0)) 21 true, o 34 (.pick (T 21) (T 33) (cb false))]
def r253_7o : LN := [[], [], [0, 1], [2], [3], [3], [3], [3, 5, 6], [3, 7], [3], [3], [3, 10], [3, 9, 11], [3, 12]]
def k253_1 : ACode := .seq (.drawn r253_7o r253_7 r253_7t) (.cond (T 34) .skip (.exit 2))
def r253_12 : LO := [o 37 (mv 0), o 38 (mv 9), o 39 (mv 0), o 40 (mv 9), o 41 (.bin .sub (T 40) (ci 1)), o 42 (mv 0), o 43 (mv 9), o 44 (.bin .sub (T 43) (ci 1)), o 45 (.idxSl 4 (T 42) (T 44)), o 46 (ln 4 45), o 47 (mv 0), o 48 (mv 9), o 49 (.idxSl 4 (T 47) (T 48)), o 50 (ln 4 49), o 51 (.idxSl 4 (T 37) (T 38)), on (st 4 51 46)]
def r253_12t : LO := [o 52 (.idxSl 4 (T 39) (T 41)), on (st 4 52 50)]
def r253_12o : LN := [[], [], [], [], [3], [], [], [6], [5, 7], [8], [], [], [10, 11], [12], [0, 1, 5, 6, 7, 8, 9, 13], [0, 1, 5, 6, 7, 8, 9, 13, 14]]
def r253_14 : LO := [o 35 (mv 9), o 36 (.bin .sub (T 35) (ci 1)), o 9 (mv 36)]
def k253_2 : ACode := .seq (.block 3 (.drawn r253_12o r253_12 r253_12t)) (.region r253_14)
def k253_3 : ACode := .seq k253_1 k253_2
def r253_21 : LO := [o 15 (mv 8), o 16 (.bin .add (T 15) (ci 1)), o 8 (mv 16)]
def k253_4 : ACode := .seq (.block 1 (.seq (.region r253_6) (.block 2 (.loop k253_3)))) (.region r253_21)
def k253_5 : ACode := .seq (.seq (.region r253_1) (.cond (T 14) .skip (.exit 0))) k253_4
def k253_6 : ACode := .seq (.region r253_0) (.block 0 (.loop k253_5))
theorem fn253 : getFn Tryz.prog 253 = some (53, k253_6, []) := by kernel_rfl
def r97_0 : LO := [o 2 (.mv (.c .nil))]
def r97_1 : LO := [o 7 (mv 0), o 8 (.call (cf 159) [(T 7)]), o 3 (mv 8)]
def r97_2 : LO := [o 9 (mv 3), o 10 (.call (cf 173) [(T 9), (cf 174)])]
def r97_3 : LO := [o 4 (.mv (.c .nil))]
def r97_4 : LO := [o 11 (mv 3), o 12 (.len false (T 11)), o 13 (mi 0)]
def r97_5 : LO := [o 14 (.bin .lss (T 13) (T 12))]
def r97_9 : LO := [o 15 (mv 13), o 16 (.idxSl 8 (T 11) (T 13)), o 17 (ln 8 16), o 6 (.alloc [(aI 0), (aI 0), (aU 0), aE, .nil, .nil, .nil, .nil]), o 5 (mv 15), on (st 8 6 17)]
def r97_10 : LO := [o 18 (mv 5), o 19 (.bin .add (T 18) (ci 1)), o 20 (mv 3), o 21 (.len false (T 20)), o 22 (.bin .eql (T 19) (T 21)), o 23 (mv 22), og 24 (fa 0 6) 23 false, og 25 (ld 24) 23 false, og 26 (mv 3) 23 false, og 27 (mv 5) 23 false, og 28 (.bin .add (T 27) (ci 1)) 23 false, og 29 (.idxSl 8 (T 26) (T 28)) 23 false, og 30 (fa 0 29) 23 false, og 31 (ld 30) 23 false]
def r97_10t : LO := [og 32 (.bin .neq (T 25) (T 31)) 23 false, o 33 (.pick (T 23) (cb true) (T 32))]
def r97_10o : LN := [[], [0], [], [2], [1, 3], [4], [5], [5, 6], [5], [5], [5, 9], [5, 8, 10], [5, 11], [5, 12]]
def r97_11 : LO := [o 34 (mv 4), o 35 (ln 8 6), o 36 (.sliceLit 8 1 [(aI 0), (aI 0), (aU 0), aE, .nil, .nil, .nil, .nil] [((0, 8), (T 35))]), o 37 (.append 67 8 136 (T 34) (T 36)), o 4 (mv 37)]
def k97_1 : ACode := .seq (.drawn r97_10o r97_10 r97_10t) (.cond (T 33) (.region r97_11) .skip)
def r97_17 : LO := [o 38 (.bin .add (T 13) (ci 1)), o 13 (mv 38)]
def k97_2 : ACode := .seq (.block 1 (.seq (.region r97_9) k97_1)) (.region r97_17)
def k97_3 : ACode := .seq (.region r97_5) (.seq (.cond (T 14) .skip (.exit 0)) k97_2)
def r97_24 : LO := [o 39 (mv 4), o 2 (mv 39)]
def k97_4 : ACode := .seq (.seq (.region r97_4) (.block 0 (.loop k97_3))) (.seq (.region r97_24) .ret)
def k97_5 : ACode := .seq (.region r97_1) (.seq (.region r97_2) (.seq (.region r97_3) k97_4))
def k97_6 : ACode := .seq (.region r97_0) k97_5
theorem fn97 : getFn Tryz.prog 97 = some (40, k97_6, [.tmp 2]) := by kernel_rfl
def r174_0 : LO := [o 2 (bx 0), o 3 (bx 1), o 4 (mi 0)]
def r174_1 : LO := [o 5 (fa 0 2), o 6 (ld 5), o 7 (fa 0 3), o 8 (ld 7), o 9 (.call (cf 102) [(T 6), (T 8)]), o 4 (mv 9)]
def k174_1 : ACode := .seq (.region r174_0) (.seq (.region r174_1) .ret)
theorem fn174 : getFn Tryz.prog 174 = some (10, k174_1, [.tmp 4]) := by kernel_rfl
def r173_0 : LO := [o 4 (mv 0), o 5 (mv 0), o 6 (.len false (T 5)), o 7 (mv 1), o 8 (.call (cf 245) [(T 4), (T 6), (T 7)])]
theorem fn173 : getFn Tryz.prog 173 = some (9, .region r173_0, []) := by kernel_rfl
def r245_0 : LO := [o 6 (mi 20)]
def r245_1 : LO := [o 10 (mv 6), o 7 (mi 0), o 8 (mv 10)]
def r245_2 : LO := [o 11 (mv 8), o 12 (mv 1), o 13 (.bin .leq (T 11) (T 12))]
def r245_7 : LO := [o 14 (mv 0), o 15 (mv 7), o 16 (mv 8), o 17 (mv 2), o 18 (.call (cf 314) [(T 14), (T 15), (T 16), (T 17)])]
def r245_8 : LO := [o 19 (mv 8), o 7 (mv 19)]
def r245_9 : LO := [o 20 (mv 8), o 21 (mv 6), o 22 (.bin .add (T 20) (T 21)), o 8 (mv 22)]
def k245_1 : ACode := .seq (.region r245_7) (.seq (.region r245_8) (.region r245_9))
def k245_2 : ACode := .seq (.seq (.region r245_2) (.cond (T 13) .skip (.exit 0))) (.block 1 k245_1)
def r245_16 : LO := [o 23 (mv 0), o 24 (mv 7), o 25 (mv 1), o 26 (mv 2), o 27 (.call (cf 314) [(T 23), (T 24), (T 25), (T 26)])]
def r245_17 : LO := [o 28 (mv 6), o 29 (mv 1), o 30 (.bin .lss (T 28) (T 29))]
def r245_22 : LO := [o 31 (mv 6), o 32 (.bin .mul (ci 2) (T 31)), o 7 (mi 0), o 8 (mv 32)]
def r245_23 : LO := [o 33 (mv 8), o 34 (mv 1), o 35 (.bin .leq (T 33) (T 34))]
def r245_28 : LO := [o 36 (mv 0), o 37 (mv 7), o 38 (mv 7), o 39 (mv 6), o 40 (.bin .add (T 38) (T 39)), o 41 (mv 8), o 42 (mv 2), o 43 (.call (cf 315) [(T 36), (T 37), (T 40), (T 41), (T 42)])]
def r245_29 : LO := [o 44 (mv 8), o 7 (mv 44)]
def r245_30 : LO := [o 45 (mv 8), o 46 (mv 6), o 47 (.bin .mul (ci 2) (T 46)), o 48 (.bin .add (T 45) (T 47)), o 8 (mv 48)]
def k245_3 : ACode := .seq (.region r245_28) (.seq (.region r245_29) (.region r245_30))
def k245_4 : ACode := .seq (.seq (.region r245_23) (.cond (T 35) .skip (.exit 4))) (.block 5 k245_3)
def r245_37 : LO := [o 49 (mv 7), o 50 (mv 6), o 51 (.bin .add (T 49) (T 50)), o 9 (mv 51)]
def r245_38 : LO := [o 52 (mv 9), o 53 (mv 1), o 54 (.bin .lss (T 52) (T 53))]
def r245_39 : LO := [o 55 (mv 0), o 56 (mv 7), o 57 (mv 9), o 58 (mv 1), o 59 (mv 2), o 60 (.call (cf 315) [(T 55), (T 56), (T 57), (T 58), (T 59)])]
def k245_5 : ACode := .seq (.region r245_38) (.cond (T 54) (.region r245_39) .skip)
def r245_44 : LO := [o 61 (mv 6), o 62 (.bin .mul (T 61) (ci 2)), o 6 (mv 62)]
def k245_6 : ACode := .seq (.block 4 (.loop k245_4)) (.seq (.seq (.region r245_37) k245_5) (.region r245_44))
def k245_7 : ACode := .seq (.seq (.region r245_17) (.cond (T 30) .skip (.exit 2))) (.block 3 (.seq (.region r245_22) k245_6))
def k245_8 : ACode := .seq (.block 0 (.loop k245_2)) (.seq (.region r245_16) (.block 2 (.loop k245_7)))
def k245_9 : ACode := .seq (.region r245_0) (.seq (.region r245_1) k245_8)
theorem fn245 : getFn Tryz.prog 245 = some (63, k245_9, []) := by kernel_rfl
def r314_0 : LO := [o 10 (mv 1), o 11 (.bin .add (T 10) (ci 1)), o 8 (mv 11)]
def r314_1 : LO := [o 12 (mv 8), o 13 (mv 2), o 14 (.bin .lss (T 12) (T 13))]
def r314_6 : LO := [o 17 (mv 8), o 9 (mv 17)]
def r314_7 : LO := [o 18 (mv 9), o 19 (mv 1), o 20 (.bin .gtr (T 18) (T 19)), o 21 (mv 20), og 22 (mv 3) 21 true, og 23 (mv 0) 21 true, og 24 (mv 9) 21 true, og 25 (.idxSl 8 (T 23) (T 24)) 21 true, og 26 (ln 8 25) 21 true, og 27 (mv 0) 21 true, og 28 (mv 9) 21 true, og 29 (.bin .sub (T 28) (ci 1)) 21 true, og 30 (.idxSl 8 (T 27) (T 29)) 21 true, og 31 (ln 8 30) 21 true]
def r314_7t : LO := [og 32 (.call (T 22) [(T 26), (T 31)]) 21 true, og 33 (.bin .lss (T 32) (ci 0)) 21 true, o 34 (.pick (T 21) (T 33) (cb false))]
def r314_7o : LN := [[], [], [0, 1], [2], [3], [3], [3], [3, 5, 6], [3, 7], [3], [3], [3, 10], [3, 9, 11], [3, 12]]
def k314_1 : ACode := .seq (.drawn r314_7o r314_7 r314_7t) (.cond (T 34) .skip (.exit 2))
def r314_12 : LO := [o 37 (mv 0), o 38 (mv 9), o 39 (mv 0), o 40 (mv 9), o 41 (.bin .sub (T 40) (ci 1)), o 42 (mv 0), o 43 (mv 9), o 44 (.bin .sub (T 43) (ci 1)), o 45 (.idxSl 8 (T 42) (T 44)), o 46 (ln 8 45), o 47 (mv 0), o 48 (mv 9), o 49 (.idxSl 8 (T 47) (T 48)), o 50 (ln 8 49), o 51 (.idxSl 8 (T 37) (T 38)), on (st 8 51 46)]
def r314_12t : LO := [o 52 (.idxSl 8 (T 39) (T 41)), on (st 8 52 50)]
def r314_12o : LN := [[], [], [], [], [3], [], [], [6], [5, 7], [8], [], [], [10, 11], [12], [0, 1, 5, 6, 7, 8, 9, 13], [0, 1, 5, 6, 7, 8, 9, 13, 14]]
def r314_14 : LO := [o 35 (mv 9), o 36 (.bin .sub (T 35) (ci 1)), o 9 (mv 36)]
def k314_2 : ACode := .seq (.block 3 (.drawn r314_12o r314_12 r314_12t)) (.region r314_14)
def k314_3 : ACode := .seq k314_1 k314_2
def r314_21 : LO := [o 15 (mv 8), o 16 (.bin .add (T 15) (ci 1)), o 8 (mv 16)]
def k314_4 : ACode := .seq (.block 1 (.seq (.region r314_6) (.block 2 (.loop k314_3)))) (.region r314_21)
def k314_5 : ACode := .seq (.seq (.region r314_1) (.cond (T 14) .skip (.exit 0))) k314_4
def k314_6 : ACode := .seq (.region r314_0) (.block 0 (.loop k314_5))
theorem fn314 : getFn Tryz.prog 314 = some (53, k314_6, []) := by kernel_rfl
def r159_0 : LO := [o 2 (.mv (.c .nil))]
def r159_1 : LO := [o 3 (mv 0), o 4 (.eq .slice true (T 3) (.c .nil))]
def r159_2 : LO := [o 2 (.mv (.c .nil))]
def k159_1 : ACode := .seq (.region r159_1) (.cond (T 4) (.seq (.region r159_2) .ret) .skip)
def r159_8 : LO := [o 5 (.sliceLit 8 0 [] []), o 6 (mv 0), o 7 (.append 67 8 136 (T 5) (T 6)), o 2 (mv 7)]
def k159_2 : ACode := .seq (.region r159_0) (.seq k159_1 (.seq (.region r159_8) .ret))
theorem fn159 : getFn Tryz.prog 159 = some (8, k159_2, [.tmp 2]) := by kernel_rfl
def r96_0 : LO := [o 2 (.mv (.c .nil))]
def r96_1 : LO := [o 3 (mv 0), o 4 (.eq .slice true (T 3) (.c .nil))]
def r96_2 : LO := [o 2 (.mv (.c .nil))]
def k96_1 : ACode := .seq (.region r96_1) (.cond (T 4) (.seq (.region r96_2) .ret) .skip)
def r96_8 : LO := [o 5 (.sliceLit 4 0 [] []), o 6 (mv 0), o 7 (.append 192 4 40 (T 5) (T 6)), o 2 (mv 7)]
def k96_2 : ACode := .seq (.region r96_0) (.seq k96_1 (.seq (.region r96_8) .ret))
theorem fn96 : getFn Tryz.prog 96 = some (8, k96_2, [.tmp 2]) := by kernel_rfl
def r195_0 : LO := [o 5 (bx 2)]
def r195_1 : LO := [o 14 (fa 5 5), o 15 (ld 14), o 16 (.len false (T 15)), o 17 (mi 0)]
def r195_2 : LO := [o 18 (.bin .lss (T 17) (T 16))]
def r195_6 : LO := [o 19 (.idxSl 8 (T 15) (T 17)), o 20 (ln 8 19), o 7 (.alloc [(aI 0), (aI 0), (aU 0), aE, .nil, .nil, .nil, .nil]), on (st 8 7 20)]
def r195_7 : LO := [o 22 (mv 0), o 23 (.nilCheck (T 22)), o 24 (fa 0 23), o 25 (fa 0 24), o 26 (ld 25), o 27 (mv 1), o 28 (.idxSl 3 (T 26) (T 27)), o 29 (ln 3 28), o 30 (fa 0 7), o 31 (ld 30), o 32 (.call (cf 163) [(T 29), (T 31)]), o 21 (mv 32), o 33 (.extract 0 (T 21)), o 34 (.extract 1 (T 21)), o 8 (.alloc [(aI 0), aE, aE, (aI 0), (aI 0), (aI 0), (aI 0), (aI 0)]), on (st 8 8 33)]
def r195_7t : LO := [o 9 (mv 34)]
def r195_7o : LN := [[], [0], [1], [2], [3], [], [4, 5], [6], [], [8], [7, 9], [10], [11], [11], [], [0, 1, 2, 3, 4, 5, 6, 7, 8, 9, 10, 11, 12, 14]]
def r195_8 : LO := [o 35 (fa 3 8), o 36 (ld 35)]
def r195_9 : LO := [o 45 (.bin .eql (T 36) (ci 4)), o 44 (mv 45)]
def r195_10 : LO := [o 46 (fa 1 7), o 47 (fa 3 46), o 48 (ld 47), o 49 (.len false (T 48)), o 50 (mi 0)]
def r195_11 : LO := [o 51 (.bin .lss (T 50) (T 49))]
def r195_15 : LO := [o 52 (.idxSl 7 (T 48) (T 50)), o 53 (ln 7 52), o 11 (.alloc zV), on (st 7 11 53)]
def r195_16 : LO := [o 54 (mv 0), o 55 (ln 8 8), o 56 (fa 1 8), o 57 (ld 56), o 58 (ln 7 11), o 59 (.call (cf 270) [(T 54), (T 55), (T 57), (T 58)])]
def r195_19 : LO := [o 60 (.bin .add (T 50) (ci 1)), o 50 (mv 60)]
def k195_1 : ACode := .seq (.block 4 (.seq (.region r195_15) (.region r195_16))) (.region r195_19)
def k195_2 : ACode := .seq (.region r195_11) (.seq (.cond (T 51) .skip (.exit 3)) k195_1)
def r195_26 : LO := [o 62 (.bin .eql (T 36) (ci 5)), o 61 (mv 62)]
def r195_27 : LO := [o 63 (fa 1 7), o 64 (fa 4 63), o 65 (ld 64), o 66 (.len false (T 65)), o 67 (mi 0)]
def r195_28 : LO := [o 68 (.bin .lss (T 67) (T 66))]
def r195_32 : LO := [o 69 (.idxSl 14 (T 65) (T 67)), o 70 (ln 14 69), o 13 (.alloc [(aI 0), (aU 0), aE, .nil, .nil, .nil, .nil, (aI 0), (aU 0), aE, .nil, .nil, .nil, .nil]), on (st 14 13 70)]
def r195_33 : LO := [o 71 (mv 0), o 72 (ln 8 8), o 73 (fa 1 8), o 74 (ld 73), o 75 (.bin .add (T 74) (.c (aS ⟨#[91]⟩))), o 76 (fa 0 13), o 77 (ln 7 76), o 78 (.call (cf 271) [(T 77)]), o 79 (.bin .add (T 75) (T 78)), o 80 (.bin .add (T 79) (.c (aS ⟨#[93]⟩))), o 81 (fa 7 13), o 82 (ln 7 81)]
def r195_33t : LO := [o 83 (.call (cf 270) [(T 71), (T 72), (T 80), (T 82)])]
def r195_33o : LN := [[], [], [], [2], [3], [], [5], [6], [4, 7], [8], [], [10]]
def k195_3 : ACode := .block 6 (.seq (.region r195_32) (.drawn r195_33o r195_33 r195_33t))
def r195_36 : LO := [o 84 (.bin .add (T 67) (ci 1)), o 67 (mv 84)]
def k195_4 : ACode := .seq (.cond (T 68) .skip (.exit 5)) (.seq k195_3 (.region r195_36))
def k195_5 : ACode := .seq (.region r195_28) k195_4
def r195_43 : LO := [o 37 (mv 0), o 38 (ln 8 8), o 39 (fa 1 8), o 40 (ld 39), o 41 (fa 1 7), o 42 (ln 7 41), o 43 (.call (cf 270) [(T 37), (T 38), (T 40), (T 42)])]
def k195_6 : ACode := .cond (T 61) (.seq (.region r195_27) (.block 5 (.loop k195_5))) (.region r195_43)
def k195_7 : ACode := .cond (T 44) (.seq (.region r195_10) (.block 3 (.loop k195_2))) (.seq (.region r195_26) k195_6)
def k195_8 : ACode := .seq (.region r195_8) (.block 2 (.seq (.region r195_9) k195_7))
def k195_9 : ACode := .seq (.region r195_6) (.seq (.drawn r195_7o r195_7 r195_7t) k195_8)
def r195_53 : LO := [o 85 (.bin .add (T 17) (ci 1)), o 17 (mv 85)]
def k195_10 : ACode := .seq (.cond (T 18) .skip (.exit 0)) (.seq (.block 1 k195_9) (.region r195_53))
def k195_11 : ACode := .seq (.region r195_2) k195_10
def k195_12 : ACode := .seq (.region r195_0) (.seq (.region r195_1) (.block 0 (.loop k195_11)))
theorem fn195 : getFn Tryz.prog 195 = some (86, k195_12, []) := by kernel_rfl
def r271_0 : LO := [o 1 (bx 0), o 2 (.mv (.c aE))]
def r271_1 : LO := [o 3 (fa 0 1), o 4 (ld 3), o 5 (ln 7 1), o 6 (.call (cf 328) [(T 4), (T 5)]), o 7 (.un .not (T 6))]
def r271_2 : LO := [o 2 (.mv (.c aE))]
def k271_1 : ACode := .seq (.region r271_1) (.cond (T 7) (.seq (.region r271_2) .ret) .skip)
def r271_8 : LO := [o 8 (fa 0 1), o 9 (ld 8)]
def r271_9 : LO := [o 11 (.bin .eql (T 9) (ci 1)), o 10 (mv 11)]
def r271_10 : LO := [o 12 (fa 1 1), o 13 (ld 12), o 14 (.bin .eql (T 13) (.c (aU 1))), o 15 (.call (cf 350) [(T 14)]), o 2 (mv 15)]
def r271_13 : LO := [o 17 (.bin .eql (T 9) (ci 2)), o 16 (mv 17)]
def r271_15 : LO := [o 18 (.bin .eql (T 9) (ci 3)), o 16 (mv 18)]
def k271_2 : ACode := .seq (.region r271_13) (.cond (T 16) .skip (.region r271_15))
def r271_18 : LO := [o 19 (fa 1 1), o 20 (ld 19), o 21 (.conv (.num .i64) (T 20)), o 22 (.call (cf 351) [(T 21)]), o 2 (mv 22)]
def r271_21 : LO := [o 24 (.bin .eql (T 9) (ci 6)), o 23 (mv 24)]
def r271_22 : LO := [o 25 (fa 1 1), o 26 (ld 25), o 27 (.call (cf 352) [(T 26)]), o 2 (mv 27)]
def r271_25 : LO := [o 29 (.bin .eql (T 9) (ci 7)), o 28 (mv 29)]
def r271_26 : LO := [o 30 (fa 2 1), o 31 (ld 30), o 32 (.call (cf 353) [(T 31)]), o 2 (mv 32)]
def r271_29 : LO := [o 34 (.bin .eql (T 9) (ci 8)), o 33 (mv 34)]
def r271_30 : LO := [o 35 (fa 2 1), o 36 (ld 35), o 37 (.call (cf 354) [(T 36)]), o 38 (.call (cf 353) [(T 37)]), o 39 (.bin .add (.c (aS ⟨#[120]⟩)) (T 38)), o 2 (mv 39)]
def k271_3 : ACode := .seq (.region r271_29) (.cond (T 33) (.seq (.region r271_30) .ret) .skip)
def k271_4 : ACode := .seq (.region r271_25) (.cond (T 28) (.seq (.region r271_26) .ret) k271_3)
def k271_5 : ACode := .seq (.region r271_21) (.cond (T 23) (.seq (.region r271_22) .ret) k271_4)
def k271_6 : ACode := .seq k271_2 (.cond (T 16) (.seq (.region r271_18) .ret) k271_5)
def k271_7 : ACode := .seq (.region r271_9) (.cond (T 10) (.seq (.region r271_10) .ret) k271_6)
def r271_46 : LO := [o 40 (fa 1 1), o 41 (ld 40), o 42 (.call (cf 355) [(T 41), (ci 10)]), o 2 (mv 42)]
def k271_8 : ACode := .seq (.seq (.region r271_8) (.block 0 k271_7)) (.seq (.region r271_46) .ret)
def k271_9 : ACode := .seq (.region r271_0) (.seq k271_1 k271_8)
theorem fn271 : getFn Tryz.prog 271 = some (43, k271_9, [.tmp 2]) := by kernel_rfl
def r355_0 : LO := [o 4 (.mv (.c aE))]
def r355_1 : LO := [o 5 (mv 0), o 6 (mv 1), o 7 (.call (cf 414) [(T 5), (T 6)]), o 4 (mv 7)]
def k355_1 : ACode := .seq (.region r355_0) (.seq (.region r355_1) .ret)
theorem fn355 : getFn Tryz.prog 355 = some (8, k355_1, [.tmp 4]) := by kernel_rfl
def r414_0 : LO := [o 4 (.mv (.c aE))]
def r414_1 : LO := [o 9 (mv 1), o 10 (.bin .eql (T 9) (ci 10))]
def r414_2 : LO := [o 11 (mv 0), o 12 (.bin .lss (T 11) (.c (aU 100)))]
def r414_3 : LO := [o 13 (mv 0), o 14 (.conv (.num .i64) (T 13)), o 15 (.call (cf 445) [(T 14)]), o 4 (mv 15)]
def k414_1 : ACode := .seq (.region r414_2) (.cond (T 12) (.seq (.region r414_3) .ret) .skip)
def r414_9 : LO := [o 5 (.alloc [(aC 0), (aC 0), (aC 0), (aC 0), (aC 0), (aC 0), (aC 0), (aC 0), (aC 0), (aC 0), (aC 0), (aC 0), (aC 0), (aC 0), (aC 0), (aC 0), (aC 0), (aC 0), (aC 0), (aC 0), (aC 0), (aC 0), (aC 0), (aC 0)])]
def r414_10 : LO := [o 16 (mv 0), o 17 (.call (cf 446) [(T 16)]), o 6 (mv 17)]
def r414_11 : LO := [o 18 (mv 6), o 19 (.bad), o 20 (mv 0), o 21 (.call (cf 447) [(T 19), (T 20)])]
def r414_12 : LO := [o 22 (mv 6), o 23 (.bad), o 24 (.conv .str (T 23)), o 4 (mv 24)]
def k414_2 : ACode := .seq (.region r414_10) (.seq (.region r414_11) (.seq (.region r414_12) .ret))
def k414_3 : ACode := .cond (T 10) (.seq k414_1 (.seq (.region r414_9) k414_2)) .skip
def r414_22 : LO := [o 26 (mv 0), o 27 (mv 1), o 28 (.call (cf 448) [(.c .nil), (T 26), (T 27), (cb false), (cb false)]), o 25 (mv 28), o 29 (.extract 0 (T 25)), o 30 (.extract 1 (T 25)), o 7 (mv 29), o 8 (mv 30)]
def r414_23 : LO := [o 31 (mv 8), o 4 (mv 31)]
def k414_4 : ACode := .seq (.seq (.region r414_1) k414_3) (.seq (.region r414_22) (.seq (.region r414_23) .ret))
def k414_5 : ACode := .seq (.region r414_0) k414_4
theorem fn414 : getFn Tryz.prog 414 = some (32, k414_5, [.tmp 4]) := by kernel_rfl
def r445_0 : LO := [o 2 (.mv (.c aE))]
def r445_1 : LO := [o 3 (mv 0), o 4 (.bin .lss (T 3) (ci 10))]
def r445_2 : LO := [o 5 (mv 0), o 6 (mv 0), o 7 (.bin .add (T 6) (ci 1)), o 8 (.sliceS (.c (aS ⟨#[48, 49, 50, 51, 52, 53, 54, 55, 56, 57, 97, 98, 99, 100, 101, 102, 103, 104, 105, 106, 107, 108, 109, 110, 111, 112, 113, 114, 115, 116, 117, 118, 119, 120, 121, 122]⟩)) (some (T 5)) (some (T 7))), o 2 (mv 8)]
def k445_1 : ACode := .seq (.region r445_1) (.cond (T 4) (.seq (.region r445_2) .ret) .skip)
def r445_8 : LO := [o 9 (mv 0), o 10 (.bin .mul (T 9) (ci 2)), o 11 (mv 0), o 12 (.bin .mul (T 11) (ci 2)), o 13 (.bin .add (T 12) (ci 2)), o 14 (.sliceS (.c (aS ⟨#[48, 48, 48, 49, 48, 50, 48, 51, 48, 52, 48, 53, 48, 54, 48, 55, 48, 56, 48, 57, 49, 48, 49, 49, 49, 50, 49, 51, 49, 52, 49, 53, 49, 54, 49, 55, 49, 56, 49, 57, 50, 48, 50, 49, 50, 50, 50, 51, 50, 52, 50, 53, 50, 54, 50, 55, 50, 56, 50, 57, 51, 48, 51, 49, 51, 50, 51, 51, 51, 52, 51, 53, 51, 54, 51, 55, 51, 56, 51, 57, 52, 48, 52, 49, 52, 50, 52, 51, 52, 52, 52, 53, 52, 54, 52, 55, 52, 56, 52, 57, 53, 48, 53, 49, 53, 50, 53, 51, 53, 52, 53, 53, 53, 54, 53, 55, 53, 56, 53, 57, 54, 48, 54, 49, 54, 50, 54, 51, 54, 52, 54, 53, 54, 54, 54, 55, 54, 56, 54, 57, 55, 48, 55, 49, 55, 50, 55, 51, 55, 52, 55, 53, 55, 54, 55, 55, 55, 56, 55, 57, 56, 48, 56, 49, 56, 50, 56, 51, 56, 52, 56, 53, 56, 54, 56, 55, 56, 56, 56, 57, 57, 48, 57, 49, 57, 50, 57, 51, 57, 52, 57, 53, 57, 54, 57, 55, 57, 56, 57, 57]⟩)) (some (T 10)) (some (T 13))), o 2 (mv 14)]
def k445_2 : ACode := .seq (.region r445_0) (.seq k445_1 (.seq (.region r445_8) .ret))
theorem fn445 : getFn Tryz.prog 445 = some (15, k445_2, [.tmp 2]) := by kernel_rfl
def r353_0 : LO := [o 2 (.mv (.c aE))]
def r353_1 : LO := [o 3 (.allocB 121 5)]
def r353_2 : LO := [o 6 (.call (cf 51) [(T 3), (.c (aS ⟨#[34]⟩))])]
def r353_3 : LO := [o 7 (mv 0), o 8 (.range (T 7))]
def r353_4 : LO := [o 9 (.next (T 8)), o 10 (.extract 0 (T 9))]
def r353_8 : LO := [o 11 (.extract 1 (T 9)), o 12 (.extract 2 (T 9)), o 4 (mv 11), o 5 (mv 12)]
def r353_9 : LO := [o 13 (mv 0), o 14 (mv 4), o 15 (mv 5), o 16 (.call (cf 413) [(T 13), (T 14), (T 15)]), o 17 (.call (cf 51) [(T 3), (T 16)])]
def k353_1 : ACode := .seq (.cond (T 10) .skip (.exit 0)) (.block 1 (.seq (.region r353_8) (.region r353_9)))
def k353_2 : ACode := .seq (.region r353_4) k353_1
def r353_17 : LO := [o 18 (.call (cf 51) [(T 3), (.c (aS ⟨#[34]⟩))])]
def r353_18 : LO := [o 19 (.call (cf 45) [(T 3)]), o 2 (mv 19)]
def k353_3 : ACode := .seq (.seq (.region r353_3) (.block 0 (.loop k353_2))) (.seq (.region r353_17) (.seq (.region r353_18) .ret))
def k353_4 : ACode := .seq (.region r353_0) (.seq (.region r353_1) (.seq (.region r353_2) k353_3))
theorem fn353 : getFn Tryz.prog 353 = some (20, k353_4, [.tmp 2]) := by kernel_rfl
def r413_0 : LO := [o 6 (.mv (.c aE))]
def r413_1 : LO := [o 8 (mv 2), o 9 (.bin .eql (T 8) (.c (.v (.int .i32 34)))), o 7 (mv 9)]
def r413_2 : LO := [o 6 (.mv (.c (aS ⟨#[92, 34]⟩)))]
def r413_5 : LO := [o 11 (mv 2), o 12 (.bin .eql (T 11) (.c (.v (.int .i32 92)))), o 10 (mv 12)]
def r413_6 : LO := [o 6 (.mv (.c (aS ⟨#[92, 92]⟩)))]
def r413_9 : LO := [o 14 (mv 2), o 15 (.bin .eql (T 14) (.c (.v (.int .i32 10)))), o 13 (mv 15)]
def r413_10 : LO := [o 6 (.mv (.c (aS ⟨#[92, 110]⟩)))]
def r413_13 : LO := [o 17 (mv 2), o 18 (.bin .eql (T 17) (.c (.v (.int .i32 9)))), o 16 (mv 18)]
def r413_14 : LO := [o 6 (.mv (.c (aS ⟨#[92, 116]⟩)))]
def r413_17 : LO := [o 20 (mv 2), o 21 (.bin .eql (T 20) (.c (.v (.int .i32 13)))), o 19 (mv 21)]
def r413_18 : LO := [o 6 (.mv (.c (aS ⟨#[92, 114]⟩)))]
def r413_21 : LO := [o 23 (mv 2), o 24 (.bin .lss (T 23) (.c (.v (.int .i32 32)))), o 25 (mv 24), og 26 (mv 2) 25 false, og 27 (.bin .eql (T 26) (.c (.v (.int .i32 127)))) 25 false, o 28 (.pick (T 25) (cb true) (T 27)), o 29 (mv 28), og 30 (mv 0) 29 false, og 31 (mv 1) 29 false, og 32 (mv 2) 29 false, og 33 (.call (cf 438) [(T 30), (T 31), (T 32)]) 29 false, o 34 (.pick (T 29) (cb true) (T 33)), o 22 (mv 34)]
def r413_22 : LO := [o 35 (mv 0), o 36 (mv 1), o 37 (.idxS (T 35) (T 36)), o 38 (.call (cf 444) [(T 37)]), o 6 (mv 38)]
def k413_1 : ACode := .seq (.region r413_21) (.cond (T 22) (.seq (.region r413_22) .ret) .skip)
def k413_2 : ACode := .seq (.region r413_17) (.cond (T 19) (.seq (.region r413_18) .ret) k413_1)
def k413_3 : ACode := .seq (.region r413_13) (.cond (T 16) (.seq (.region r413_14) .ret) k413_2)
def k413_4 : ACode := .seq (.region r413_9) (.cond (T 13) (.seq (.region r413_10) .ret) k413_3)
def k413_5 : ACode := .seq (.region r413_5) (.cond (T 10) (.seq (.region r413_6) .ret) k413_4)
def k413_6 : ACode := .seq (.region r413_1) (.cond (T 7) (.seq (.region r413_2) .ret) k413_5)
def r413_39 : LO := [o 39 (mv 2), o 40 (.conv .chr (T 39)), o 6 (mv 40)]
def k413_7 : ACode := .seq (.region r413_0) (.seq (.block 0 k413_6) (.seq (.region r413_39) .ret))
theorem fn413 : getFn Tryz.prog 413 = some (41, k413_7, [.tmp 6]) := by kernel_rfl
def r438_0 : LO := [o 6 (mb false)]
def r438_1 : LO := [o 7 (mv 2), o 8 (.bin .eql (T 7) (.c (.v (.int .i32 65533)))), o 9 (mv 8), og 10 (mv 0) 9 true, og 11 (mv 1) 9 true, og 12 (.sliceS (T 10) (some (T 11)) none) 9 true, og 13 (.call (cf 295) [(T 12), (.c (aS ⟨#[239, 191, 189]⟩))]) 9 true, og 14 (.un .not (T 13)) 9 true, o 15 (.pick (T 9) (T 14) (cb false)), o 6 (mv 15)]
def k438_1 : ACode := .seq (.region r438_0) (.seq (.region r438_1) .ret)
theorem fn438 : getFn Tryz.prog 438 = some (16, k438_1, [.tmp 6]) := by kernel_rfl
def r370_0 : LO := [o 4 (mb false)]
def r370_1 : LO := [o 5 (mv 0), o 6 (.len true (T 5)), o 7 (mv 1), o 8 (.len true (T 7)), o 9 (.bin .geq (T 6) (T 8)), o 10 (mv 9), og 11 (mv 0) 10 true, og 12 (mv 1) 10 true, og 13 (.len true (T 12)) 10 true, og 14 (.sliceS (T 11) none (some (T 13))) 10 true, og 15 (mv 1) 10 true, og 16 (.bin .eql (T 14) (T 15)) 10 true, o 17 (.pick (T 10) (T 16) (cb false)), o 4 (mv 17)]
def k370_1 : ACode := .seq (.region r370_0) (.seq (.region r370_1) .ret)
theorem fn370 : getFn Tryz.prog 370 = some (18, k370_1, [.tmp 4]) := by kernel_rfl
def r328_0 : LO := [o 3 (bx 1), o 4 (mb false)]
def r328_1 : LO := [o 5 (mv 0), o 6 (.call (cf 164) [(T 5)]), o 7 (.un .not (T 6)), o 8 (mv 7), og 9 (fa 0 3) 8 false, og 10 (ld 9) 8 false, og 11 (mv 0) 8 false, og 12 (.bin .neq (T 10) (T 11)) 8 false, o 13 (.pick (T 8) (cb true) (T 12)), o 14 (mv 13), og 15 (ln 7 3) 14 false, og 16 (.call (cf 252) [(T 15)]) 14 false, og 17 (.un .not (T 16)) 14 false, o 18 (.pick (T 14) (cb true) (T 17)), o 19 (mv 18), og 20 (mv 0) 19 false, og 21 (fa 1 3) 19 false, og 22 (ld 21) 19 false, og 23 (.call (cf 378) [(T 20), (T 22)]) 19 false, og 24 (.un .not (T 23)) 19 false, o 25 (.pick (T 19) (cb true) (T 24)), o 26 (mv 25), og 27 (fa 2 3) 26 false, og 28 (ld 27) 26 false, og 29 (.len true (T 28)) 26 false, og 30 (.bin .gtr (T 29) (ci 4096)) 26 false, o 31 (.pick (T 26) (cb true) (T 30))]
def r328_2 : LO := [o 4 (mb false)]
def k328_1 : ACode := .seq (.region r328_1) (.cond (T 31) (.seq (.region r328_2) .ret) .skip)
def r328_8 : LO := [o 32 (mv 0), o 33 (.bin .neq (T 32) (ci 7)), o 34 (mv 33), og 35 (fa 2 3) 34 false, og 36 (ld 35) 34 false, og 37 (.call (cf 337) [(T 36)]) 34 false, o 38 (.pick (T 34) (cb true) (T 37)), o 4 (mv 38)]
def k328_2 : ACode := .seq (.region r328_0) (.seq k328_1 (.seq (.region r328_8) .ret))
theorem fn328 : getFn Tryz.prog 328 = some (39, k328_2, [.tmp 4]) := by kernel_rfl
def r378_0 : LO := [o 4 (mb false)]
def r378_1 : LO := [o 5 (.mv (.c (aU 4294967295)))]
def r378_2 : LO := [o 6 (mv 0)]
def r378_3 : LO := [o 8 (.bin .eql (T 6) (ci 1)), o 7 (mv 8)]
def r378_8 : LO := [o 10 (.bin .eql (T 6) (ci 2)), o 9 (mv 10)]
def r378_13 : LO := [o 12 (.bin .eql (T 6) (ci 9)), o 11 (mv 12)]
def r378_18 : LO := [o 14 (.bin .eql (T 6) (ci 4)), o 13 (mv 14)]
def k378_1 : ACode := .seq (.seq (.region r378_13) (.cond (T 11) (.exit 3) .skip)) (.seq (.region r378_18) (.cond (T 13) (.exit 4) .skip))
def k378_2 : ACode := .seq (.seq (.region r378_8) (.cond (T 9) (.exit 2) .skip)) k378_1
def k378_3 : ACode := .seq (.seq (.region r378_3) (.cond (T 7) (.exit 1) .skip)) k378_2
def r378_29 : LO := [o 15 (mv 1), o 16 (.bin .leq (T 15) (.c (aU 1))), o 4 (mv 16)]
def k378_4 : ACode := .seq (.block 1 (.seq k378_3 (.exit 0))) (.seq (.seq (.region r378_29) .ret) (.exit 0))
def r378_36 : LO := [o 17 (mv 1), o 18 (.conv (.num .i64) (T 17)), o 19 (.bin .geq (T 18) (ci (-2147483648))), o 20 (mv 19), og 21 (mv 1) 20 true, og 22 (.conv (.num .i64) (T 21)) 20 true, og 23 (.bin .leq (T 22) (ci 2147483647)) 20 true, o 24 (.pick (T 20) (T 23) (cb false)), o 4 (mv 24)]
def k378_5 : ACode := .seq (.block 2 k378_4) (.seq (.seq (.region r378_36) .ret) (.exit 0))
def r378_43 : LO := [o 5 (.mv (.c (aU 2147483647)))]
def r378_46 : LO := [o 25 (mv 1), o 26 (mv 5), o 27 (.bin .leq (T 25) (T 26)), o 4 (mv 27)]
def k378_6 : ACode := .seq (.block 4 (.seq (.block 3 k378_5) (.region r378_43))) (.seq (.seq (.region r378_46) .ret) (.exit 0))
def r378_54 : LO := [o 4 (mb true)]
def k378_7 : ACode := .seq (.seq (.region r378_2) (.block 0 k378_6)) (.seq (.region r378_54) .ret)
def k378_8 : ACode := .seq (.region r378_0) (.seq (.region r378_1) k378_7)
theorem fn378 : getFn Tryz.prog 378 = some (28, k378_8, [.tmp 4]) := by kernel_rfl
def r337_0 : LO := [o 2 (mb false)]
def r337_1 : LO := [o 3 (mv 0), o 4 (.call (cf 403) [(T 3)]), o 5 (.bin .lss (T 4) (ci 0)), o 2 (mv 5)]
def k337_1 : ACode := .seq (.region r337_0) (.seq (.region r337_1) .ret)
theorem fn337 : getFn Tryz.prog 337 = some (6, k337_1, [.tmp 2]) := by kernel_rfl
def r403_0 : LO := [o 2 (mi 0)]
def r403_1 : LO := [o 5 (mv 0), o 6 (.range (T 5))]
def r403_2 : LO := [o 7 (.next (T 6)), o 8 (.extract 0 (T 7))]
def r403_6 : LO := [o 9 (.extract 1 (T 7)), o 10 (.extract 2 (T 7)), o 3 (mv 9), o 4 (mv 10)]
def r403_7 : LO := [o 11 (mv 0), o 12 (mv 3), o 13 (mv 4), o 14 (.call (cf 438) [(T 11), (T 12), (T 13)])]
def r403_8 : LO := [o 15 (mv 3), o 2 (mv 15)]
def k403_1 : ACode := .seq (.region r403_7) (.cond (T 14) (.seq (.region r403_8) .ret) .skip)
def k403_2 : ACode := .seq (.cond (T 8) .skip (.exit 0)) (.block 1 (.seq (.region r403_6) k403_1))
def k403_3 : ACode := .seq (.region r403_2) k403_2
def r403_21 : LO := [o 2 (mi (-1))]
def k403_4 : ACode := .seq (.seq (.region r403_1) (.block 0 (.loop k403_3))) (.seq (.region r403_21) .ret)
def k403_5 : ACode := .seq (.region r403_0) k403_4
theorem fn403 : getFn Tryz.prog 403 = some (16, k403_5, [.tmp 2]) := by kernel_rfl
def r270_0 : LO := [o 5 (bx 1), o 7 (bx 3)]
def r270_1 : LO := [o 8 (fa 5 5), o 9 (ld 8), o 10 (.bin .neq (T 9) (ci 10))]
def r270_2 : LO := [o 11 (mv 0), o 12 (mv 0), o 13 (.nilCheck (T 12)), o 14 (fa 2 13), o 15 (ld 14), o 16 (mv 2), o 17 (mv 0), o 18 (.nilCheck (T 17)), o 19 (fa 0 18), o 20 (ln 2 19), o 21 (ln 8 5), o 22 (ln 7 7), o 23 (.call (cf 255) [(T 20), (T 21), (T 22)]), o 24 (.build [aE, aE] [((0, 1), (T 16)), ((1, 1), (T 23))]), o 25 (.iface 292 (T 24)), o 26 (.sliceLit 1 1 [(.v .nilIface)] [((0, 1), (T 25))]), o 27 (.append 20 1 16 (T 15) (T 26))]
def r270_2t : LO := [o 28 (.nilCheck (T 11)), o 29 (fa 2 28), on (st 1 29 27)]
def r270_2o : LN := [[], [], [1], [2], [3], [], [], [6], [7], [8], [], [], [9, 10, 11], [5, 12], [13], [14], [4, 12, 15]]
def k270_1 : ACode := .cond (T 10) (.seq (.drawn r270_2o r270_2 r270_2t) .ret) .skip
def r270_8 : LO := [o 30 (mv 0), o 31 (mv 0), o 32 (.nilCheck (T 31)), o 33 (fa 2 32), o 34 (ld 33), o 35 (mv 2), o 36 (.build [aE] [((0, 1), (T 35))]), o 37 (.iface 294 (T 36)), o 38 (.sliceLit 1 1 [(.v .nilIface)] [((0, 1), (T 37))]), o 39 (.append 20 1 16 (T 34) (T 38)), o 40 (.nilCheck (T 30)), o 41 (fa 2 40), on (st 1 41 39)]
def r270_9 : LO := [o 42 (mv 0), o 43 (fa 6 5), o 44 (ld 43), o 45 (ln 7 7), o 46 (.call (cf 195) [(T 42), (T 44), (T 45)])]
def r270_10 : LO := [o 47 (mv 0), o 48 (mv 0), o 49 (.nilCheck (T 48)), o 50 (fa 2 49), o 51 (ld 50), o 52 (.build [] []), o 53 (.iface 296 (T 52)), o 54 (.sliceLit 1 1 [(.v .nilIface)] [((0, 1), (T 53))]), o 55 (.append 20 1 16 (T 51) (T 54)), o 56 (.nilCheck (T 47)), o 57 (fa 2 56), on (st 1 57 55)]
def k270_2 : ACode := .seq (.region r270_8) (.seq (.region r270_9) (.region r270_10))
def k270_3 : ACode := .seq (.region r270_0) (.seq (.seq (.region r270_1) k270_1) k270_2)
theorem fn270 : getFn Tryz.prog 270 = some (58, k270_3, []) := by kernel_rfl
def r255_0 : LO := [o 3 (bx 0), o 4 (bx 1), o 5 (bx 2), o 6 (.mv (.c aE))]
def r255_1 : LO := [o 9 (fa 5 4), o 10 (ld 9), o 11 (.call (cf 164) [(T 10)]), o 12 (.un .not (T 11)), o 13 (mv 12), og 14 (fa 5 4) 13 false, og 15 (ld 14) 13 false, og 16 (ln 7 5) 13 false, og 17 (.call (cf 328) [(T 15), (T 16)]) 13 false, og 18 (.un .not (T 17)) 13 false, o 19 (.pick (T 13) (cb true) (T 18))]
def r255_2 : LO := [o 6 (.mv (.c aE))]
def k255_1 : ACode := .seq (.region r255_1) (.cond (T 19) (.seq (.region r255_2) .ret) .skip)
def r255_8 : LO := [o 20 (fa 5 4), o 21 (ld 20), o 22 (.bin .neq (T 21) (ci 9))]
def r255_9 : LO := [o 23 (ln 7 5), o 24 (.call (cf 271) [(T 23)]), o 6 (mv 24)]
def k255_2 : ACode := .seq (.region r255_8) (.cond (T 22) (.seq (.region r255_9) .ret) .skip)
def r255_15 : LO := [o 26 (ln 2 3), o 27 (fa 6 4), o 28 (ld 27), o 29 (fa 1 5), o 30 (ld 29), o 31 (.call (cf 232) [(T 26), (T 28), (T 30)]), o 25 (mv 31), o 32 (.extract 0 (T 25)), o 33 (.extract 1 (T 25)), o 7 (.alloc [aE, (aI 0), .nil]), on (st 3 7 32), o 8 (mv 33)]
def r255_16 : LO := [o 34 (mv 8)]
def r255_17 : LO := [o 35 (fa 0 7), o 36 (ld 35), o 6 (mv 36)]
def k255_3 : ACode := .seq (.region r255_16) (.cond (T 34) (.seq (.region r255_17) .ret) .skip)
def r255_24 : LO := [o 37 (ln 7 5), o 38 (.call (cf 271) [(T 37)]), o 39 (.bin .add (.c (aS ⟨#[35]⟩)) (T 38)), o 6 (mv 39)]
def k255_4 : ACode := .seq (.seq (.region r255_15) k255_3) (.seq (.region r255_24) .ret)
def k255_5 : ACode := .seq (.region r255_0) (.seq k255_1 (.seq k255_2 k255_4))
theorem fn255 : getFn Tryz.prog 255 = some (40, k255_5, [.tmp 6]) := by kernel_rfl
def r194_0 : LO := [o 1 (bx 0), o 2 (mb false)]
def r194_1 : LO := [o 9 (fa 6 1), o 10 (ld 9), o 11 (.len false (T 10)), o 12 (.bin .gtr (T 11) (ci 0))]
def r194_2 : LO := [o 2 (mb true)]
def k194_1 : ACode := .seq (.region r194_1) (.cond (T 12) (.seq (.region r194_2) .ret) .skip)
def r194_8 : LO := [o 13 (fa 3 1), o 14 (ld 13), o 15 (.len false (T 14)), o 16 (mi 0)]
def r194_9 : LO := [o 17 (.bin .lss (T 16) (T 15))]
def r194_13 : LO := [o 18 (.idxSl 7 (T 14) (T 16)), o 19 (ln 7 18), o 4 (.alloc zV), on (st 7 4 19)]
def r194_14 : LO := [o 20 (ln 7 4), o 21 (.call (cf 194) [(T 20)])]
def r194_15 : LO := [o 2 (mb true)]
def k194_2 : ACode := .seq (.region r194_14) (.cond (T 21) (.seq (.region r194_15) .ret) .skip)
def r194_23 : LO := [o 22 (.bin .add (T 16) (ci 1)), o 16 (mv 22)]
def k194_3 : ACode := .seq (.block 1 (.seq (.region r194_13) k194_2)) (.region r194_23)
def k194_4 : ACode := .seq (.region r194_9) (.seq (.cond (T 17) .skip (.exit 0)) k194_3)
def r194_30 : LO := [o 23 (fa 4 1), o 24 (ld 23), o 25 (.len false (T 24)), o 26 (mi 0)]
def r194_31 : LO := [o 27 (.bin .lss (T 26) (T 25))]
def r194_35 : LO := [o 28 (.idxSl 14 (T 24) (T 26)), o 29 (ln 14 28), o 6 (.alloc [(aI 0), (aU 0), aE, .nil, .nil, .nil, .nil, (aI 0), (aU 0), aE, .nil, .nil, .nil, .nil]), on (st 14 6 29)]
def r194_36 : LO := [o 30 (fa 7 6), o 31 (ln 7 30), o 32 (.call (cf 194) [(T 31)])]
def r194_37 : LO := [o 2 (mb true)]
def k194_5 : ACode := .seq (.region r194_36) (.cond (T 32) (.seq (.region r194_37) .ret) .skip)
def r194_45 : LO := [o 33 (.bin .add (T 26) (ci 1)), o 26 (mv 33)]
def k194_6 : ACode := .seq (.block 3 (.seq (.region r194_35) k194_5)) (.region r194_45)
def k194_7 : ACode := .seq (.region r194_31) (.seq (.cond (T 27) .skip (.exit 2)) k194_6)
def r194_52 : LO := [o 34 (fa 5 1), o 35 (ld 34), o 36 (.len false (T 35)), o 37 (mi 0)]
def r194_53 : LO := [o 38 (.bin .lss (T 37) (T 36))]
def r194_57 : LO := [o 39 (.idxSl 8 (T 35) (T 37)), o 40 (ln 8 39), o 8 (.alloc [(aI 0), (aI 0), (aU 0), aE, .nil, .nil, .nil, .nil]), on (st 8 8 40)]
def r194_58 : LO := [o 41 (fa 1 8), o 42 (ln 7 41), o 43 (.call (cf 194) [(T 42)])]
def r194_59 : LO := [o 2 (mb true)]
def k194_8 : ACode := .seq (.region r194_58) (.cond (T 43) (.seq (.region r194_59) .ret) .skip)
def r194_67 : LO := [o 44 (.bin .add (T 37) (ci 1)), o 37 (mv 44)]
def k194_9 : ACode := .seq (.block 5 (.seq (.region r194_57) k194_8)) (.region r194_67)
def k194_10 : ACode := .seq (.region r194_53) (.seq (.cond (T 38) .skip (.exit 4)) k194_9)
def r194_74 : LO := [o 2 (mb false)]
def k194_11 : ACode := .seq (.seq (.region r194_52) (.block 4 (.loop k194_10))) (.seq (.region r194_74) .ret)
def k194_12 : ACode := .seq (.seq (.region r194_30) (.block 2 (.loop k194_7))) k194_11
def k194_13 : ACode := .seq (.seq (.region r194_8) (.block 0 (.loop k194_4))) k194_12
def k194_14 : ACode := .seq (.region r194_0) (.seq k194_1 k194_13)
theorem fn194 : getFn Tryz.prog 194 = some (45, k194_14, [.tmp 2]) := by kernel_rfl
def r193_0 : LO := [o 3 (bx 0), o 5 (bx 2), o 6 (mi 0)]
def r193_1 : LO := [o 8 (mv 1), o 9 (.bin .lss (T 8) (ci 0)), o 10 (mv 9), og 11 (mv 1) 10 false, og 12 (fa 0 3) 10 false, og 13 (ld 12) 10 false, og 14 (.len false (T 13)) 10 false, og 15 (.bin .geq (T 11) (T 14)) 10 false, o 16 (.pick (T 10) (cb true) (T 15))]
def r193_2 : LO := [o 6 (mi 10)]
def k193_1 : ACode := .seq (.region r193_1) (.cond (T 16) (.seq (.region r193_2) .ret) .skip)
def r193_8 : LO := [o 17 (ln 2 3), o 18 (.build [.nil, .nil] [((0, 2), (T 17))]), o 19 (fa 0 3), o 20 (ld 19), o 21 (mv 1), o 22 (.idxSl 3 (T 20) (T 21)), o 23 (ln 3 22), o 24 (ln 7 5)]
def r193_8t : LO := [o 25 (.call (cf 269) [(T 18), (T 23), (T 24), (ci 1)]), o 7 (mv 25)]
def r193_8o : LN := [[], [0], [], [2], [], [3, 4], [5], []]
def r193_9 : LO := [o 26 (mv 7), o 27 (.bin .neq (T 26) (ci 0))]
def r193_10 : LO := [o 28 (mv 7), o 6 (mv 28)]
def k193_2 : ACode := .seq (.region r193_9) (.cond (T 27) (.seq (.region r193_10) .ret) .skip)
def r193_17 : LO := [o 29 (ln 7 5), o 30 (.call (cf 95) [(T 29)]), o 31 (.bin .gtr (T 30) (ci 4096))]
def r193_18 : LO := [o 6 (mi 3)]
def k193_3 : ACode := .seq (.region r193_17) (.cond (T 31) (.seq (.region r193_18) .ret) .skip)
def r193_24 : LO := [o 6 (mi 0)]
def k193_4 : ACode := .seq (.seq (.drawn r193_8o r193_8 r193_8t) k193_2) (.seq k193_3 (.seq (.region r193_24) .ret))
def k193_5 : ACode := .seq (.region r193_0) (.seq k193_1 k193_4)
theorem fn193 : getFn Tryz.prog 193 = some (32, k193_5, [.tmp 6]) := by kernel_rfl
def r269_0 : LO := [o 4 (bx 0), o 5 (bx 1), o 6 (bx 2), o 8 (mi 0)]
def r269_1 : LO := [o 17 (fa 0 6), o 18 (ld 17), o 19 (.bin .neq (T 18) (ci 10)), o 20 (mv 19), og 21 (ln 7 6) 20 false, og 22 (.call (cf 346) [(T 21)]) 20 false, o 23 (.pick (T 20) (cb true) (T 22)), o 16 (mv 23)]
def r269_2 : LO := [o 8 (mi 12)]
def r269_5 : LO := [o 25 (mv 3), o 26 (.bin .gtr (T 25) (ci 16)), o 24 (mv 26)]
def r269_6 : LO := [o 8 (mi 17)]
def k269_1 : ACode := .seq (.region r269_5) (.cond (T 24) (.seq (.region r269_6) .ret) .skip)
def k269_2 : ACode := .seq (.region r269_1) (.cond (T 16) (.seq (.region r269_2) .ret) k269_1)
def r269_15 : LO := [o 27 (fa 5 6), o 28 (ld 27), o 29 (.len false (T 28)), o 30 (mi 0)]
def r269_16 : LO := [o 31 (.bin .lss (T 30) (T 29))]
def r269_20 : LO := [o 32 (mv 30), o 9 (mv 32)]
def r269_21 : LO := [o 33 (ln 2 4), o 34 (ln 3 5), o 35 (fa 5 6), o 36 (ld 35), o 37 (mv 9), o 38 (mv 3), o 39 (.call (cf 347) [(T 33), (T 34), (T 36), (T 37), (T 38)]), o 10 (mv 39)]
def r269_22 : LO := [o 40 (mv 10), o 41 (.bin .neq (T 40) (ci 0))]
def r269_23 : LO := [o 42 (mv 10), o 8 (mv 42)]
def k269_3 : ACode := .seq (.region r269_22) (.cond (T 41) (.seq (.region r269_23) .ret) .skip)
def k269_4 : ACode := .block 2 (.seq (.region r269_20) (.seq (.region r269_21) k269_3))
def r269_32 : LO := [o 43 (.bin .add (T 30) (ci 1)), o 30 (mv 43)]
def k269_5 : ACode := .seq (.cond (T 31) .skip (.exit 1)) (.seq k269_4 (.region r269_32))
def k269_6 : ACode := .seq (.region r269_16) k269_5
def r269_39 : LO := [o 44 (fa 1 5), o 45 (ld 44), o 46 (.len false (T 45)), o 47 (mi 0)]
def r269_40 : LO := [o 48 (.bin .lss (T 47) (T 46))]
def r269_44 : LO := [o 49 (.idxSl 8 (T 45) (T 47)), o 50 (ln 8 49), o 12 (.alloc [(aI 0), aE, aE, (aI 0), (aI 0), (aI 0), (aI 0), (aI 0)]), on (st 8 12 50)]
def r269_45 : LO := [o 51 (fa 3 12), o 52 (ld 51), o 53 (.bin .eql (T 52) (ci 1)), o 54 (mv 53), og 55 (fa 5 6) 54 true, og 56 (ld 55) 54 true, og 57 (.func (.func 348) [] [(T 12)]) 54 true, og 58 (.call (cf 242) [(T 56), (T 57)]) 54 true, og 59 (.un .not (T 58)) 54 true, o 60 (.pick (T 54) (T 59) (cb false))]
def r269_46 : LO := [o 8 (mi 14)]
def k269_7 : ACode := .seq (.region r269_45) (.cond (T 60) (.seq (.region r269_46) .ret) .skip)
def r269_54 : LO := [o 61 (.bin .add (T 47) (ci 1)), o 47 (mv 61)]
def k269_8 : ACode := .seq (.block 4 (.seq (.region r269_44) k269_7)) (.region r269_54)
def k269_9 : ACode := .seq (.region r269_40) (.seq (.cond (T 48) .skip (.exit 3)) k269_8)
def r269_61 : LO := [o 62 (fa 6 6), o 63 (ld 62), o 64 (.len false (T 63)), o 65 (mi 0)]
def r269_62 : LO := [o 66 (.bin .lss (T 65) (T 64))]
def r269_66 : LO := [o 67 (.idxSl 4 (T 63) (T 65)), o 68 (ln 4 67), o 14 (.alloc [(aI 0), (aI 0), (aU 0), aE]), on (st 4 14 68)]
def r269_67 : LO := [o 69 (ln 2 4), o 70 (ln 3 5), o 71 (ln 4 14), o 72 (.call (cf 349) [(T 69), (T 70), (T 71)]), o 15 (mv 72)]
def r269_68 : LO := [o 73 (mv 15), o 74 (.bin .neq (T 73) (ci 0))]
def r269_69 : LO := [o 75 (mv 15), o 8 (mv 75)]
def k269_10 : ACode := .seq (.region r269_68) (.cond (T 74) (.seq (.region r269_69) .ret) .skip)
def k269_11 : ACode := .block 6 (.seq (.region r269_66) (.seq (.region r269_67) k269_10))
def r269_78 : LO := [o 76 (.bin .add (T 65) (ci 1)), o 65 (mv 76)]
def k269_12 : ACode := .seq (.cond (T 66) .skip (.exit 5)) (.seq k269_11 (.region r269_78))
def k269_13 : ACode := .seq (.region r269_62) k269_12
def r269_85 : LO := [o 8 (mi 0)]
def k269_14 : ACode := .seq (.seq (.region r269_61) (.block 5 (.loop k269_13))) (.seq (.region r269_85) .ret)
def k269_15 : ACode := .seq (.seq (.region r269_39) (.block 3 (.loop k269_9))) k269_14
def k269_16 : ACode := .seq (.seq (.region r269_15) (.block 1 (.loop k269_6))) k269_15
def k269_17 : ACode := .seq (.region r269_0) (.seq (.block 0 k269_2) k269_16)
theorem fn269 : getFn Tryz.prog 269 = some (77, k269_17, [.tmp 8]) := by kernel_rfl
end Go.Proofs.YtkhgohfaecbgkaaGreatDoor.Lift
