/- RetryBounded: its inner loop, cut out of the walk. -/
import Derived.Test.YtmihbfknhflfiaaRetryFacts
import Derived.Test.YtmihbfknhflfiaaRetryCalls
import Derived.Test.YtmihbfknhflfiaaClass
namespace Go.Proofs.Ytmihbfknhflfiaa
open Go.RowKit

/-- The first loop in a code. -/
def firstLoop : Code → Option Code
  | .loop c => some c
  | .seq a b => match firstLoop a with
    | some c => some c
    | none => firstLoop b
  | .block _ c => firstLoop c
  | .scope c => firstLoop c
  | .cond _ a b => match firstLoop a with
    | some c => some c
    | none => firstLoop b
  | _ => none
noncomputable def outerBody : Code := ((Try.f8.body.bind firstLoop).getD .skip)
noncomputable def innerBody : Code := ((firstLoop outerBody).getD .skip)

theorem ReadsQ.keep {w w' : World} {v : Value} {n : Nat} (h : ReadsQ w v n) (hb : Below w.heap.size w w') : ReadsQ w' v n := by
  obtain ⟨ao, c, hv, hn, hr⟩ := h
  refine ⟨ao, c, hv, hn, hr.imp id ?_⟩
  rintro ⟨b, o, ha, hc⟩
  refine ⟨b, o, ha, fun i hi => ?_⟩
  obtain ⟨x, y, z, h0, h1, h2⟩ := hc i hi
  have hl := World.block_lt_of_cell? w _ h0
  exact ⟨x, y, z, held_cell hb hl h0, held_cell hb hl h1, held_cell hb hl h2⟩

/-- What the outer loop keeps in memory: the policy's cells, and the block of what is left of the budget. -/
def BMem (B K : Nat) (a b c d lt m g : Int) (w : World) : Prop :=
  (w.cell? ⟨B, 0, none⟩ = some (.int .i64 a) ∧ w.cell? ⟨B, 1, none⟩ = some (.int .i64 b) ∧ w.cell? ⟨B, 2, none⟩ = some (.int .i64 c) ∧ w.cell? ⟨B, 3, none⟩ = some (.int .i64 d)) ∧
  w.heap[K]? = some (.cells #[.int .i64 lt, .int .i64 m, .int .i64 g] 25 (0, 0)) ∧ B + 1 ≤ K
theorem BMem.lt {B K : Nat} {a b c d lt m g : Int} {w : World} (h : BMem B K a b c d lt m g w) : K < w.heap.size := blk_lt h.2.1
theorem BMem.keep {B K : Nat} {a b c d lt m g : Int} {w w' : World} (h : BMem B K a b c d lt m g w) (hb : Below w.heap.size w w') : BMem B K a b c d lt m g w' := by
  have hl := h.lt
  obtain ⟨⟨h1, h2, h3, h4⟩, h5, h6⟩ := h
  exact ⟨⟨held_cell hb (by omega) h1, held_cell hb (by omega) h2, held_cell hb (by omega) h3, held_cell hb (by omega) h4⟩, blk_keep hb h5, h6⟩
theorem BMem.left {B K : Nat} {a b c d lt m g : Int} {w : World} (h : BMem B K a b c d lt m g w) (lt' : Int) : BMem B K a b c d lt' m g (set3 w K (.int .i64 lt') (.int .i64 m) (.int .i64 g)) := by
  obtain ⟨⟨h1, h2, h3, h4⟩, h5, h6⟩ := h
  have e : ∀ o, (set3 w K (.int .i64 lt') (.int .i64 m) (.int .i64 g)).cell? ⟨B, o, none⟩ = w.cell? ⟨B, o, none⟩ := fun o => by
    unfold set3
    rw [World.cell?_setCell_far _ _ _ _ (show K ≠ B by omega), World.cell?_setCell_far _ _ _ _ (show K ≠ B by omega), World.cell?_setCell_far _ _ _ _ (show K ≠ B by omega)]
  exact ⟨⟨(e 0).trans h1, (e 1).trans h2, (e 2).trans h3, (e 3).trans h4⟩, set3_blk h5 _ _ _, h6⟩

/-- What the inner loop keeps in memory. -/
def IMem (B K Q C : Nat) (a b c d lt m g x y z fi : Int) (v : Value) (L : List Int) (w wi : World) : Prop :=
  BMem B K a b c d lt m g wi ∧ wi.heap[Q]? = some (.cells #[.int .i64 x, .int .i64 y, .int .i64 z] 40 (0, 0)) ∧
  wi.heap[C]? = some (.cells #[.int .i64 fi, .int .i64 m, .int .i64 g] 25 (0, 0)) ∧ ReadsI wi v L ∧ B ≤ wi.heap.size ∧ Below B w wi
theorem IMem.keep {B K Q C : Nat} {a b c d lt m g x y z fi : Int} {v : Value} {L : List Int} {w wi w' : World} (h : IMem B K Q C a b c d lt m g x y z fi v L w wi) (hb : Below wi.heap.size wi w') : IMem B K Q C a b c d lt m g x y z fi v L w w' :=
  ⟨h.1.keep hb, blk_keep hb h.2.1, blk_keep hb h.2.2.1, h.2.2.2.1.keep hb, held_size hb h.2.2.2.2.1, h.2.2.2.2.2.trans (hb.mono h.2.2.2.2.1)⟩
/-- The relation of the inner loop. -/
def BInner (B K Q C : Nat) (a b c d lt m g x y z fi : Int) (v : Value) (L : List Int) (w : World) (i : Value) (wi : World) : Prop :=
  ∃ j : Nat, j ≤ L.length ∧ i = .int .i64 j ∧ IMem B K Q C a b c d lt m g x y z fi v L w wi

/-- The inner loop at one round. -/
def IStep (B K Q C gg nl c4 j : Nat) (a b c d lt m g x y z fi v1 v2 : Int) (L : List Int) (w w' : World) : Prop :=
  IMem B K Q C a b c d lt m g x y z fi (.slice (some ⟨gg, 0, none⟩) nl c4) L w w' ∧ w'.cell? ⟨gg, j, none⟩ = some (.int .i64 v1) ∧ w'.cell? ⟨gg, j - 1, none⟩ = some (.int .i64 v2)
theorem held_at {w' w'' : World} (hb : Below w'.heap.size w' w'') {b o : Nat} {v : Value} (h : w'.cell? ⟨b, o, none⟩ = some v) : w''.cell? ⟨b, o, none⟩ = some v := held_cell hb (World.block_lt_of_cell? _ _ h) h
theorem IStep.keep {B K Q C gg nl c4 j : Nat} {a b c d lt m g x y z fi v1 v2 : Int} {L : List Int} {w w1 w' : World} (h : IStep B K Q C gg nl c4 j a b c d lt m g x y z fi v1 v2 L w w1) (hb : Below w1.heap.size w1 w') : IStep B K Q C gg nl c4 j a b c d lt m g x y z fi v1 v2 L w w' := ⟨h.1.keep hb, held_at hb h.2.1, held_at hb h.2.2⟩

set_option maxRecDepth 1000000 in
/-- The inner loop's invariant, over the frame written out. -/
def WI (B K Qb C gg nl c4 : Nat) (a b c d lt m g x y z fi : Int) (L : List Int) (w : World) (k0 k1 k2 k3 k5 k6 k7 k9 k10 k11 k14 k16 k17 k18 k19 k20 k21 k22 k23 k24 k25 k26 k27 k28 k29 k30 k31 k32 k33 k34 k35 k36 k37 k38 k39 k40 k41 k42 k43 k44 k45 k46 k47 k48 k49 k50 k51 k52 k53 k54 k55 k56 k57 k58 k59 k60 k61 k62 k63 k64 k65 k66 k67 k68 k69 k70 k71 k72 k73 k74 k75 k76 k77 k78 k79 k80 k81 k133 k134 k135 k136 k137 k138 k139 k140 k141 k142 k143 k144 k145 k146 k147 : Value) (a' : Act) (w' : World) : Prop :=
  ∃ (i u8 u82 u83 u84 u85 u86 u87 u88 u89 u90 u91 u92 u93 u94 u95 u96 u97 u98 u99 u100 u101 u102 u103 u104 u105 u106 u107 u108 u109 u110 u111 u112 u113 u114 u115 u116 u117 u118 u119 u120 u121 u122 u123 u124 u125 u126 u127 u128 u129 u130 u131 u132 : Value), BInner B K Qb C a b c d lt m g x y z fi (.slice (some ⟨gg, 0, none⟩) nl c4) L w i w' ∧ a' = ⟨#[k0, k1, k2, k3, .pointer (some ⟨B, 0, none⟩), k5, k6, k7, u8, k9, k10, k11, .pointer (some ⟨Qb, 0, none⟩), .slice (some ⟨gg, 0, none⟩) nl c4, k14, i, k16, k17, k18, k19, k20, k21, k22, k23, k24, k25, k26, k27, k28, k29, k30, k31, k32, k33, k34, k35, k36, k37, k38, k39, k40, k41, k42, k43, k44, k45, k46, k47, k48, k49, k50, k51, k52, k53, k54, k55, k56, k57, k58, k59, k60, k61, k62, k63, k64, k65, k66, k67, k68, k69, k70, k71, k72, k73, k74, k75, k76, k77, k78, k79, k80, k81, u82, u83, u84, u85, u86, u87, u88, u89, u90, u91, u92, u93, u94, u95, u96, u97, u98, u99, u100, u101, u102, u103, u104, u105, u106, u107, u108, u109, u110, u111, u112, u113, u114, u115, u116, u117, u118, u119, u120, u121, u122, u123, u124, u125, u126, u127, u128, u129, u130, u131, u132, k133, k134, k135, k136, k137, k138, k139, k140, k141, k142, k143, k144, k145, k146, k147], []⟩
def Wmu (nl : Nat) (a' : Act) (_ : World) : Nat := nl - (intOf (a'.tmps.getD 15 undef)).toNat

set_option maxRecDepth 1000000 in
set_option maxHeartbeats 4000000 in
set_option linter.unusedVariables false in
theorem inner_zero_pos (B K Qb C gg nl c4 : Nat) (a b c d lt m g x y z fi : Int) (L : List Int) (w : World) (k0 k1 k2 k3 k5 k6 k7 k9 k10 k11 k14 k16 k17 k18 k19 k20 k21 k22 k23 k24 k25 k26 k27 k28 k29 k30 k31 k32 k33 k34 k35 k36 k37 k38 k39 k40 k41 k42 k43 k44 k45 k46 k47 k48 k49 k50 k51 k52 k53 k54 k55 k56 k57 k58 k59 k60 k61 k62 k63 k64 k65 k66 k67 k68 k69 k70 k71 k72 k73 k74 k75 k76 k77 k78 k79 k80 k81 k133 k134 k135 k136 k137 k138 k139 k140 k141 k142 k143 k144 k145 k146 k147 : Value) (u8 u82 u83 u84 u85 u86 u87 u88 u89 u90 u91 u92 u93 u94 u95 u96 u97 u98 u99 u100 u101 u102 u103 u104 u105 u106 u107 u108 u109 u110 u111 u112 u113 u114 u115 u116 u117 u118 u119 u120 u121 u122 u123 u124 u125 u126 u127 u128 u129 u130 u131 u132 : Value) (wr : World) (j : Nat) (Q0 : Exit → Act → World → Prop)
    (hjn : j < nl) (hnl10 : nl ≤ 10) (HN : Hid (L.length = nl)) (HI : Hid (IMem B K Qb C a b c d lt m g x y z fi (.slice (some ⟨gg, 0, none⟩) nl c4) L w wr)) (hj : j = 0) (d1 : wr.cell? ⟨gg, j, none⟩ = some (.int .i64 x)) (d0 : wr.cell? ⟨gg, 0, none⟩ = some (.int .i64 x)) (hy : decide (0 < y) = true) (hyv : decide (y ≤ x) = false) :
    Code.wp Try.prog innerBody (Exit.then (fun a' w'' => WI B K Qb C gg nl c4 a b c d lt m g x y z fi L w k0 k1 k2 k3 k5 k6 k7 k9 k10 k11 k14 k16 k17 k18 k19 k20 k21 k22 k23 k24 k25 k26 k27 k28 k29 k30 k31 k32 k33 k34 k35 k36 k37 k38 k39 k40 k41 k42 k43 k44 k45 k46 k47 k48 k49 k50 k51 k52 k53 k54 k55 k56 k57 k58 k59 k60 k61 k62 k63 k64 k65 k66 k67 k68 k69 k70 k71 k72 k73 k74 k75 k76 k77 k78 k79 k80 k81 k133 k134 k135 k136 k137 k138 k139 k140 k141 k142 k143 k144 k145 k146 k147 a' w'' ∧ Wmu nl a' w'' < Wmu nl ⟨#[k0, k1, k2, k3, .pointer (some ⟨B, 0, none⟩), k5, k6, k7, u8, k9, k10, k11, .pointer (some ⟨Qb, 0, none⟩), .slice (some ⟨gg, 0, none⟩) nl c4, k14, .int .i64 j, k16, k17, k18, k19, k20, k21, k22, k23, k24, k25, k26, k27, k28, k29, k30, k31, k32, k33, k34, k35, k36, k37, k38, k39, k40, k41, k42, k43, k44, k45, k46, k47, k48, k49, k50, k51, k52, k53, k54, k55, k56, k57, k58, k59, k60, k61, k62, k63, k64, k65, k66, k67, k68, k69, k70, k71, k72, k73, k74, k75, k76, k77, k78, k79, k80, k81, u82, u83, u84, u85, u86, u87, u88, u89, u90, u91, u92, u93, u94, u95, u96, u97, u98, u99, u100, u101, u102, u103, u104, u105, u106, u107, u108, u109, u110, u111, u112, u113, u114, u115, u116, u117, u118, u119, u120, u121, u122, u123, u124, u125, u126, u127, u128, u129, u130, u131, u132, k133, k134, k135, k136, k137, k138, k139, k140, k141, k142, k143, k144, k145, k146, k147], []⟩ wr) Q0) ⟨#[k0, k1, k2, k3, .pointer (some ⟨B, 0, none⟩), k5, k6, k7, u8, k9, k10, k11, .pointer (some ⟨Qb, 0, none⟩), .slice (some ⟨gg, 0, none⟩) nl c4, k14, .int .i64 j, k16, k17, k18, k19, k20, k21, k22, k23, k24, k25, k26, k27, k28, k29, k30, k31, k32, k33, k34, k35, k36, k37, k38, k39, k40, k41, k42, k43, k44, k45, k46, k47, k48, k49, k50, k51, k52, k53, k54, k55, k56, k57, k58, k59, k60, k61, k62, k63, k64, k65, k66, k67, k68, k69, k70, k71, k72, k73, k74, k75, k76, k77, k78, k79, k80, k81, u82, u83, u84, u85, u86, u87, u88, u89, u90, u91, u92, u93, u94, u95, u96, u97, u98, u99, u100, u101, u102, u103, u104, u105, u106, u107, u108, u109, u110, u111, u112, u113, u114, u115, u116, u117, u118, u119, u120, u121, u122, u123, u124, u125, u126, u127, u128, u129, u130, u131, u132, k133, k134, k135, k136, k137, k138, k139, k140, k141, k142, k143, k144, k145, k146, k147], []⟩ wr := by
  conv => arg 2; whnf
  have hnl0 : 0 < nl := by omega
  have hnl1 : (0 : Int) < (nl : Int) := by omega
  have hjz2 : (j : Int) ≤ 0 := by omega
  have hj1 : (j : Int) < (nl : Int) := by omega
  have hj0 : (0 : Int) ≤ (j : Int) := by omega
  have hjz1 : ((j : Int) == 0) = true := by simp; omega
  have hjz3 : decide ((0 : Nat) < j) = false := by simp; omega
  have e0 := blk_cell HI.out.2.1 0 rfl
  have e1 := blk_cell HI.out.2.1 1 rfl
  have e2 := blk_cell HI.out.2.1 2 rfl
  have HJ := Lib.hid hj; clear hj
  go_wp2_with fail
  go_big_quiet (fail)
  go_wp2_with fail
  refine ⟨?_, by simp [Wmu, intOf]; omega⟩
  unfold WI
  refine ⟨_, _, _, _, _, _, _, _, _, _, _, _, _, _, _, _, _, _, _, _, _, _, _, _, _, _, _, _, _, _, _, _, _, _, _, _, _, _, _, _, _, _, _, _, _, _, _, _, _, _, _, _, _, ⟨j + 1, by rw [HN.out]; omega, by go_num, ?_⟩, rfl⟩
  exact HI.out.keep (Joins.below_draws _ _ _)

set_option maxRecDepth 1000000 in
set_option maxHeartbeats 4000000 in
set_option linter.unusedVariables false in
theorem inner_zero_no (B K Qb C gg nl c4 : Nat) (a b c d lt m g x y z fi : Int) (L : List Int) (w : World) (k0 k1 k2 k3 k5 k6 k7 k9 k10 k11 k14 k16 k17 k18 k19 k20 k21 k22 k23 k24 k25 k26 k27 k28 k29 k30 k31 k32 k33 k34 k35 k36 k37 k38 k39 k40 k41 k42 k43 k44 k45 k46 k47 k48 k49 k50 k51 k52 k53 k54 k55 k56 k57 k58 k59 k60 k61 k62 k63 k64 k65 k66 k67 k68 k69 k70 k71 k72 k73 k74 k75 k76 k77 k78 k79 k80 k81 k133 k134 k135 k136 k137 k138 k139 k140 k141 k142 k143 k144 k145 k146 k147 : Value) (u8 u82 u83 u84 u85 u86 u87 u88 u89 u90 u91 u92 u93 u94 u95 u96 u97 u98 u99 u100 u101 u102 u103 u104 u105 u106 u107 u108 u109 u110 u111 u112 u113 u114 u115 u116 u117 u118 u119 u120 u121 u122 u123 u124 u125 u126 u127 u128 u129 u130 u131 u132 : Value) (wr : World) (j : Nat) (Q0 : Exit → Act → World → Prop)
    (hjn : j < nl) (hnl10 : nl ≤ 10) (HN : Hid (L.length = nl)) (HI : Hid (IMem B K Qb C a b c d lt m g x y z fi (.slice (some ⟨gg, 0, none⟩) nl c4) L w wr)) (hj : j = 0) (d1 : wr.cell? ⟨gg, j, none⟩ = some (.int .i64 x)) (d0 : wr.cell? ⟨gg, 0, none⟩ = some (.int .i64 x)) (hy : decide (0 < y) = false) :
    Code.wp Try.prog innerBody (Exit.then (fun a' w'' => WI B K Qb C gg nl c4 a b c d lt m g x y z fi L w k0 k1 k2 k3 k5 k6 k7 k9 k10 k11 k14 k16 k17 k18 k19 k20 k21 k22 k23 k24 k25 k26 k27 k28 k29 k30 k31 k32 k33 k34 k35 k36 k37 k38 k39 k40 k41 k42 k43 k44 k45 k46 k47 k48 k49 k50 k51 k52 k53 k54 k55 k56 k57 k58 k59 k60 k61 k62 k63 k64 k65 k66 k67 k68 k69 k70 k71 k72 k73 k74 k75 k76 k77 k78 k79 k80 k81 k133 k134 k135 k136 k137 k138 k139 k140 k141 k142 k143 k144 k145 k146 k147 a' w'' ∧ Wmu nl a' w'' < Wmu nl ⟨#[k0, k1, k2, k3, .pointer (some ⟨B, 0, none⟩), k5, k6, k7, u8, k9, k10, k11, .pointer (some ⟨Qb, 0, none⟩), .slice (some ⟨gg, 0, none⟩) nl c4, k14, .int .i64 j, k16, k17, k18, k19, k20, k21, k22, k23, k24, k25, k26, k27, k28, k29, k30, k31, k32, k33, k34, k35, k36, k37, k38, k39, k40, k41, k42, k43, k44, k45, k46, k47, k48, k49, k50, k51, k52, k53, k54, k55, k56, k57, k58, k59, k60, k61, k62, k63, k64, k65, k66, k67, k68, k69, k70, k71, k72, k73, k74, k75, k76, k77, k78, k79, k80, k81, u82, u83, u84, u85, u86, u87, u88, u89, u90, u91, u92, u93, u94, u95, u96, u97, u98, u99, u100, u101, u102, u103, u104, u105, u106, u107, u108, u109, u110, u111, u112, u113, u114, u115, u116, u117, u118, u119, u120, u121, u122, u123, u124, u125, u126, u127, u128, u129, u130, u131, u132, k133, k134, k135, k136, k137, k138, k139, k140, k141, k142, k143, k144, k145, k146, k147], []⟩ wr) Q0) ⟨#[k0, k1, k2, k3, .pointer (some ⟨B, 0, none⟩), k5, k6, k7, u8, k9, k10, k11, .pointer (some ⟨Qb, 0, none⟩), .slice (some ⟨gg, 0, none⟩) nl c4, k14, .int .i64 j, k16, k17, k18, k19, k20, k21, k22, k23, k24, k25, k26, k27, k28, k29, k30, k31, k32, k33, k34, k35, k36, k37, k38, k39, k40, k41, k42, k43, k44, k45, k46, k47, k48, k49, k50, k51, k52, k53, k54, k55, k56, k57, k58, k59, k60, k61, k62, k63, k64, k65, k66, k67, k68, k69, k70, k71, k72, k73, k74, k75, k76, k77, k78, k79, k80, k81, u82, u83, u84, u85, u86, u87, u88, u89, u90, u91, u92, u93, u94, u95, u96, u97, u98, u99, u100, u101, u102, u103, u104, u105, u106, u107, u108, u109, u110, u111, u112, u113, u114, u115, u116, u117, u118, u119, u120, u121, u122, u123, u124, u125, u126, u127, u128, u129, u130, u131, u132, k133, k134, k135, k136, k137, k138, k139, k140, k141, k142, k143, k144, k145, k146, k147], []⟩ wr := by
  conv => arg 2; whnf
  have hnl0 : 0 < nl := by omega
  have hnl1 : (0 : Int) < (nl : Int) := by omega
  have hjz2 : (j : Int) ≤ 0 := by omega
  have hj1 : (j : Int) < (nl : Int) := by omega
  have hj0 : (0 : Int) ≤ (j : Int) := by omega
  have hjz1 : ((j : Int) == 0) = true := by simp; omega
  have hjz3 : decide ((0 : Nat) < j) = false := by simp; omega
  have e0 := blk_cell HI.out.2.1 0 rfl
  have e1 := blk_cell HI.out.2.1 1 rfl
  have e2 := blk_cell HI.out.2.1 2 rfl
  have HJ := Lib.hid hj; clear hj
  go_wp2_with fail
  go_big_quiet (fail)
  go_wp2_with fail
  refine ⟨?_, by simp [Wmu, intOf]; omega⟩
  unfold WI
  refine ⟨_, _, _, _, _, _, _, _, _, _, _, _, _, _, _, _, _, _, _, _, _, _, _, _, _, _, _, _, _, _, _, _, _, _, _, _, _, _, _, _, _, _, _, _, _, _, _, _, _, _, _, _, _, ⟨j + 1, by rw [HN.out]; omega, by go_num, ?_⟩, rfl⟩
  exact HI.out.keep (Joins.below_draws _ _ _)

set_option maxRecDepth 1000000 in
set_option maxHeartbeats 4000000 in
set_option linter.unusedVariables false in
theorem inner_pos_pos (B K Qb C gg nl c4 : Nat) (a b c d lt m g x y z fi : Int) (L : List Int) (w : World) (k0 k1 k2 k3 k5 k6 k7 k9 k10 k11 k14 k16 k17 k18 k19 k20 k21 k22 k23 k24 k25 k26 k27 k28 k29 k30 k31 k32 k33 k34 k35 k36 k37 k38 k39 k40 k41 k42 k43 k44 k45 k46 k47 k48 k49 k50 k51 k52 k53 k54 k55 k56 k57 k58 k59 k60 k61 k62 k63 k64 k65 k66 k67 k68 k69 k70 k71 k72 k73 k74 k75 k76 k77 k78 k79 k80 k81 k133 k134 k135 k136 k137 k138 k139 k140 k141 k142 k143 k144 k145 k146 k147 : Value) (u8 u82 u83 u84 u85 u86 u87 u88 u89 u90 u91 u92 u93 u94 u95 u96 u97 u98 u99 u100 u101 u102 u103 u104 u105 u106 u107 u108 u109 u110 u111 u112 u113 u114 u115 u116 u117 u118 u119 u120 u121 u122 u123 u124 u125 u126 u127 u128 u129 u130 u131 u132 : Value) (wr : World) (j : Nat) (Q0 : Exit → Act → World → Prop)
    (hjn : j < nl) (hnl10 : nl ≤ 10) (HN : Hid (L.length = nl)) (HI : Hid (IMem B K Qb C a b c d lt m g x y z fi (.slice (some ⟨gg, 0, none⟩) nl c4) L w wr)) (hj : 0 < j) (v1 v2 pz : Int) (d1 : wr.cell? ⟨gg, j, none⟩ = some (.int .i64 v1)) (d2 : wr.cell? ⟨gg, j - 1, none⟩ = some (.int .i64 v2)) (KP : Hid (∀ w : World, Calls Try.prog 15 #[.agg #[.int .i64 a, .int .i64 b, .int .i64 c, .int .i64 d], .int .i64 j] w fun e w' => e = .returned (.int .i64 pz) ∧ Below w.heap.size w w')) (hv2 : 0 ≤ v2 ∧ v2 ≤ 1099511627776) (hpz : 0 ≤ pz ∧ pz ≤ 1099511627776) (hmin : (if 1099511627776 < v2 + pz then 1099511627776 else v2 + pz) = v1) (hy : decide (0 < y) = true) (hyv : decide (y ≤ v1) = false) :
    Code.wp Try.prog innerBody (Exit.then (fun a' w'' => WI B K Qb C gg nl c4 a b c d lt m g x y z fi L w k0 k1 k2 k3 k5 k6 k7 k9 k10 k11 k14 k16 k17 k18 k19 k20 k21 k22 k23 k24 k25 k26 k27 k28 k29 k30 k31 k32 k33 k34 k35 k36 k37 k38 k39 k40 k41 k42 k43 k44 k45 k46 k47 k48 k49 k50 k51 k52 k53 k54 k55 k56 k57 k58 k59 k60 k61 k62 k63 k64 k65 k66 k67 k68 k69 k70 k71 k72 k73 k74 k75 k76 k77 k78 k79 k80 k81 k133 k134 k135 k136 k137 k138 k139 k140 k141 k142 k143 k144 k145 k146 k147 a' w'' ∧ Wmu nl a' w'' < Wmu nl ⟨#[k0, k1, k2, k3, .pointer (some ⟨B, 0, none⟩), k5, k6, k7, u8, k9, k10, k11, .pointer (some ⟨Qb, 0, none⟩), .slice (some ⟨gg, 0, none⟩) nl c4, k14, .int .i64 j, k16, k17, k18, k19, k20, k21, k22, k23, k24, k25, k26, k27, k28, k29, k30, k31, k32, k33, k34, k35, k36, k37, k38, k39, k40, k41, k42, k43, k44, k45, k46, k47, k48, k49, k50, k51, k52, k53, k54, k55, k56, k57, k58, k59, k60, k61, k62, k63, k64, k65, k66, k67, k68, k69, k70, k71, k72, k73, k74, k75, k76, k77, k78, k79, k80, k81, u82, u83, u84, u85, u86, u87, u88, u89, u90, u91, u92, u93, u94, u95, u96, u97, u98, u99, u100, u101, u102, u103, u104, u105, u106, u107, u108, u109, u110, u111, u112, u113, u114, u115, u116, u117, u118, u119, u120, u121, u122, u123, u124, u125, u126, u127, u128, u129, u130, u131, u132, k133, k134, k135, k136, k137, k138, k139, k140, k141, k142, k143, k144, k145, k146, k147], []⟩ wr) Q0) ⟨#[k0, k1, k2, k3, .pointer (some ⟨B, 0, none⟩), k5, k6, k7, u8, k9, k10, k11, .pointer (some ⟨Qb, 0, none⟩), .slice (some ⟨gg, 0, none⟩) nl c4, k14, .int .i64 j, k16, k17, k18, k19, k20, k21, k22, k23, k24, k25, k26, k27, k28, k29, k30, k31, k32, k33, k34, k35, k36, k37, k38, k39, k40, k41, k42, k43, k44, k45, k46, k47, k48, k49, k50, k51, k52, k53, k54, k55, k56, k57, k58, k59, k60, k61, k62, k63, k64, k65, k66, k67, k68, k69, k70, k71, k72, k73, k74, k75, k76, k77, k78, k79, k80, k81, u82, u83, u84, u85, u86, u87, u88, u89, u90, u91, u92, u93, u94, u95, u96, u97, u98, u99, u100, u101, u102, u103, u104, u105, u106, u107, u108, u109, u110, u111, u112, u113, u114, u115, u116, u117, u118, u119, u120, u121, u122, u123, u124, u125, u126, u127, u128, u129, u130, u131, u132, k133, k134, k135, k136, k137, k138, k139, k140, k141, k142, k143, k144, k145, k146, k147], []⟩ wr := by
  conv => arg 2; whnf
  have hnl0 : 0 < nl := by omega
  have hj1 : (j : Int) < (nl : Int) := by omega
  have hj0 : (0 : Int) ≤ (j : Int) := by omega
  have hjz1 : ((j : Int) == 0) = false := by simp; omega
  have hjz3 : decide ((0 : Nat) < j) = true := by simp; omega
  have hjz6 : (j == 0) = false := by simp; omega
  have hjz7 : ¬ j = 0 := by omega
  have hjz5 : decide ((0 : Int) < (j : Int)) = true := by simp; omega
  have W1 : IntKind.i64.wrap ((j : Int) - 1) = (j : Int) - 1 := IntWalk.i64_in _ (by omega)
  have W2 : (0 : Int) ≤ (j : Int) - 1 := by omega
  have W3 : (j : Int) - 1 < (nl : Int) := by omega
  have W4 : ((j : Int) - 1).toNat = j - 1 := by omega
  have W5 : IntKind.i64.wrap (v2 + pz) = v2 + pz := IntWalk.i64_in _ (by omega)
  have e0 := blk_cell HI.out.2.1 0 rfl
  have e1 := blk_cell HI.out.2.1 1 rfl
  have e2 := blk_cell HI.out.2.1 2 rfl
  have p0 := HI.out.1.1.1
  have p1 := HI.out.1.1.2.1
  have p2 := HI.out.1.1.2.2.1
  have p3 := HI.out.1.1.2.2.2
  have HJ := Lib.hid hj; clear hj
  clear hv2 hpz
  have h0 : IStep B K Qb C gg nl c4 j a b c d lt m g x y z fi v1 v2 L w wr.drew := ⟨HI.out.keep (Joins.below_draws _ _ 1), d1, d2⟩
  haveI : Nonempty (InClass (IStep B K Qb C gg nl c4 j a b c d lt m g x y z fi v1 v2 L w)) := ⟨⟨_, h0⟩⟩
  go_wp2_with fail
  clear e0 e1 e2 p0 p1 p2 p3 d1 d2
  have s0 : ∀ s : InClass (IStep B K Qb C gg nl c4 j a b c d lt m g x y z fi v1 v2 L w), s.w.cell? ⟨B, 0, none⟩ = some (.int .i64 a) := fun s => s.h.1.1.1.1
  have s1 : ∀ s : InClass (IStep B K Qb C gg nl c4 j a b c d lt m g x y z fi v1 v2 L w), s.w.cell? ⟨B, 1, none⟩ = some (.int .i64 b) := fun s => s.h.1.1.1.2.1
  have s2 : ∀ s : InClass (IStep B K Qb C gg nl c4 j a b c d lt m g x y z fi v1 v2 L w), s.w.cell? ⟨B, 2, none⟩ = some (.int .i64 c) := fun s => s.h.1.1.1.2.2.1
  have s3 : ∀ s : InClass (IStep B K Qb C gg nl c4 j a b c d lt m g x y z fi v1 v2 L w), s.w.cell? ⟨B, 3, none⟩ = some (.int .i64 d) := fun s => s.h.1.1.1.2.2.2
  have s4 : ∀ s : InClass (IStep B K Qb C gg nl c4 j a b c d lt m g x y z fi v1 v2 L w), s.w.cell? ⟨Qb, 0, none⟩ = some (.int .i64 x) := fun s => blk_cell s.h.1.2.1 0 rfl
  have s5 : ∀ s : InClass (IStep B K Qb C gg nl c4 j a b c d lt m g x y z fi v1 v2 L w), s.w.cell? ⟨Qb, 1, none⟩ = some (.int .i64 y) := fun s => blk_cell s.h.1.2.1 1 rfl
  have s6 : ∀ s : InClass (IStep B K Qb C gg nl c4 j a b c d lt m g x y z fi v1 v2 L w), s.w.cell? ⟨gg, j, none⟩ = some (.int .i64 v1) := fun s => s.h.2.1
  have s7 : ∀ s : InClass (IStep B K Qb C gg nl c4 j a b c d lt m g x y z fi v1 v2 L w), s.w.cell? ⟨gg, j - 1, none⟩ = some (.int .i64 v2) := fun s => s.h.2.2
  refine wp_region_class (IStep B K Qb C gg nl c4 j a b c d lt m g x y z fi v1 v2 L w) (by kernel_rfl) (by kernel_rfl) h0 ?_
  repeat (go_big_quiet_step ((go_at_call 15; exact calls_class (KP.out _) (fun w' hb => IStep.keep (InClass.h _) hb))))
  refine wpQuiet_nil ?_
  rintro _ ⟨sw, rfl⟩
  clear W1 W2 W3 W4 W5 hmin s0 s1 s2 s3 s4 s5 s6 s7
  go_wp2_with fail
  refine ⟨?_, by simp [Wmu, intOf]; omega⟩
  unfold WI
  refine ⟨_, _, _, _, _, _, _, _, _, _, _, _, _, _, _, _, _, _, _, _, _, _, _, _, _, _, _, _, _, _, _, _, _, _, _, _, _, _, _, _, _, _, _, _, _, _, _, _, _, _, _, _, _, ⟨j + 1, by rw [HN.out]; omega, by go_num, ?_⟩, rfl⟩
  exact sw.h.1

set_option maxRecDepth 1000000 in
set_option maxHeartbeats 4000000 in
set_option linter.unusedVariables false in
theorem inner_pos_no (B K Qb C gg nl c4 : Nat) (a b c d lt m g x y z fi : Int) (L : List Int) (w : World) (k0 k1 k2 k3 k5 k6 k7 k9 k10 k11 k14 k16 k17 k18 k19 k20 k21 k22 k23 k24 k25 k26 k27 k28 k29 k30 k31 k32 k33 k34 k35 k36 k37 k38 k39 k40 k41 k42 k43 k44 k45 k46 k47 k48 k49 k50 k51 k52 k53 k54 k55 k56 k57 k58 k59 k60 k61 k62 k63 k64 k65 k66 k67 k68 k69 k70 k71 k72 k73 k74 k75 k76 k77 k78 k79 k80 k81 k133 k134 k135 k136 k137 k138 k139 k140 k141 k142 k143 k144 k145 k146 k147 : Value) (u8 u82 u83 u84 u85 u86 u87 u88 u89 u90 u91 u92 u93 u94 u95 u96 u97 u98 u99 u100 u101 u102 u103 u104 u105 u106 u107 u108 u109 u110 u111 u112 u113 u114 u115 u116 u117 u118 u119 u120 u121 u122 u123 u124 u125 u126 u127 u128 u129 u130 u131 u132 : Value) (wr : World) (j : Nat) (Q0 : Exit → Act → World → Prop)
    (hjn : j < nl) (hnl10 : nl ≤ 10) (HN : Hid (L.length = nl)) (HI : Hid (IMem B K Qb C a b c d lt m g x y z fi (.slice (some ⟨gg, 0, none⟩) nl c4) L w wr)) (hj : 0 < j) (v1 v2 pz : Int) (d1 : wr.cell? ⟨gg, j, none⟩ = some (.int .i64 v1)) (d2 : wr.cell? ⟨gg, j - 1, none⟩ = some (.int .i64 v2)) (KP : Hid (∀ w : World, Calls Try.prog 15 #[.agg #[.int .i64 a, .int .i64 b, .int .i64 c, .int .i64 d], .int .i64 j] w fun e w' => e = .returned (.int .i64 pz) ∧ Below w.heap.size w w')) (hv2 : 0 ≤ v2 ∧ v2 ≤ 1099511627776) (hpz : 0 ≤ pz ∧ pz ≤ 1099511627776) (hmin : (if 1099511627776 < v2 + pz then 1099511627776 else v2 + pz) = v1) (hy : decide (0 < y) = false) :
    Code.wp Try.prog innerBody (Exit.then (fun a' w'' => WI B K Qb C gg nl c4 a b c d lt m g x y z fi L w k0 k1 k2 k3 k5 k6 k7 k9 k10 k11 k14 k16 k17 k18 k19 k20 k21 k22 k23 k24 k25 k26 k27 k28 k29 k30 k31 k32 k33 k34 k35 k36 k37 k38 k39 k40 k41 k42 k43 k44 k45 k46 k47 k48 k49 k50 k51 k52 k53 k54 k55 k56 k57 k58 k59 k60 k61 k62 k63 k64 k65 k66 k67 k68 k69 k70 k71 k72 k73 k74 k75 k76 k77 k78 k79 k80 k81 k133 k134 k135 k136 k137 k138 k139 k140 k141 k142 k143 k144 k145 k146 k147 a' w'' ∧ Wmu nl a' w'' < Wmu nl ⟨#[k0, k1, k2, k3, .pointer (some ⟨B, 0, none⟩), k5, k6, k7, u8, k9, k10, k11, .pointer (some ⟨Qb, 0, none⟩), .slice (some ⟨gg, 0, none⟩) nl c4, k14, .int .i64 j, k16, k17, k18, k19, k20, k21, k22, k23, k24, k25, k26, k27, k28, k29, k30, k31, k32, k33, k34, k35, k36, k37, k38, k39, k40, k41, k42, k43, k44, k45, k46, k47, k48, k49, k50, k51, k52, k53, k54, k55, k56, k57, k58, k59, k60, k61, k62, k63, k64, k65, k66, k67, k68, k69, k70, k71, k72, k73, k74, k75, k76, k77, k78, k79, k80, k81, u82, u83, u84, u85, u86, u87, u88, u89, u90, u91, u92, u93, u94, u95, u96, u97, u98, u99, u100, u101, u102, u103, u104, u105, u106, u107, u108, u109, u110, u111, u112, u113, u114, u115, u116, u117, u118, u119, u120, u121, u122, u123, u124, u125, u126, u127, u128, u129, u130, u131, u132, k133, k134, k135, k136, k137, k138, k139, k140, k141, k142, k143, k144, k145, k146, k147], []⟩ wr) Q0) ⟨#[k0, k1, k2, k3, .pointer (some ⟨B, 0, none⟩), k5, k6, k7, u8, k9, k10, k11, .pointer (some ⟨Qb, 0, none⟩), .slice (some ⟨gg, 0, none⟩) nl c4, k14, .int .i64 j, k16, k17, k18, k19, k20, k21, k22, k23, k24, k25, k26, k27, k28, k29, k30, k31, k32, k33, k34, k35, k36, k37, k38, k39, k40, k41, k42, k43, k44, k45, k46, k47, k48, k49, k50, k51, k52, k53, k54, k55, k56, k57, k58, k59, k60, k61, k62, k63, k64, k65, k66, k67, k68, k69, k70, k71, k72, k73, k74, k75, k76, k77, k78, k79, k80, k81, u82, u83, u84, u85, u86, u87, u88, u89, u90, u91, u92, u93, u94, u95, u96, u97, u98, u99, u100, u101, u102, u103, u104, u105, u106, u107, u108, u109, u110, u111, u112, u113, u114, u115, u116, u117, u118, u119, u120, u121, u122, u123, u124, u125, u126, u127, u128, u129, u130, u131, u132, k133, k134, k135, k136, k137, k138, k139, k140, k141, k142, k143, k144, k145, k146, k147], []⟩ wr := by
  conv => arg 2; whnf
  have hnl0 : 0 < nl := by omega
  have hj1 : (j : Int) < (nl : Int) := by omega
  have hj0 : (0 : Int) ≤ (j : Int) := by omega
  have hjz1 : ((j : Int) == 0) = false := by simp; omega
  have hjz3 : decide ((0 : Nat) < j) = true := by simp; omega
  have hjz6 : (j == 0) = false := by simp; omega
  have hjz7 : ¬ j = 0 := by omega
  have hjz5 : decide ((0 : Int) < (j : Int)) = true := by simp; omega
  have W1 : IntKind.i64.wrap ((j : Int) - 1) = (j : Int) - 1 := IntWalk.i64_in _ (by omega)
  have W2 : (0 : Int) ≤ (j : Int) - 1 := by omega
  have W3 : (j : Int) - 1 < (nl : Int) := by omega
  have W4 : ((j : Int) - 1).toNat = j - 1 := by omega
  have W5 : IntKind.i64.wrap (v2 + pz) = v2 + pz := IntWalk.i64_in _ (by omega)
  have e0 := blk_cell HI.out.2.1 0 rfl
  have e1 := blk_cell HI.out.2.1 1 rfl
  have e2 := blk_cell HI.out.2.1 2 rfl
  have p0 := HI.out.1.1.1
  have p1 := HI.out.1.1.2.1
  have p2 := HI.out.1.1.2.2.1
  have p3 := HI.out.1.1.2.2.2
  have HJ := Lib.hid hj; clear hj
  clear hv2 hpz
  have h0 : IStep B K Qb C gg nl c4 j a b c d lt m g x y z fi v1 v2 L w wr.drew := ⟨HI.out.keep (Joins.below_draws _ _ 1), d1, d2⟩
  haveI : Nonempty (InClass (IStep B K Qb C gg nl c4 j a b c d lt m g x y z fi v1 v2 L w)) := ⟨⟨_, h0⟩⟩
  go_wp2_with fail
  clear e0 e1 e2 p0 p1 p2 p3 d1 d2
  have s0 : ∀ s : InClass (IStep B K Qb C gg nl c4 j a b c d lt m g x y z fi v1 v2 L w), s.w.cell? ⟨B, 0, none⟩ = some (.int .i64 a) := fun s => s.h.1.1.1.1
  have s1 : ∀ s : InClass (IStep B K Qb C gg nl c4 j a b c d lt m g x y z fi v1 v2 L w), s.w.cell? ⟨B, 1, none⟩ = some (.int .i64 b) := fun s => s.h.1.1.1.2.1
  have s2 : ∀ s : InClass (IStep B K Qb C gg nl c4 j a b c d lt m g x y z fi v1 v2 L w), s.w.cell? ⟨B, 2, none⟩ = some (.int .i64 c) := fun s => s.h.1.1.1.2.2.1
  have s3 : ∀ s : InClass (IStep B K Qb C gg nl c4 j a b c d lt m g x y z fi v1 v2 L w), s.w.cell? ⟨B, 3, none⟩ = some (.int .i64 d) := fun s => s.h.1.1.1.2.2.2
  have s4 : ∀ s : InClass (IStep B K Qb C gg nl c4 j a b c d lt m g x y z fi v1 v2 L w), s.w.cell? ⟨Qb, 0, none⟩ = some (.int .i64 x) := fun s => blk_cell s.h.1.2.1 0 rfl
  have s5 : ∀ s : InClass (IStep B K Qb C gg nl c4 j a b c d lt m g x y z fi v1 v2 L w), s.w.cell? ⟨Qb, 1, none⟩ = some (.int .i64 y) := fun s => blk_cell s.h.1.2.1 1 rfl
  have s6 : ∀ s : InClass (IStep B K Qb C gg nl c4 j a b c d lt m g x y z fi v1 v2 L w), s.w.cell? ⟨gg, j, none⟩ = some (.int .i64 v1) := fun s => s.h.2.1
  have s7 : ∀ s : InClass (IStep B K Qb C gg nl c4 j a b c d lt m g x y z fi v1 v2 L w), s.w.cell? ⟨gg, j - 1, none⟩ = some (.int .i64 v2) := fun s => s.h.2.2
  refine wp_region_class (IStep B K Qb C gg nl c4 j a b c d lt m g x y z fi v1 v2 L w) (by kernel_rfl) (by kernel_rfl) h0 ?_
  repeat (go_big_quiet_step ((go_at_call 15; exact calls_class (KP.out _) (fun w' hb => IStep.keep (InClass.h _) hb))))
  refine wpQuiet_nil ?_
  rintro _ ⟨sw, rfl⟩
  clear W1 W2 W3 W4 W5 hmin s0 s1 s2 s3 s4 s5 s6 s7
  go_wp2_with fail
  refine ⟨?_, by simp [Wmu, intOf]; omega⟩
  unfold WI
  refine ⟨_, _, _, _, _, _, _, _, _, _, _, _, _, _, _, _, _, _, _, _, _, _, _, _, _, _, _, _, _, _, _, _, _, _, _, _, _, _, _, _, _, _, _, _, _, _, _, _, _, _, _, _, _, ⟨j + 1, by rw [HN.out]; omega, by go_num, ?_⟩, rfl⟩
  exact sw.h.1

set_option maxRecDepth 1000000 in
set_option maxHeartbeats 4000000 in
set_option linter.unusedVariables false in
theorem inner_exit (B K Qb C gg nl c4 : Nat) (a b c d lt m g x y z fi : Int) (L : List Int) (w : World) (k0 k1 k2 k3 k5 k6 k7 k9 k10 k11 k14 k16 k17 k18 k19 k20 k21 k22 k23 k24 k25 k26 k27 k28 k29 k30 k31 k32 k33 k34 k35 k36 k37 k38 k39 k40 k41 k42 k43 k44 k45 k46 k47 k48 k49 k50 k51 k52 k53 k54 k55 k56 k57 k58 k59 k60 k61 k62 k63 k64 k65 k66 k67 k68 k69 k70 k71 k72 k73 k74 k75 k76 k77 k78 k79 k80 k81 k133 k134 k135 k136 k137 k138 k139 k140 k141 k142 k143 k144 k145 k146 k147 : Value) (u8 u82 u83 u84 u85 u86 u87 u88 u89 u90 u91 u92 u93 u94 u95 u96 u97 u98 u99 u100 u101 u102 u103 u104 u105 u106 u107 u108 u109 u110 u111 u112 u113 u114 u115 u116 u117 u118 u119 u120 u121 u122 u123 u124 u125 u126 u127 u128 u129 u130 u131 u132 : Value) (wr : World) (j : Nat) (Q0 : Exit → Act → World → Prop)
    (hjn : nl ≤ j) (hj : j ≤ nl) (hnl10 : nl ≤ 10) (HN : Hid (L.length = nl)) (HI : Hid (IMem B K Qb C a b c d lt m g x y z fi (.slice (some ⟨gg, 0, none⟩) nl c4) L w wr)) (hexit : ∀ a' w'', WI B K Qb C gg nl c4 a b c d lt m g x y z fi L w k0 k1 k2 k3 k5 k6 k7 k9 k10 k11 k14 k16 k17 k18 k19 k20 k21 k22 k23 k24 k25 k26 k27 k28 k29 k30 k31 k32 k33 k34 k35 k36 k37 k38 k39 k40 k41 k42 k43 k44 k45 k46 k47 k48 k49 k50 k51 k52 k53 k54 k55 k56 k57 k58 k59 k60 k61 k62 k63 k64 k65 k66 k67 k68 k69 k70 k71 k72 k73 k74 k75 k76 k77 k78 k79 k80 k81 k133 k134 k135 k136 k137 k138 k139 k140 k141 k142 k143 k144 k145 k146 k147 a' w'' → Q0 (.exit 2) a' w'') :
    Code.wp Try.prog innerBody (Exit.then (fun a' w'' => WI B K Qb C gg nl c4 a b c d lt m g x y z fi L w k0 k1 k2 k3 k5 k6 k7 k9 k10 k11 k14 k16 k17 k18 k19 k20 k21 k22 k23 k24 k25 k26 k27 k28 k29 k30 k31 k32 k33 k34 k35 k36 k37 k38 k39 k40 k41 k42 k43 k44 k45 k46 k47 k48 k49 k50 k51 k52 k53 k54 k55 k56 k57 k58 k59 k60 k61 k62 k63 k64 k65 k66 k67 k68 k69 k70 k71 k72 k73 k74 k75 k76 k77 k78 k79 k80 k81 k133 k134 k135 k136 k137 k138 k139 k140 k141 k142 k143 k144 k145 k146 k147 a' w'' ∧ Wmu nl a' w'' < Wmu nl ⟨#[k0, k1, k2, k3, .pointer (some ⟨B, 0, none⟩), k5, k6, k7, u8, k9, k10, k11, .pointer (some ⟨Qb, 0, none⟩), .slice (some ⟨gg, 0, none⟩) nl c4, k14, .int .i64 j, k16, k17, k18, k19, k20, k21, k22, k23, k24, k25, k26, k27, k28, k29, k30, k31, k32, k33, k34, k35, k36, k37, k38, k39, k40, k41, k42, k43, k44, k45, k46, k47, k48, k49, k50, k51, k52, k53, k54, k55, k56, k57, k58, k59, k60, k61, k62, k63, k64, k65, k66, k67, k68, k69, k70, k71, k72, k73, k74, k75, k76, k77, k78, k79, k80, k81, u82, u83, u84, u85, u86, u87, u88, u89, u90, u91, u92, u93, u94, u95, u96, u97, u98, u99, u100, u101, u102, u103, u104, u105, u106, u107, u108, u109, u110, u111, u112, u113, u114, u115, u116, u117, u118, u119, u120, u121, u122, u123, u124, u125, u126, u127, u128, u129, u130, u131, u132, k133, k134, k135, k136, k137, k138, k139, k140, k141, k142, k143, k144, k145, k146, k147], []⟩ wr) Q0) ⟨#[k0, k1, k2, k3, .pointer (some ⟨B, 0, none⟩), k5, k6, k7, u8, k9, k10, k11, .pointer (some ⟨Qb, 0, none⟩), .slice (some ⟨gg, 0, none⟩) nl c4, k14, .int .i64 j, k16, k17, k18, k19, k20, k21, k22, k23, k24, k25, k26, k27, k28, k29, k30, k31, k32, k33, k34, k35, k36, k37, k38, k39, k40, k41, k42, k43, k44, k45, k46, k47, k48, k49, k50, k51, k52, k53, k54, k55, k56, k57, k58, k59, k60, k61, k62, k63, k64, k65, k66, k67, k68, k69, k70, k71, k72, k73, k74, k75, k76, k77, k78, k79, k80, k81, u82, u83, u84, u85, u86, u87, u88, u89, u90, u91, u92, u93, u94, u95, u96, u97, u98, u99, u100, u101, u102, u103, u104, u105, u106, u107, u108, u109, u110, u111, u112, u113, u114, u115, u116, u117, u118, u119, u120, u121, u122, u123, u124, u125, u126, u127, u128, u129, u130, u131, u132, k133, k134, k135, k136, k137, k138, k139, k140, k141, k142, k143, k144, k145, k146, k147], []⟩ wr := by
  conv => arg 2; whnf
  have HX := Lib.hid hexit; clear hexit
  have hj1 : (nl : Int) ≤ (j : Int) := by omega
  go_wp2_with fail
  refine HX.out _ _ ?_
  unfold WI
  exact ⟨_, _, _, _, _, _, _, _, _, _, _, _, _, _, _, _, _, _, _, _, _, _, _, _, _, _, _, _, _, _, _, _, _, _, _, _, _, _, _, _, _, _, _, _, _, _, _, _, _, _, _, _, _, ⟨j, by rw [HN.out]; exact hj, rfl, HI.out⟩, rfl⟩

set_option maxRecDepth 1000000 in
set_option maxHeartbeats 4000000 in
set_option linter.unusedVariables false in
theorem inner_round (B K Qb C gg nl c4 : Nat) (a b c d lt m g x y z fi : Int) (L : List Int) (w : World) (k0 k1 k2 k3 k5 k6 k7 k9 k10 k11 k14 k16 k17 k18 k19 k20 k21 k22 k23 k24 k25 k26 k27 k28 k29 k30 k31 k32 k33 k34 k35 k36 k37 k38 k39 k40 k41 k42 k43 k44 k45 k46 k47 k48 k49 k50 k51 k52 k53 k54 k55 k56 k57 k58 k59 k60 k61 k62 k63 k64 k65 k66 k67 k68 k69 k70 k71 k72 k73 k74 k75 k76 k77 k78 k79 k80 k81 k133 k134 k135 k136 k137 k138 k139 k140 k141 k142 k143 k144 k145 k146 k147 : Value) (Q0 : Exit → Act → World → Prop) (hp : okP a b c d) (hG : PlanGood a b c d lt m g x y L fi) (hn : L.length = nl) (hne : L ≠ []) (hexit : ∀ a' w'', WI B K Qb C gg nl c4 a b c d lt m g x y z fi L w k0 k1 k2 k3 k5 k6 k7 k9 k10 k11 k14 k16 k17 k18 k19 k20 k21 k22 k23 k24 k25 k26 k27 k28 k29 k30 k31 k32 k33 k34 k35 k36 k37 k38 k39 k40 k41 k42 k43 k44 k45 k46 k47 k48 k49 k50 k51 k52 k53 k54 k55 k56 k57 k58 k59 k60 k61 k62 k63 k64 k65 k66 k67 k68 k69 k70 k71 k72 k73 k74 k75 k76 k77 k78 k79 k80 k81 k133 k134 k135 k136 k137 k138 k139 k140 k141 k142 k143 k144 k145 k146 k147 a' w'' → Q0 (.exit 2) a' w'')
    (a' : Act) (w' : World) (hI : WI B K Qb C gg nl c4 a b c d lt m g x y z fi L w k0 k1 k2 k3 k5 k6 k7 k9 k10 k11 k14 k16 k17 k18 k19 k20 k21 k22 k23 k24 k25 k26 k27 k28 k29 k30 k31 k32 k33 k34 k35 k36 k37 k38 k39 k40 k41 k42 k43 k44 k45 k46 k47 k48 k49 k50 k51 k52 k53 k54 k55 k56 k57 k58 k59 k60 k61 k62 k63 k64 k65 k66 k67 k68 k69 k70 k71 k72 k73 k74 k75 k76 k77 k78 k79 k80 k81 k133 k134 k135 k136 k137 k138 k139 k140 k141 k142 k143 k144 k145 k146 k147 a' w') :
    Code.wp Try.prog innerBody (Exit.then (fun a'' w'' => WI B K Qb C gg nl c4 a b c d lt m g x y z fi L w k0 k1 k2 k3 k5 k6 k7 k9 k10 k11 k14 k16 k17 k18 k19 k20 k21 k22 k23 k24 k25 k26 k27 k28 k29 k30 k31 k32 k33 k34 k35 k36 k37 k38 k39 k40 k41 k42 k43 k44 k45 k46 k47 k48 k49 k50 k51 k52 k53 k54 k55 k56 k57 k58 k59 k60 k61 k62 k63 k64 k65 k66 k67 k68 k69 k70 k71 k72 k73 k74 k75 k76 k77 k78 k79 k80 k81 k133 k134 k135 k136 k137 k138 k139 k140 k141 k142 k143 k144 k145 k146 k147 a'' w'' ∧ Wmu nl a'' w'' < Wmu nl a' w') Q0) a' w' := by
  unfold WI at hI
  obtain ⟨i, hI⟩ := hI
  obtain ⟨u8, hI⟩ := hI
  obtain ⟨u82, hI⟩ := hI
  obtain ⟨u83, hI⟩ := hI
  obtain ⟨u84, hI⟩ := hI
  obtain ⟨u85, hI⟩ := hI
  obtain ⟨u86, hI⟩ := hI
  obtain ⟨u87, hI⟩ := hI
  obtain ⟨u88, hI⟩ := hI
  obtain ⟨u89, hI⟩ := hI
  obtain ⟨u90, hI⟩ := hI
  obtain ⟨u91, hI⟩ := hI
  obtain ⟨u92, hI⟩ := hI
  obtain ⟨u93, hI⟩ := hI
  obtain ⟨u94, hI⟩ := hI
  obtain ⟨u95, hI⟩ := hI
  obtain ⟨u96, hI⟩ := hI
  obtain ⟨u97, hI⟩ := hI
  obtain ⟨u98, hI⟩ := hI
  obtain ⟨u99, hI⟩ := hI
  obtain ⟨u100, hI⟩ := hI
  obtain ⟨u101, hI⟩ := hI
  obtain ⟨u102, hI⟩ := hI
  obtain ⟨u103, hI⟩ := hI
  obtain ⟨u104, hI⟩ := hI
  obtain ⟨u105, hI⟩ := hI
  obtain ⟨u106, hI⟩ := hI
  obtain ⟨u107, hI⟩ := hI
  obtain ⟨u108, hI⟩ := hI
  obtain ⟨u109, hI⟩ := hI
  obtain ⟨u110, hI⟩ := hI
  obtain ⟨u111, hI⟩ := hI
  obtain ⟨u112, hI⟩ := hI
  obtain ⟨u113, hI⟩ := hI
  obtain ⟨u114, hI⟩ := hI
  obtain ⟨u115, hI⟩ := hI
  obtain ⟨u116, hI⟩ := hI
  obtain ⟨u117, hI⟩ := hI
  obtain ⟨u118, hI⟩ := hI
  obtain ⟨u119, hI⟩ := hI
  obtain ⟨u120, hI⟩ := hI
  obtain ⟨u121, hI⟩ := hI
  obtain ⟨u122, hI⟩ := hI
  obtain ⟨u123, hI⟩ := hI
  obtain ⟨u124, hI⟩ := hI
  obtain ⟨u125, hI⟩ := hI
  obtain ⟨u126, hI⟩ := hI
  obtain ⟨u127, hI⟩ := hI
  obtain ⟨u128, hI⟩ := hI
  obtain ⟨u129, hI⟩ := hI
  obtain ⟨u130, hI⟩ := hI
  obtain ⟨u131, hI⟩ := hI
  obtain ⟨u132, hI⟩ := hI
  obtain ⟨⟨j, hj, rfl, hM⟩, rfl⟩ := hI
  rw [hn] at hj
  have hnl10 : nl ≤ 10 := by rw [← hn]; exact hG.2.2.1
  by_cases hjn : j < nl
  case neg => exact inner_exit B K Qb C gg nl c4 a b c d lt m g x y z fi L w k0 k1 k2 k3 k5 k6 k7 k9 k10 k11 k14 k16 k17 k18 k19 k20 k21 k22 k23 k24 k25 k26 k27 k28 k29 k30 k31 k32 k33 k34 k35 k36 k37 k38 k39 k40 k41 k42 k43 k44 k45 k46 k47 k48 k49 k50 k51 k52 k53 k54 k55 k56 k57 k58 k59 k60 k61 k62 k63 k64 k65 k66 k67 k68 k69 k70 k71 k72 k73 k74 k75 k76 k77 k78 k79 k80 k81 k133 k134 k135 k136 k137 k138 k139 k140 k141 k142 k143 k144 k145 k146 k147 u8 u82 u83 u84 u85 u86 u87 u88 u89 u90 u91 u92 u93 u94 u95 u96 u97 u98 u99 u100 u101 u102 u103 u104 u105 u106 u107 u108 u109 u110 u111 u112 u113 u114 u115 u116 u117 u118 u119 u120 u121 u122 u123 u124 u125 u126 u127 u128 u129 u130 u131 u132 w' j Q0 (by omega) hj hnl10 hn hM hexit
  obtain ⟨v1, hv1⟩ : ∃ v, L[j]? = some v := ⟨L[j]'(by rw [hn]; exact hjn), List.getElem?_eq_getElem _⟩
  obtain ⟨v0, hv0⟩ : ∃ v, L[0]? = some v := ⟨L[0]'(by rw [hn]; omega), List.getElem?_eq_getElem _⟩
  have hv0x : v0 = x := hG.2.2.2.2.2.1 v0 hv0
  subst hv0x
  have h1 := hG.2.2.2.2.2.2.1 j v1 hv1
  obtain ⟨ao5, c5, hv5, _, hr5⟩ := hM.2.2.2.1
  simp only [Value.slice.injEq] at hv5
  obtain ⟨rfl, _, rfl⟩ := hv5
  rcases hr5 with h5 | ⟨gg', hgg, hcell⟩
  · exact absurd h5 hne
  simp only [Option.some.injEq, Addr.mk.injEq, and_true] at hgg
  subst hgg
  have d1 := hcell j v1 hv1
  have d0 := hcell 0 v0 hv0
  by_cases hjz : j = 0
  · have e : v1 = v0 := by rw [hjz, hv0] at hv1; exact (Option.some.inj hv1).symm
    rw [e] at d1 h1
    by_cases hy : 0 < y
    · have := h1.1 hy
      exact inner_zero_pos B K Qb C gg nl c4 a b c d lt m g v0 y z fi L w k0 k1 k2 k3 k5 k6 k7 k9 k10 k11 k14 k16 k17 k18 k19 k20 k21 k22 k23 k24 k25 k26 k27 k28 k29 k30 k31 k32 k33 k34 k35 k36 k37 k38 k39 k40 k41 k42 k43 k44 k45 k46 k47 k48 k49 k50 k51 k52 k53 k54 k55 k56 k57 k58 k59 k60 k61 k62 k63 k64 k65 k66 k67 k68 k69 k70 k71 k72 k73 k74 k75 k76 k77 k78 k79 k80 k81 k133 k134 k135 k136 k137 k138 k139 k140 k141 k142 k143 k144 k145 k146 k147 u8 u82 u83 u84 u85 u86 u87 u88 u89 u90 u91 u92 u93 u94 u95 u96 u97 u98 u99 u100 u101 u102 u103 u104 u105 u106 u107 u108 u109 u110 u111 u112 u113 u114 u115 u116 u117 u118 u119 u120 u121 u122 u123 u124 u125 u126 u127 u128 u129 u130 u131 u132 w' j Q0 hjn hnl10 hn hM hjz d1 d0 (by simpa using hy) (by simpa using this)
    · exact inner_zero_no B K Qb C gg nl c4 a b c d lt m g v0 y z fi L w k0 k1 k2 k3 k5 k6 k7 k9 k10 k11 k14 k16 k17 k18 k19 k20 k21 k22 k23 k24 k25 k26 k27 k28 k29 k30 k31 k32 k33 k34 k35 k36 k37 k38 k39 k40 k41 k42 k43 k44 k45 k46 k47 k48 k49 k50 k51 k52 k53 k54 k55 k56 k57 k58 k59 k60 k61 k62 k63 k64 k65 k66 k67 k68 k69 k70 k71 k72 k73 k74 k75 k76 k77 k78 k79 k80 k81 k133 k134 k135 k136 k137 k138 k139 k140 k141 k142 k143 k144 k145 k146 k147 u8 u82 u83 u84 u85 u86 u87 u88 u89 u90 u91 u92 u93 u94 u95 u96 u97 u98 u99 u100 u101 u102 u103 u104 u105 u106 u107 u108 u109 u110 u111 u112 u113 u114 u115 u116 u117 u118 u119 u120 u121 u122 u123 u124 u125 u126 u127 u128 u129 u130 u131 u132 w' j Q0 hjn hnl10 hn hM hjz d1 d0 (by simpa using hy)
  · obtain ⟨v2, hv2⟩ : ∃ v, L[j - 1]? = some v := ⟨L[j - 1]'(by rw [hn]; omega), List.getElem?_eq_getElem _⟩
    have d2 := hcell (j - 1) v2 hv2
    have h2 := hG.2.2.2.2.2.2.1 (j - 1) v2 hv2
    have h3 := hG.2.2.2.2.2.2.2 (j - 1) v2 v1 hv2 (by rw [show j - 1 + 1 = j by omega]; exact hv1)
    have ej : (((j - 1 : Nat) : Int) + 1) = (j : Int) := by omega
    rw [ej] at h3
    have hmin : (if 1099511627776 < v2 + pauseOf a b c d j then 1099511627776 else v2 + pauseOf a b c d j) = v1 := by
      rw [h3.1]; split <;> omega
    have KP : ∀ w : World, Calls Try.prog 15 #[.agg #[.int .i64 a, .int .i64 b, .int .i64 c, .int .i64 d], .int .i64 j] w fun e w' => e = .returned (.int .i64 (pauseOf a b c d j)) ∧ Below w.heap.size w w' := fun w => pause_any a b c d j w (by omega) (by omega)
    by_cases hy : 0 < y
    · have := h1.1 hy
      exact inner_pos_pos B K Qb C gg nl c4 a b c d lt m g v0 y z fi L w k0 k1 k2 k3 k5 k6 k7 k9 k10 k11 k14 k16 k17 k18 k19 k20 k21 k22 k23 k24 k25 k26 k27 k28 k29 k30 k31 k32 k33 k34 k35 k36 k37 k38 k39 k40 k41 k42 k43 k44 k45 k46 k47 k48 k49 k50 k51 k52 k53 k54 k55 k56 k57 k58 k59 k60 k61 k62 k63 k64 k65 k66 k67 k68 k69 k70 k71 k72 k73 k74 k75 k76 k77 k78 k79 k80 k81 k133 k134 k135 k136 k137 k138 k139 k140 k141 k142 k143 k144 k145 k146 k147 u8 u82 u83 u84 u85 u86 u87 u88 u89 u90 u91 u92 u93 u94 u95 u96 u97 u98 u99 u100 u101 u102 u103 u104 u105 u106 u107 u108 u109 u110 u111 u112 u113 u114 u115 u116 u117 u118 u119 u120 u121 u122 u123 u124 u125 u126 u127 u128 u129 u130 u131 u132 w' j Q0 hjn hnl10 hn hM (by omega) v1 v2 _ d1 d2 KP h2.2 ⟨h3.2.1, h3.2.2⟩ hmin (by simpa using hy) (by simpa using this)
    · exact inner_pos_no B K Qb C gg nl c4 a b c d lt m g v0 y z fi L w k0 k1 k2 k3 k5 k6 k7 k9 k10 k11 k14 k16 k17 k18 k19 k20 k21 k22 k23 k24 k25 k26 k27 k28 k29 k30 k31 k32 k33 k34 k35 k36 k37 k38 k39 k40 k41 k42 k43 k44 k45 k46 k47 k48 k49 k50 k51 k52 k53 k54 k55 k56 k57 k58 k59 k60 k61 k62 k63 k64 k65 k66 k67 k68 k69 k70 k71 k72 k73 k74 k75 k76 k77 k78 k79 k80 k81 k133 k134 k135 k136 k137 k138 k139 k140 k141 k142 k143 k144 k145 k146 k147 u8 u82 u83 u84 u85 u86 u87 u88 u89 u90 u91 u92 u93 u94 u95 u96 u97 u98 u99 u100 u101 u102 u103 u104 u105 u106 u107 u108 u109 u110 u111 u112 u113 u114 u115 u116 u117 u118 u119 u120 u121 u122 u123 u124 u125 u126 u127 u128 u129 u130 u131 u132 w' j Q0 hjn hnl10 hn hM (by omega) v1 v2 _ d1 d2 KP h2.2 ⟨h3.2.1, h3.2.2⟩ hmin (by simpa using hy)

set_option maxRecDepth 1000000 in
set_option maxHeartbeats 4000000 in
theorem inner_loop (B K Qb C gg nl c4 : Nat) (a b c d lt m g x y z fi : Int) (L : List Int) (w : World) (k0 k1 k2 k3 k5 k6 k7 k9 k10 k11 k14 k16 k17 k18 k19 k20 k21 k22 k23 k24 k25 k26 k27 k28 k29 k30 k31 k32 k33 k34 k35 k36 k37 k38 k39 k40 k41 k42 k43 k44 k45 k46 k47 k48 k49 k50 k51 k52 k53 k54 k55 k56 k57 k58 k59 k60 k61 k62 k63 k64 k65 k66 k67 k68 k69 k70 k71 k72 k73 k74 k75 k76 k77 k78 k79 k80 k81 k133 k134 k135 k136 k137 k138 k139 k140 k141 k142 k143 k144 k145 k146 k147 : Value) (u8 u82 u83 u84 u85 u86 u87 u88 u89 u90 u91 u92 u93 u94 u95 u96 u97 u98 u99 u100 u101 u102 u103 u104 u105 u106 u107 u108 u109 u110 u111 u112 u113 u114 u115 u116 u117 u118 u119 u120 u121 u122 u123 u124 u125 u126 u127 u128 u129 u130 u131 u132 : Value) (wr : World) (Q0 : Exit → Act → World → Prop) (hp : okP a b c d) (hG : PlanGood a b c d lt m g x y L fi) (hn : L.length = nl) (hne : L ≠ [])
    (hM : IMem B K Qb C a b c d lt m g x y z fi (.slice (some ⟨gg, 0, none⟩) nl c4) L w wr) (hexit : ∀ a' w'', WI B K Qb C gg nl c4 a b c d lt m g x y z fi L w k0 k1 k2 k3 k5 k6 k7 k9 k10 k11 k14 k16 k17 k18 k19 k20 k21 k22 k23 k24 k25 k26 k27 k28 k29 k30 k31 k32 k33 k34 k35 k36 k37 k38 k39 k40 k41 k42 k43 k44 k45 k46 k47 k48 k49 k50 k51 k52 k53 k54 k55 k56 k57 k58 k59 k60 k61 k62 k63 k64 k65 k66 k67 k68 k69 k70 k71 k72 k73 k74 k75 k76 k77 k78 k79 k80 k81 k133 k134 k135 k136 k137 k138 k139 k140 k141 k142 k143 k144 k145 k146 k147 a' w'' → Q0 (.exit 2) a' w'') : Code.wp Try.prog (Code.loop innerBody) Q0 ⟨#[k0, k1, k2, k3, .pointer (some ⟨B, 0, none⟩), k5, k6, k7, u8, k9, k10, k11, .pointer (some ⟨Qb, 0, none⟩), .slice (some ⟨gg, 0, none⟩) nl c4, k14, .int .i64 0, k16, k17, k18, k19, k20, k21, k22, k23, k24, k25, k26, k27, k28, k29, k30, k31, k32, k33, k34, k35, k36, k37, k38, k39, k40, k41, k42, k43, k44, k45, k46, k47, k48, k49, k50, k51, k52, k53, k54, k55, k56, k57, k58, k59, k60, k61, k62, k63, k64, k65, k66, k67, k68, k69, k70, k71, k72, k73, k74, k75, k76, k77, k78, k79, k80, k81, u82, u83, u84, u85, u86, u87, u88, u89, u90, u91, u92, u93, u94, u95, u96, u97, u98, u99, u100, u101, u102, u103, u104, u105, u106, u107, u108, u109, u110, u111, u112, u113, u114, u115, u116, u117, u118, u119, u120, u121, u122, u123, u124, u125, u126, u127, u128, u129, u130, u131, u132, k133, k134, k135, k136, k137, k138, k139, k140, k141, k142, k143, k144, k145, k146, k147], []⟩ wr := by
  refine wp_loop (WI B K Qb C gg nl c4 a b c d lt m g x y z fi L w k0 k1 k2 k3 k5 k6 k7 k9 k10 k11 k14 k16 k17 k18 k19 k20 k21 k22 k23 k24 k25 k26 k27 k28 k29 k30 k31 k32 k33 k34 k35 k36 k37 k38 k39 k40 k41 k42 k43 k44 k45 k46 k47 k48 k49 k50 k51 k52 k53 k54 k55 k56 k57 k58 k59 k60 k61 k62 k63 k64 k65 k66 k67 k68 k69 k70 k71 k72 k73 k74 k75 k76 k77 k78 k79 k80 k81 k133 k134 k135 k136 k137 k138 k139 k140 k141 k142 k143 k144 k145 k146 k147) (Wmu nl) ?_ (fun a' w' hI => inner_round B K Qb C gg nl c4 a b c d lt m g x y z fi L w k0 k1 k2 k3 k5 k6 k7 k9 k10 k11 k14 k16 k17 k18 k19 k20 k21 k22 k23 k24 k25 k26 k27 k28 k29 k30 k31 k32 k33 k34 k35 k36 k37 k38 k39 k40 k41 k42 k43 k44 k45 k46 k47 k48 k49 k50 k51 k52 k53 k54 k55 k56 k57 k58 k59 k60 k61 k62 k63 k64 k65 k66 k67 k68 k69 k70 k71 k72 k73 k74 k75 k76 k77 k78 k79 k80 k81 k133 k134 k135 k136 k137 k138 k139 k140 k141 k142 k143 k144 k145 k146 k147 Q0 hp hG hn hne hexit a' w' hI)
  unfold WI
  exact ⟨_, _, _, _, _, _, _, _, _, _, _, _, _, _, _, _, _, _, _, _, _, _, _, _, _, _, _, _, _, _, _, _, _, _, _, _, _, _, _, _, _, _, _, _, _, _, _, _, _, _, _, _, _, ⟨0, Nat.zero_le _, rfl, hM⟩, rfl⟩
end Go.Proofs.Ytmihbfknhflfiaa
