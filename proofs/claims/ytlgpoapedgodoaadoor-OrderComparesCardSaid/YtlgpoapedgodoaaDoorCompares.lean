/- order.Equal and the reference's; the first statement's walk. -/
import Derived.Test.YtlgpoapedgodoaaDoorAwake
import Derived.Test.YtlgpoapedgodoaaDoorRcmp
import Derived.Test.YtlgpoapedgodoaaDoorArgOpen
namespace Go.Proofs.YtlgpoapedgodoaaDoor
open Go.RowKit
set_option linter.unusedVariables false

theorem cmpI_self (a : Int) : cmpI a a = 0 := by simp [cmpI]
theorem cmpT_self (a : ByteArray) : cmpT a a = 0 := by
  have h : ∀ l : List UInt8, Op.bytesLess l l = false := by
    intro l
    induction l with
    | nil => rfl
    | cons b l ih => simp [Op.bytesLess, ih]
  simp [cmpT, h]
theorem cmpL_self {α : Type} (f : α → α → Int) (h : ∀ a, f a a = 0) : ∀ l : List α, cmpL f l l = 0
  | [] => rfl
  | a :: l => by simp [cmpL, h a, orI, cmpL_self f h l]
theorem cmpR_self (a : RawT) : cmpR a a = 0 := by simp [cmpR, cmpI_self, cmpT_self, orI]
theorem scalC_self (k z : Int) (t : ByteArray) : scalC k z t z t = 0 := by
  unfold scalC
  repeat' split
  all_goals first | rfl | exact cmpT_self _ | exact cmpI_self _
theorem cmpV_self : ∀ (n : Nat) (x : VT n), cmpV n x x = 0
  | 0, _ => rfl
  | n + 1, x => by
    have ih := cmpV_self n
    show cmpN (cmpV n) x x = 0
    unfold cmpN
    rw [if_neg (fun h => h rfl)]
    split
    · exact scalC_self _ _ _
    split
    · exact cmpL_self _ ih _
    split
    · exact cmpL_self _ (fun a => by simp [cmpP, ih, orI]) _
    split
    · rw [cmpL_self _ (fun a => by simp [cmpS, cmpI_self, ih, orI]), cmpL_self _ cmpR_self, orI_zero]
    · rfl

set_option maxRecDepth 8000 in
set_option maxHeartbeats 1000000 in
theorem oequal_ok (n : Nat) (v v' : Value) (x y : VT n) (w : World) (h : IsV n w v x) (h' : IsV n w v' y) :
    Calls Tryd.prog 16 #[v, v'] w fun e w' => e = .returned (.bool (cmpV n x y == 0)) ∧ Below w.heap.size w w' := by
  obtain ⟨ek, ez, et, d1, l1, c1, d2, l2, c2, d3, l3, c3, d4, l4, c4, rfl, g⟩ := h
  obtain ⟨ek', ez', et', d1', l1', c1', d2', l2', c2', d3', l3', c3', d4', l4', c4', rfl, g'⟩ := h'
  obtain ⟨D, HD⟩ : ∃ D : Int, Hid (D = cmpV n x y) := ⟨_, Lib.hid rfl⟩
  rw [← HD.out]
  have K : Hid (∀ w' : World, Below w.heap.size w w' → Calls Tryd.prog 13 #[.agg #[.int .i64 ek, .int .u64 ez, .string et, .slice d1 l1 c1, .slice d2 l2 c2, .slice d3 l3 c3, .slice d4 l4 c4], .agg #[.int .i64 ek', .int .u64 ez', .string et', .slice d1' l1' c1', .slice d2' l2' c2', .slice d3' l3' c3', .slice d4' l4' c4']] w' fun e w2 => e = .returned (.int .i64 D) ∧ Below w'.heap.size w' w2) := by
    intro w' hb
    rw [HD.out]
    exact ocmp_all n _ _ x y _ ⟨_, _, _, _, _, _, _, _, _, _, _, _, _, _, _, rfl, RVal.keep hb n _ _ g⟩ ⟨_, _, _, _, _, _, _, _, _, _, _, _, _, _, _, rfl, RVal.keep hb n _ _ g'⟩
  clear g g'
  go_enter Tryd.func16, Tryd.ntmps16
  go_wp2_with fail
  refine calls_box2 ?_
  intro W hA hB hb
  have HB := Lib.hid hb
  clear hA hB hb
  refine calls_on (K.out _ HB.out) ?_
  intro w2 hb2
  have HB2 := Lib.hid (above HB.out hb2)
  clear hb2
  go_wp2_with fail
  go_ret
  exact ⟨rfl, HB2.out⟩

set_option maxRecDepth 8000 in
set_option maxHeartbeats 1000000 in
theorem requal_ok (n : Nat) (v v' : Value) (x y : VT n) (w : World) (h : IsV n w v x) (h' : IsV n w v' y) :
    Calls Tryd.prog 17 #[v, v'] w fun e w' => e = .returned (.bool (cmpV n x y == 0)) ∧ Below w.heap.size w w' := by
  obtain ⟨ek, ez, et, d1, l1, c1, d2, l2, c2, d3, l3, c3, d4, l4, c4, rfl, g⟩ := h
  obtain ⟨ek', ez', et', d1', l1', c1', d2', l2', c2', d3', l3', c3', d4', l4', c4', rfl, g'⟩ := h'
  obtain ⟨D, HD⟩ : ∃ D : Int, Hid (D = cmpV n x y) := ⟨_, Lib.hid rfl⟩
  rw [← HD.out]
  have K : Hid (∀ w' : World, Below w.heap.size w w' → Calls Tryd.prog 15 #[.agg #[.int .i64 ek, .int .u64 ez, .string et, .slice d1 l1 c1, .slice d2 l2 c2, .slice d3 l3 c3, .slice d4 l4 c4], .agg #[.int .i64 ek', .int .u64 ez', .string et', .slice d1' l1' c1', .slice d2' l2' c2', .slice d3' l3' c3', .slice d4' l4' c4']] w' fun e w2 => e = .returned (.int .i64 D) ∧ Below w'.heap.size w' w2) := by
    intro w' hb
    rw [HD.out]
    exact rcmp_all n _ _ x y _ ⟨_, _, _, _, _, _, _, _, _, _, _, _, _, _, _, rfl, RVal.keep hb n _ _ g⟩ ⟨_, _, _, _, _, _, _, _, _, _, _, _, _, _, _, rfl, RVal.keep hb n _ _ g'⟩
  clear g g'
  go_enter Tryd.func17, Tryd.ntmps17
  go_wp2_with fail
  refine calls_box2 ?_
  intro W hA hB hb
  have HB := Lib.hid hb
  clear hA hB hb
  refine calls_on (K.out _ HB.out) ?_
  intro w2 hb2
  have HB2 := Lib.hid (above HB.out hb2)
  clear hb2
  go_wp2_with fail
  go_ret
  exact ⟨rfl, HB2.out⟩

set_option maxRecDepth 8000 in
set_option maxHeartbeats 2000000 in
theorem compares_ok (n : Nat) (v v' : Value) (x y : VT n) (m : Int) (w : World) (h : IsV n w v x) (h' : IsV n w v' y) (hm : w.cell? ⟨0, 0, none⟩ = some (.int .i64 m)) :
    Calls Tryd.prog 5 #[v, v'] w fun e w' => e = .returned (.bool true) ∧ Below w.heap.size w w' := by
  obtain ⟨ek, ez, et, d1, l1, c1, d2, l2, c2, d3, l3, c3, d4, l4, c4, rfl, g⟩ := h
  obtain ⟨ek', ez', et', d1', l1', c1', d2', l2', c2', d3', l3', c3', d4', l4', c4', rfl, g'⟩ := h'
  have HM := Lib.hid hm
  clear hm
  obtain ⟨D, HD⟩ : ∃ D : Int, Hid (D = cmpV n x y) := ⟨_, Lib.hid rfl⟩
  obtain ⟨E, HE⟩ : ∃ E : Bool, Hid (E = (cmpV n x y == 0)) := ⟨_, Lib.hid rfl⟩
  have G : Hid (∀ w' : World, Below w.heap.size w w' → IsV n w' (.agg #[.int .i64 ek, .int .u64 ez, .string et, .slice d1 l1 c1, .slice d2 l2 c2, .slice d3 l3 c3, .slice d4 l4 c4]) x ∧ IsV n w' (.agg #[.int .i64 ek', .int .u64 ez', .string et', .slice d1' l1' c1', .slice d2' l2' c2', .slice d3' l3' c3', .slice d4' l4' c4']) y) :=
    Lib.hid fun w' hb => ⟨⟨_, _, _, _, _, _, _, _, _, _, _, _, _, _, _, rfl, RVal.keep hb n _ _ g⟩, ⟨_, _, _, _, _, _, _, _, _, _, _, _, _, _, _, rfl, RVal.keep hb n _ _ g'⟩⟩
  clear g g'
  have K1 : Hid (∀ w' : World, Below w.heap.size w w' → Calls Tryd.prog 13 #[.agg #[.int .i64 ek, .int .u64 ez, .string et, .slice d1 l1 c1, .slice d2 l2 c2, .slice d3 l3 c3, .slice d4 l4 c4], .agg #[.int .i64 ek', .int .u64 ez', .string et', .slice d1' l1' c1', .slice d2' l2' c2', .slice d3' l3' c3', .slice d4' l4' c4']] w' fun e w2 => e = .returned (.int .i64 D) ∧ Below w'.heap.size w' w2) := by
    intro w' hb; rw [HD.out]; exact ocmp_all n _ _ x y _ (G.out w' hb).1 (G.out w' hb).2
  have K2 : Hid (∀ w' : World, Below w.heap.size w w' → Calls Tryd.prog 15 #[.agg #[.int .i64 ek, .int .u64 ez, .string et, .slice d1 l1 c1, .slice d2 l2 c2, .slice d3 l3 c3, .slice d4 l4 c4], .agg #[.int .i64 ek', .int .u64 ez', .string et', .slice d1' l1' c1', .slice d2' l2' c2', .slice d3' l3' c3', .slice d4' l4' c4']] w' fun e w2 => e = .returned (.int .i64 D) ∧ Below w'.heap.size w' w2) := by
    intro w' hb; rw [HD.out]; exact rcmp_all n _ _ x y _ (G.out w' hb).1 (G.out w' hb).2
  have K3 : Hid (∀ w' : World, Below w.heap.size w w' → Calls Tryd.prog 16 #[.agg #[.int .i64 ek, .int .u64 ez, .string et, .slice d1 l1 c1, .slice d2 l2 c2, .slice d3 l3 c3, .slice d4 l4 c4], .agg #[.int .i64 ek', .int .u64 ez', .string et', .slice d1' l1' c1', .slice d2' l2' c2', .slice d3' l3' c3', .slice d4' l4' c4']] w' fun e w2 => e = .returned (.bool E) ∧ Below w'.heap.size w' w2) := by
    intro w' hb; rw [HE.out]; exact oequal_ok n _ _ x y _ (G.out w' hb).1 (G.out w' hb).2
  have K4 : Hid (∀ w' : World, Below w.heap.size w w' → Calls Tryd.prog 17 #[.agg #[.int .i64 ek, .int .u64 ez, .string et, .slice d1 l1 c1, .slice d2 l2 c2, .slice d3 l3 c3, .slice d4 l4 c4], .agg #[.int .i64 ek', .int .u64 ez', .string et', .slice d1' l1' c1', .slice d2' l2' c2', .slice d3' l3' c3', .slice d4' l4' c4']] w' fun e w2 => e = .returned (.bool E) ∧ Below w'.heap.size w' w2) := by
    intro w' hb; rw [HE.out]; exact requal_ok n _ _ x y _ (G.out w' hb).1 (G.out w' hb).2
  have K5 : Hid (∀ w' : World, Below w.heap.size w w' → Calls Tryd.prog 16 #[.agg #[.int .i64 ek, .int .u64 ez, .string et, .slice d1 l1 c1, .slice d2 l2 c2, .slice d3 l3 c3, .slice d4 l4 c4], .agg #[.int .i64 ek, .int .u64 ez, .string et, .slice d1 l1 c1, .slice d2 l2 c2, .slice d3 l3 c3, .slice d4 l4 c4]] w' fun e w2 => e = .returned (.bool true) ∧ Below w'.heap.size w' w2) := by
    intro w' hb
    have := oequal_ok n _ _ x x _ (G.out w' hb).1 (G.out w' hb).1
    rw [cmpV_self] at this
    exact this
  have K6 : Hid (∀ w' : World, Below w.heap.size w w' → Calls Tryd.prog 12 #[] w' fun e w2 => e = .returned (.bool true) ∧ Below w'.heap.size w' w2) :=
    Lib.hid fun w' hb => awake_ok m w' (held hb HM.out)
  clear G
  have e1 : (D == D) = true := by simp
  have e2 : (E == E) = true := by simp
  go_enter Tryd.func5, Tryd.ntmps5
  go_wp2_with fail
  refine wp_box2 ?_
  intro W hA hB hb
  obtain ⟨a0, a1, a2, a3, a4, a5, a6⟩ := up7 hA
  obtain ⟨b0, b1, b2, b3, b4, b5, b6⟩ := up7 hB
  have HB := Lib.hid hb
  clear hA hB hb
  refine wp_region_up (by kernel_rfl) (by kernel_rfl) ?_
  repeat (go_big_quiet_step (first | (go_at_call 13; with_reducible exact calls_up (K1.out _ (above HB.out (InClass.h _)))) | (go_at_call 15; with_reducible exact calls_up (K2.out _ (above HB.out (InClass.h _)))) | (go_at_call 16; with_reducible exact calls_up (K3.out _ (above HB.out (InClass.h _)))) | (go_at_call 17; with_reducible exact calls_up (K4.out _ (above HB.out (InClass.h _)))) | (go_at_call 16; with_reducible exact calls_up (K5.out _ (above HB.out (InClass.h _)))) | (go_at_call 12; with_reducible exact calls_up (K6.out _ (above HB.out (InClass.h _))))))
  refine wpQuiet_nil ?_
  rintro _ ⟨s1, rfl⟩
  clear a0 a1 a2 a3 a4 a5 a6 b0 b1 b2 b3 b4 b5 b6
  go_wp2_with fail
  go_ret
  exact ⟨rfl, above HB.out s1.h⟩

theorem compares_args {n n2 : Nat} {v v' : Value} {x : VT n} {y : VT n2} {m : Int} {w : World} (h : IsV n w v x) (h' : IsV n2 w v' y) (hm : w.cell? ⟨0, 0, none⟩ = some (.int .i64 m)) :
    Calls Tryd.prog 5 #[v, v'] w fun e w' => e = .returned (.bool true) ∧ Below w.heap.size w w' := by
  obtain ⟨a, ha⟩ := h.upTo (max n n2) (Nat.le_max_left _ _)
  obtain ⟨b, hb⟩ := h'.upTo (max n n2) (Nat.le_max_right _ _)
  exact compares_ok _ v v' a b m w ha hb hm
end Go.Proofs.YtlgpoapedgodoaaDoor
