/- Part 3 of the texts that prove OrderKeyBackEnd. -/
import Derived.Test.YtlgpoapedgodoaaDoorOrderKeyBackEndP1
import Derived.Laws.BytesArg
import Derived.RegionTactic
import Derived.BigRegion
import Derived.Test.YtlgpoapedgodoaaDoorOrderKeyBackEndP0
import Derived.Lib.ConvBytes
import Derived.Laws.AppendOwn
import Derived.Laws.OwnMore

/- scalar.within, scalar.Fits. -/
namespace Go.Proofs.YtlgpoapedgodoaaDoor
open Go.RowKit

set_option maxRecDepth 4000 in
set_option maxHeartbeats 1000000 in
theorem within_ok (k z : Int) (w : World) :
    Calls Tryd.prog 47 #[.int .i64 k, .int .u64 z] w fun e w' => e = .returned (.bool (withinB k z)) ∧ w' = w := by
  obtain ⟨R, HR⟩ : ∃ R, Hid (R = withinB k z) := ⟨_, Lib.hid rfl⟩
  rw [← HR.out]
  by_cases k1 : k = 1
  · subst k1
    go_enter Tryd.func47, Tryd.ntmps47
    go_wp2_with fail
    go_ret
    exact ⟨ret_bool (by rw [HR.out]; simp [withinB]), rfl⟩
  by_cases k2 : k = 2
  · subst k2
    by_cases g : -2147483648 ≤ wrap64 z
    · have g' : decide (-2147483648 ≤ wrap64 z) = true := decide_eq_true g
      have HG := Lib.hid g
      clear g
      go_enter Tryd.func47, Tryd.ntmps47
      go_wp2_with fail
      go_ret
      exact ⟨ret_bool (by rw [HR.out]; simp [withinB, HG.out]), rfl⟩
    · have g' : decide (-2147483648 ≤ wrap64 z) = false := decide_eq_false g
      have HG := Lib.hid g
      clear g
      go_enter Tryd.func47, Tryd.ntmps47
      go_wp2_with fail
      go_ret
      exact ⟨ret_bool (by rw [HR.out]; simp [withinB]; intro h; have hg := HG.out; omega), rfl⟩
  by_cases k9 : k = 9
  · subst k9
    go_enter Tryd.func47, Tryd.ntmps47
    go_wp2_with fail
    go_ret
    exact ⟨ret_bool (by rw [HR.out]; simp [withinB]), rfl⟩
  by_cases k4 : k = 4
  · subst k4
    go_enter Tryd.func47, Tryd.ntmps47
    go_wp2_with fail
    go_ret
    exact ⟨ret_bool (by rw [HR.out]; simp [withinB]), rfl⟩
  · have HN : Hid (R = true) := Lib.hid (by rw [HR.out]; simp [withinB, k1, k2, k4, k9])
    have b1 : (k == 1) = false := by simp [k1]
    have b2 : (k == 2) = false := by simp [k2]
    have b4 : (k == 4) = false := by simp [k4]
    have b9 : (k == 9) = false := by simp [k9]
    clear k1 k2 k4 k9
    go_enter Tryd.func47, Tryd.ntmps47
    go_wp2_with fail
    go_ret
    exact ⟨ret_bool HN.out.symm, rfl⟩

/-- Whether a value is one of a kind of scalars. -/
def fitsB (kind k z : Int) (t : ByteArray) (e : Bool) : Bool :=
  decide (1 ≤ kind ∧ kind ≤ 9) && decide (k = kind) && leanB k z t e && withinB kind z && decide (t.size ≤ 4096) && (decide (kind ≠ 7) || validB t)

/-- What Fits asks, guard by guard. -/
def FitsAt (kind k z : Int) (t : ByteArray) (l1 l2 l3 l4 c1 c2 c3 c4 : Nat) (d1 d2 d3 d4 : Option Addr) (R : Bool) (w : World) : Prop :=
  Calls Tryd.prog 14 #[.int .i64 kind, .agg #[.int .i64 k, .int .u64 z, .string t, .slice d1 l1 c1, .slice d2 l2 c2, .slice d3 l3 c3, .slice d4 l4 c4]] w
    fun e w' => e = .returned (.bool R) ∧ Below w.heap.size w w'

set_option maxRecDepth 8000 in
set_option maxHeartbeats 2000000 in
theorem fits_not (kind k z : Int) (t : ByteArray) (l1 l2 l3 l4 c1 c2 c3 c4 : Nat) (d1 d2 d3 d4 : Option Addr) (w : World) (KI : Hid (∀ w : World, Calls Tryd.prog 45 #[.int .i64 kind] w fun e w' => e = .returned (.bool false) ∧ w' = w)) : FitsAt kind k z t l1 l2 l3 l4 c1 c2 c3 c4 d1 d2 d3 d4 false w := by
  unfold FitsAt
  go_enter Tryd.func14, Tryd.ntmps14
  go_wp2_with fail
  refine calls_box1 ?_
  intro W hA hb
  have HB := Lib.hid hb
  have HA := Lib.hid hA
  clear hA hb
  refine calls_same (KI.out _) ?_
  go_wp2_with fail
  go_ret
  exact ⟨rfl, HB.out⟩

set_option maxRecDepth 8000 in
set_option maxHeartbeats 2000000 in
theorem fits_ne (kind k z : Int) (t : ByteArray) (l1 l2 l3 l4 c1 c2 c3 c4 : Nat) (d1 d2 d3 d4 : Option Addr) (w : World) (KI : Hid (∀ w : World, Calls Tryd.prog 45 #[.int .i64 kind] w fun e w' => e = .returned (.bool true) ∧ w' = w)) (hk : (k != kind) = true) : FitsAt kind k z t l1 l2 l3 l4 c1 c2 c3 c4 d1 d2 d3 d4 false w := by
  unfold FitsAt
  go_enter Tryd.func14, Tryd.ntmps14
  go_wp2_with fail
  refine calls_box1 ?_
  intro W hA hb
  have HB := Lib.hid hb
  have HA := Lib.hid hA
  clear hA hb
  refine calls_same (KI.out _) ?_
  obtain ⟨a0, a1, a2, a3, a4, a5, a6⟩ := cells7 HA.out
  go_wp2_with fail
  clear a0 a1 a2 a3 a4 a5 a6
  go_ret
  exact ⟨rfl, HB.out⟩

set_option maxRecDepth 8000 in
set_option maxHeartbeats 2000000 in
theorem fits_lean (kind k z : Int) (t : ByteArray) (l1 l2 l3 l4 c1 c2 c3 c4 : Nat) (d1 d2 d3 d4 : Option Addr) (w : World) (KI : Hid (∀ w : World, Calls Tryd.prog 45 #[.int .i64 kind] w fun e w' => e = .returned (.bool true) ∧ w' = w)) (hk : (k != kind) = false) (KL : Hid (∀ w : World, Calls Tryd.prog 46 #[.agg #[.int .i64 k, .int .u64 z, .string t, .slice d1 l1 c1, .slice d2 l2 c2, .slice d3 l3 c3, .slice d4 l4 c4]] w fun e w' => e = .returned (.bool false) ∧ Below w.heap.size w w')) : FitsAt kind k z t l1 l2 l3 l4 c1 c2 c3 c4 d1 d2 d3 d4 false w := by
  unfold FitsAt
  go_enter Tryd.func14, Tryd.ntmps14
  go_wp2_with fail
  refine calls_box1 ?_
  intro W hA hb
  have HB := Lib.hid hb
  have HA := Lib.hid hA
  clear hA hb
  refine calls_same (KI.out _) ?_
  obtain ⟨a0, a1, a2, a3, a4, a5, a6⟩ := cells7 HA.out
  go_wp2_with fail
  clear a0 a1 a2 a3 a4 a5 a6
  refine calls_on (KL.out _) ?_
  intro w2 hb2
  have HB2 := Lib.hid (above HB.out hb2)
  have hA2 := blk_keep hb2 HA.out
  obtain ⟨a0, a1, a2, a3, a4, a5, a6⟩ := cells7 hA2
  clear hA2 hb2
  go_wp2_with fail
  clear a0 a1 a2 a3 a4 a5 a6
  go_ret
  exact ⟨rfl, HB2.out⟩

set_option maxRecDepth 8000 in
set_option maxHeartbeats 2000000 in
theorem fits_within (kind k z : Int) (t : ByteArray) (l1 l2 l3 l4 c1 c2 c3 c4 : Nat) (d1 d2 d3 d4 : Option Addr) (w : World) (KI : Hid (∀ w : World, Calls Tryd.prog 45 #[.int .i64 kind] w fun e w' => e = .returned (.bool true) ∧ w' = w)) (hk : (k != kind) = false) (KL : Hid (∀ w : World, Calls Tryd.prog 46 #[.agg #[.int .i64 k, .int .u64 z, .string t, .slice d1 l1 c1, .slice d2 l2 c2, .slice d3 l3 c3, .slice d4 l4 c4]] w fun e w' => e = .returned (.bool true) ∧ Below w.heap.size w w')) (KW : Hid (∀ w : World, Calls Tryd.prog 47 #[.int .i64 kind, .int .u64 z] w fun e w' => e = .returned (.bool false) ∧ w' = w)) : FitsAt kind k z t l1 l2 l3 l4 c1 c2 c3 c4 d1 d2 d3 d4 false w := by
  unfold FitsAt
  go_enter Tryd.func14, Tryd.ntmps14
  go_wp2_with fail
  refine calls_box1 ?_
  intro W hA hb
  have HB := Lib.hid hb
  have HA := Lib.hid hA
  clear hA hb
  refine calls_same (KI.out _) ?_
  obtain ⟨a0, a1, a2, a3, a4, a5, a6⟩ := cells7 HA.out
  go_wp2_with fail
  clear a0 a1 a2 a3 a4 a5 a6
  refine calls_on (KL.out _) ?_
  intro w2 hb2
  have HB2 := Lib.hid (above HB.out hb2)
  have hA2 := blk_keep hb2 HA.out
  obtain ⟨a0, a1, a2, a3, a4, a5, a6⟩ := cells7 hA2
  clear hA2 hb2
  go_wp2_with fail
  refine calls_same (KW.out _) ?_
  go_wp2_with fail
  clear a0 a1 a2 a3 a4 a5 a6
  go_ret
  exact ⟨rfl, HB2.out⟩

set_option maxRecDepth 8000 in
set_option maxHeartbeats 2000000 in
theorem fits_long (kind k z : Int) (t : ByteArray) (l1 l2 l3 l4 c1 c2 c3 c4 : Nat) (d1 d2 d3 d4 : Option Addr) (w : World) (KI : Hid (∀ w : World, Calls Tryd.prog 45 #[.int .i64 kind] w fun e w' => e = .returned (.bool true) ∧ w' = w)) (hk : (k != kind) = false) (KL : Hid (∀ w : World, Calls Tryd.prog 46 #[.agg #[.int .i64 k, .int .u64 z, .string t, .slice d1 l1 c1, .slice d2 l2 c2, .slice d3 l3 c3, .slice d4 l4 c4]] w fun e w' => e = .returned (.bool true) ∧ Below w.heap.size w w')) (KW : Hid (∀ w : World, Calls Tryd.prog 47 #[.int .i64 kind, .int .u64 z] w fun e w' => e = .returned (.bool true) ∧ w' = w)) (hs : decide ((4096 : Int) < (t.size : Int)) = true)  : FitsAt kind k z t l1 l2 l3 l4 c1 c2 c3 c4 d1 d2 d3 d4 false w := by
  unfold FitsAt
  go_enter Tryd.func14, Tryd.ntmps14
  go_wp2_with fail
  refine calls_box1 ?_
  intro W hA hb
  have HB := Lib.hid hb
  have HA := Lib.hid hA
  clear hA hb
  refine calls_same (KI.out _) ?_
  obtain ⟨a0, a1, a2, a3, a4, a5, a6⟩ := cells7 HA.out
  go_wp2_with fail
  clear a0 a1 a2 a3 a4 a5 a6
  refine calls_on (KL.out _) ?_
  intro w2 hb2
  have HB2 := Lib.hid (above HB.out hb2)
  have hA2 := blk_keep hb2 HA.out
  obtain ⟨a0, a1, a2, a3, a4, a5, a6⟩ := cells7 hA2
  clear hA2 hb2
  go_wp2_with fail
  refine calls_same (KW.out _) ?_
  go_wp2_with fail
  clear a0 a1 a2 a3 a4 a5 a6
  go_ret
  exact ⟨rfl, HB2.out⟩

set_option maxRecDepth 8000 in
set_option maxHeartbeats 2000000 in
theorem fits_yes (kind k z : Int) (t : ByteArray) (l1 l2 l3 l4 c1 c2 c3 c4 : Nat) (d1 d2 d3 d4 : Option Addr) (w : World) (KI : Hid (∀ w : World, Calls Tryd.prog 45 #[.int .i64 kind] w fun e w' => e = .returned (.bool true) ∧ w' = w)) (hk : (k != kind) = false) (KL : Hid (∀ w : World, Calls Tryd.prog 46 #[.agg #[.int .i64 k, .int .u64 z, .string t, .slice d1 l1 c1, .slice d2 l2 c2, .slice d3 l3 c3, .slice d4 l4 c4]] w fun e w' => e = .returned (.bool true) ∧ Below w.heap.size w w')) (KW : Hid (∀ w : World, Calls Tryd.prog 47 #[.int .i64 kind, .int .u64 z] w fun e w' => e = .returned (.bool true) ∧ w' = w)) (hs : decide ((4096 : Int) < (t.size : Int)) = false)  (h7 : (kind != 7) = true) : FitsAt kind k z t l1 l2 l3 l4 c1 c2 c3 c4 d1 d2 d3 d4 true w := by
  unfold FitsAt
  go_enter Tryd.func14, Tryd.ntmps14
  go_wp2_with fail
  refine calls_box1 ?_
  intro W hA hb
  have HB := Lib.hid hb
  have HA := Lib.hid hA
  clear hA hb
  refine calls_same (KI.out _) ?_
  obtain ⟨a0, a1, a2, a3, a4, a5, a6⟩ := cells7 HA.out
  go_wp2_with fail
  clear a0 a1 a2 a3 a4 a5 a6
  refine calls_on (KL.out _) ?_
  intro w2 hb2
  have HB2 := Lib.hid (above HB.out hb2)
  have hA2 := blk_keep hb2 HA.out
  obtain ⟨a0, a1, a2, a3, a4, a5, a6⟩ := cells7 hA2
  clear hA2 hb2
  go_wp2_with fail
  refine calls_same (KW.out _) ?_
  go_wp2_with fail
  clear a0 a1 a2 a3 a4 a5 a6
  go_ret
  exact ⟨rfl, HB2.out⟩

set_option maxRecDepth 8000 in
set_option maxHeartbeats 2000000 in
theorem fits_text (kind k z : Int) (t : ByteArray) (l1 l2 l3 l4 c1 c2 c3 c4 : Nat) (d1 d2 d3 d4 : Option Addr) (w : World) (KI : Hid (∀ w : World, Calls Tryd.prog 45 #[.int .i64 kind] w fun e w' => e = .returned (.bool true) ∧ w' = w)) (hk : (k != kind) = false) (KL : Hid (∀ w : World, Calls Tryd.prog 46 #[.agg #[.int .i64 k, .int .u64 z, .string t, .slice d1 l1 c1, .slice d2 l2 c2, .slice d3 l3 c3, .slice d4 l4 c4]] w fun e w' => e = .returned (.bool true) ∧ Below w.heap.size w w')) (KW : Hid (∀ w : World, Calls Tryd.prog 47 #[.int .i64 kind, .int .u64 z] w fun e w' => e = .returned (.bool true) ∧ w' = w)) (hs : decide ((4096 : Int) < (t.size : Int)) = false)  (h7 : (kind != 7) = false) (R : Bool) (KV : Hid (∀ w : World, Calls Tryd.prog 48 #[.string t] w fun e w' => e = .returned (.bool R) ∧ Below w.heap.size w w')) : FitsAt kind k z t l1 l2 l3 l4 c1 c2 c3 c4 d1 d2 d3 d4 R w := by
  unfold FitsAt
  go_enter Tryd.func14, Tryd.ntmps14
  go_wp2_with fail
  refine calls_box1 ?_
  intro W hA hb
  have HB := Lib.hid hb
  have HA := Lib.hid hA
  clear hA hb
  refine calls_same (KI.out _) ?_
  obtain ⟨a0, a1, a2, a3, a4, a5, a6⟩ := cells7 HA.out
  go_wp2_with fail
  clear a0 a1 a2 a3 a4 a5 a6
  refine calls_on (KL.out _) ?_
  intro w2 hb2
  have HB2 := Lib.hid (above HB.out hb2)
  have hA2 := blk_keep hb2 HA.out
  obtain ⟨a0, a1, a2, a3, a4, a5, a6⟩ := cells7 hA2
  clear hA2 hb2
  go_wp2_with fail
  refine calls_same (KW.out _) ?_
  go_wp2_with fail
  clear a0 a1 a2 a3 a4 a5 a6
  refine calls_on (KV.out _) ?_
  intro w3 hb3
  have HB3 := Lib.hid (above HB2.out hb3)
  clear hb3
  go_wp2_with fail
  go_ret
  exact ⟨rfl, HB3.out⟩

theorem fits_ok (kind k z : Int) (t : ByteArray) (l1 l2 l3 l4 c1 c2 c3 c4 : Nat) (d1 d2 d3 d4 : Option Addr) (w : World) (h1 : l1 ≤ 140737488351232) (h2 : l2 ≤ 140737488351232) (h3 : l3 ≤ 140737488351232) (h4 : l4 ≤ 140737488351232) : FitsAt kind k z t l1 l2 l3 l4 c1 c2 c3 c4 d1 d2 d3 d4 (fitsB kind k z t (noneB l1 l2 l3 l4)) w := by
  have KI := fun w : World => is_ok kind w
  have KL := fun w : World => lean_ok k z t l1 l2 l3 l4 c1 c2 c3 c4 d1 d2 d3 d4 h1 h2 h3 h4 w
  have KW := fun w : World => within_ok kind z w
  have KV := fun w : World => valid_ok t w
  unfold fitsB
  cases eI : decide (1 ≤ kind ∧ kind ≤ 9)
  · rw [eI] at KI; simp only [Bool.false_and]
    exact fits_not kind k z t l1 l2 l3 l4 c1 c2 c3 c4 d1 d2 d3 d4 w (Lib.hid KI)
  rw [eI] at KI
  by_cases ek : k = kind
  · subst ek
    cases eL : leanB k z t (noneB l1 l2 l3 l4)
    · rw [eL] at KL; simp only [Bool.and_false, Bool.false_and]
      exact fits_lean k k z t l1 l2 l3 l4 c1 c2 c3 c4 d1 d2 d3 d4 w (Lib.hid KI) (by simp) (Lib.hid KL)
    rw [eL] at KL
    cases eW : withinB k z
    · rw [eW] at KW; simp only [Bool.and_false, Bool.false_and]
      exact fits_within k k z t l1 l2 l3 l4 c1 c2 c3 c4 d1 d2 d3 d4 w (Lib.hid KI) (by simp) (Lib.hid KL) (Lib.hid KW)
    rw [eW] at KW
    by_cases es : t.size ≤ 4096
    · by_cases e7 : k = 7
      · subst e7
        have := fits_text 7 7 z t l1 l2 l3 l4 c1 c2 c3 c4 d1 d2 d3 d4 w (Lib.hid KI) (by simp) (Lib.hid KL) (Lib.hid KW) (decide_eq_false (by omega)) (by simp) (validB t) (Lib.hid KV)
        simpa [es] using this
      · have := fits_yes k k z t l1 l2 l3 l4 c1 c2 c3 c4 d1 d2 d3 d4 w (Lib.hid KI) (by simp) (Lib.hid KL) (Lib.hid KW) (decide_eq_false (by omega)) (by simp [e7])
        simpa [es, e7] using this
    · have := fits_long k k z t l1 l2 l3 l4 c1 c2 c3 c4 d1 d2 d3 d4 w (Lib.hid KI) (by simp) (Lib.hid KL) (Lib.hid KW) (decide_eq_true (by omega))
      simpa [es] using this
  · have := fits_ne kind k z t l1 l2 l3 l4 c1 c2 c3 c4 d1 d2 d3 d4 w (Lib.hid KI) (by simp [ek])
    simpa [ek] using this
end Go.Proofs.YtlgpoapedgodoaaDoor

/- The reference's lone and Fits. -/
namespace Go.Proofs.YtlgpoapedgodoaaDoor
open Go.RowKit
set_option linter.unusedVariables false
set_option linter.unusedSimpArgs false

set_option maxRecDepth 4000 in
set_option maxHeartbeats 2000000 in
theorem lone_ok (k z : Int) (t : ByteArray) (l1 l2 l3 l4 c1 c2 c3 c4 : Nat) (d1 d2 d3 d4 : Option Addr) (w : World) :
    Calls Tryd.prog 61 #[.agg #[.int .i64 k, .int .u64 z, .string t, .slice d1 l1 c1, .slice d2 l2 c2, .slice d3 l3 c3, .slice d4 l4 c4]] w fun e w' => e = .returned (.bool (noneB l1 l2 l3 l4)) ∧ Below w.heap.size w w' := by
  obtain ⟨R, HR⟩ : ∃ R, Hid (R = noneB l1 l2 l3 l4) := ⟨_, Lib.hid rfl⟩
  rw [← HR.out]

  by_cases z1 : l1 = 0
  case neg =>
    have b : ((l1 : Int) == 0) = false := by rw [beq_eq_false_iff_ne]; omega
    have HN : Hid (R = false) := Lib.hid (by rw [HR.out]; exact decide_eq_false (fun x => z1 (by omega)))
    clear z1
    go_enter Tryd.func61, Tryd.ntmps61
    go_wp2_with fail
    go_ret
    exact ⟨ret_bool HN.out.symm, by go_grown⟩
  have b1 : ((l1 : Int) == 0) = true := by rw [beq_iff_eq]; omega
  by_cases z2 : l2 = 0
  case neg =>
    have b : ((l2 : Int) == 0) = false := by rw [beq_eq_false_iff_ne]; omega
    have HN : Hid (R = false) := Lib.hid (by rw [HR.out]; exact decide_eq_false (fun x => z2 (by omega)))
    clear z2
    go_enter Tryd.func61, Tryd.ntmps61
    go_wp2_with fail
    go_ret
    exact ⟨ret_bool HN.out.symm, by go_grown⟩
  have b2 : ((l2 : Int) == 0) = true := by rw [beq_iff_eq]; omega
  by_cases z3 : l3 = 0
  case neg =>
    have b : ((l3 : Int) == 0) = false := by rw [beq_eq_false_iff_ne]; omega
    have HN : Hid (R = false) := Lib.hid (by rw [HR.out]; exact decide_eq_false (fun x => z3 (by omega)))
    clear z3
    go_enter Tryd.func61, Tryd.ntmps61
    go_wp2_with fail
    go_ret
    exact ⟨ret_bool HN.out.symm, by go_grown⟩
  have b3 : ((l3 : Int) == 0) = true := by rw [beq_iff_eq]; omega
  by_cases z4 : l4 = 0
  case neg =>
    have b : ((l4 : Int) == 0) = false := by rw [beq_eq_false_iff_ne]; omega
    have HN : Hid (R = false) := Lib.hid (by rw [HR.out]; exact decide_eq_false (fun x => z4 (by omega)))
    clear z4
    go_enter Tryd.func61, Tryd.ntmps61
    go_wp2_with fail
    go_ret
    exact ⟨ret_bool HN.out.symm, by go_grown⟩
  have b4 : ((l4 : Int) == 0) = true := by rw [beq_iff_eq]; omega
  have HN : Hid (R = true) := Lib.hid (by rw [HR.out]; exact decide_eq_true ⟨z1, z2, z3, z4⟩)
  clear z1 z2 z3 z4
  go_enter Tryd.func61, Tryd.ntmps61
  go_wp2_with fail
  go_ret
  exact ⟨ret_bool HN.out.symm, by go_grown⟩

def RFitsAt (kind k z : Int) (t : ByteArray) (l1 l2 l3 l4 c1 c2 c3 c4 : Nat) (d1 d2 d3 d4 : Option Addr) (R : Bool) (w : World) : Prop :=
  Calls Tryd.prog 21 #[.int .i64 kind, .agg #[.int .i64 k, .int .u64 z, .string t, .slice d1 l1 c1, .slice d2 l2 c2, .slice d3 l3 c3, .slice d4 l4 c4]] w fun e w' => e = .returned (.bool R) ∧ Below w.heap.size w w'


set_option maxRecDepth 8000 in
set_option maxHeartbeats 2000000 in
theorem rfits_not (kind k z : Int) (t : ByteArray) (l1 l2 l3 l4 c1 c2 c3 c4 : Nat) (d1 d2 d3 d4 : Option Addr) (w : World) (KI : Hid (∀ w : World, Calls Tryd.prog 58 #[.int .i64 kind] w fun e w' => e = .returned (.bool false) ∧ w' = w)) : RFitsAt kind k z t l1 l2 l3 l4 c1 c2 c3 c4 d1 d2 d3 d4 false w := by
  unfold RFitsAt
  go_enter Tryd.func21, Tryd.ntmps21
  go_wp2_with fail
  refine calls_box1 ?_
  intro W hA hb
  have HB := Lib.hid hb
  have HA := Lib.hid hA
  clear hA hb
  refine calls_same (KI.out _) ?_
  go_wp2_with fail
  go_ret
  exact ⟨rfl, HB.out⟩


set_option maxRecDepth 8000 in
set_option maxHeartbeats 2000000 in
theorem rfits_ne (kind k z : Int) (t : ByteArray) (l1 l2 l3 l4 c1 c2 c3 c4 : Nat) (d1 d2 d3 d4 : Option Addr) (w : World) (KI : Hid (∀ w : World, Calls Tryd.prog 58 #[.int .i64 kind] w fun e w' => e = .returned (.bool true) ∧ w' = w)) (hk : (k != kind) = true) : RFitsAt kind k z t l1 l2 l3 l4 c1 c2 c3 c4 d1 d2 d3 d4 false w := by
  unfold RFitsAt
  go_enter Tryd.func21, Tryd.ntmps21
  go_wp2_with fail
  refine calls_box1 ?_
  intro W hA hb
  have HB := Lib.hid hb
  have HA := Lib.hid hA
  clear hA hb
  refine calls_same (KI.out _) ?_
  obtain ⟨a0, a1, a2, a3, a4, a5, a6⟩ := cells7 HA.out
  go_wp2_with fail
  clear a0 a1 a2 a3 a4 a5 a6
  go_ret
  exact ⟨rfl, HB.out⟩


set_option maxRecDepth 8000 in
set_option maxHeartbeats 2000000 in
theorem rfits_lone (kind k z : Int) (t : ByteArray) (l1 l2 l3 l4 c1 c2 c3 c4 : Nat) (d1 d2 d3 d4 : Option Addr) (w : World) (KI : Hid (∀ w : World, Calls Tryd.prog 58 #[.int .i64 kind] w fun e w' => e = .returned (.bool true) ∧ w' = w)) (hk : (k != kind) = false) (KL : Hid (∀ w : World, Calls Tryd.prog 61 #[.agg #[.int .i64 k, .int .u64 z, .string t, .slice d1 l1 c1, .slice d2 l2 c2, .slice d3 l3 c3, .slice d4 l4 c4]] w fun e w' => e = .returned (.bool false) ∧ Below w.heap.size w w')) : RFitsAt kind k z t l1 l2 l3 l4 c1 c2 c3 c4 d1 d2 d3 d4 false w := by
  unfold RFitsAt
  go_enter Tryd.func21, Tryd.ntmps21
  go_wp2_with fail
  refine calls_box1 ?_
  intro W hA hb
  have HB := Lib.hid hb
  have HA := Lib.hid hA
  clear hA hb
  refine calls_same (KI.out _) ?_
  obtain ⟨a0, a1, a2, a3, a4, a5, a6⟩ := cells7 HA.out
  go_wp2_with fail
  clear a0 a1 a2 a3 a4 a5 a6
  refine calls_on (KL.out _) ?_
  intro w2 hb2
  have HB2 := Lib.hid (above HB.out hb2)
  have hA2 := blk_keep hb2 HA.out
  obtain ⟨a0, a1, a2, a3, a4, a5, a6⟩ := cells7 hA2
  clear hA2 hb2
  go_wp2_with fail
  clear a0 a1 a2 a3 a4 a5 a6
  go_ret
  exact ⟨rfl, HB2.out⟩


set_option maxRecDepth 8000 in
set_option maxHeartbeats 2000000 in
theorem rfits_tz (kind k z : Int) (t : ByteArray) (l1 l2 l3 l4 c1 c2 c3 c4 : Nat) (d1 d2 d3 d4 : Option Addr) (w : World) (KI : Hid (∀ w : World, Calls Tryd.prog 58 #[.int .i64 kind] w fun e w' => e = .returned (.bool true) ∧ w' = w)) (hk : (k != kind) = false) (KL : Hid (∀ w : World, Calls Tryd.prog 61 #[.agg #[.int .i64 k, .int .u64 z, .string t, .slice d1 l1 c1, .slice d2 l2 c2, .slice d3 l3 c3, .slice d4 l4 c4]] w fun e w' => e = .returned (.bool true) ∧ Below w.heap.size w w')) (KT : Hid (∀ w : World, Calls Tryd.prog 62 #[.int .i64 kind] w fun e w' => e = .returned (.bool true) ∧ w' = w)) (hz : (z == 0) = false) : RFitsAt kind k z t l1 l2 l3 l4 c1 c2 c3 c4 d1 d2 d3 d4 false w := by
  unfold RFitsAt
  go_enter Tryd.func21, Tryd.ntmps21
  go_wp2_with fail
  refine calls_box1 ?_
  intro W hA hb
  have HB := Lib.hid hb
  have HA := Lib.hid hA
  clear hA hb
  refine calls_same (KI.out _) ?_
  obtain ⟨a0, a1, a2, a3, a4, a5, a6⟩ := cells7 HA.out
  go_wp2_with fail
  clear a0 a1 a2 a3 a4 a5 a6
  refine calls_on (KL.out _) ?_
  intro w2 hb2
  have HB2 := Lib.hid (above HB.out hb2)
  have hA2 := blk_keep hb2 HA.out
  obtain ⟨a0, a1, a2, a3, a4, a5, a6⟩ := cells7 hA2
  clear hA2 hb2
  go_wp2_with fail
  refine calls_same (KT.out _) ?_
  go_wp2_with fail
  clear a0 a1 a2 a3 a4 a5 a6
  go_ret
  exact ⟨rfl, HB2.out⟩


set_option maxRecDepth 8000 in
set_option maxHeartbeats 2000000 in
theorem rfits_tl (kind k z : Int) (t : ByteArray) (l1 l2 l3 l4 c1 c2 c3 c4 : Nat) (d1 d2 d3 d4 : Option Addr) (w : World) (KI : Hid (∀ w : World, Calls Tryd.prog 58 #[.int .i64 kind] w fun e w' => e = .returned (.bool true) ∧ w' = w)) (hk : (k != kind) = false) (KL : Hid (∀ w : World, Calls Tryd.prog 61 #[.agg #[.int .i64 k, .int .u64 z, .string t, .slice d1 l1 c1, .slice d2 l2 c2, .slice d3 l3 c3, .slice d4 l4 c4]] w fun e w' => e = .returned (.bool true) ∧ Below w.heap.size w w')) (KT : Hid (∀ w : World, Calls Tryd.prog 62 #[.int .i64 kind] w fun e w' => e = .returned (.bool true) ∧ w' = w)) (hz : (z == 0) = true) (hs : decide ((t.size : Int) ≤ 4096) = false) : RFitsAt kind k z t l1 l2 l3 l4 c1 c2 c3 c4 d1 d2 d3 d4 false w := by
  unfold RFitsAt
  go_enter Tryd.func21, Tryd.ntmps21
  go_wp2_with fail
  refine calls_box1 ?_
  intro W hA hb
  have HB := Lib.hid hb
  have HA := Lib.hid hA
  clear hA hb
  refine calls_same (KI.out _) ?_
  obtain ⟨a0, a1, a2, a3, a4, a5, a6⟩ := cells7 HA.out
  go_wp2_with fail
  clear a0 a1 a2 a3 a4 a5 a6
  refine calls_on (KL.out _) ?_
  intro w2 hb2
  have HB2 := Lib.hid (above HB.out hb2)
  have hA2 := blk_keep hb2 HA.out
  obtain ⟨a0, a1, a2, a3, a4, a5, a6⟩ := cells7 hA2
  clear hA2 hb2
  go_wp2_with fail
  refine calls_same (KT.out _) ?_
  go_wp2_with fail
  clear a0 a1 a2 a3 a4 a5 a6
  go_ret
  exact ⟨rfl, HB2.out⟩


set_option maxRecDepth 8000 in
set_option maxHeartbeats 2000000 in
theorem rfits_t8 (kind k z : Int) (t : ByteArray) (l1 l2 l3 l4 c1 c2 c3 c4 : Nat) (d1 d2 d3 d4 : Option Addr) (w : World) (KI : Hid (∀ w : World, Calls Tryd.prog 58 #[.int .i64 kind] w fun e w' => e = .returned (.bool true) ∧ w' = w)) (hk : (k != kind) = false) (KL : Hid (∀ w : World, Calls Tryd.prog 61 #[.agg #[.int .i64 k, .int .u64 z, .string t, .slice d1 l1 c1, .slice d2 l2 c2, .slice d3 l3 c3, .slice d4 l4 c4]] w fun e w' => e = .returned (.bool true) ∧ Below w.heap.size w w')) (KT : Hid (∀ w : World, Calls Tryd.prog 62 #[.int .i64 kind] w fun e w' => e = .returned (.bool true) ∧ w' = w)) (hz : (z == 0) = true) (hs : decide ((t.size : Int) ≤ 4096) = true) (h8 : (kind == 8) = true) : RFitsAt kind k z t l1 l2 l3 l4 c1 c2 c3 c4 d1 d2 d3 d4 true w := by
  unfold RFitsAt
  go_enter Tryd.func21, Tryd.ntmps21
  go_wp2_with fail
  refine calls_box1 ?_
  intro W hA hb
  have HB := Lib.hid hb
  have HA := Lib.hid hA
  clear hA hb
  refine calls_same (KI.out _) ?_
  obtain ⟨a0, a1, a2, a3, a4, a5, a6⟩ := cells7 HA.out
  go_wp2_with fail
  clear a0 a1 a2 a3 a4 a5 a6
  refine calls_on (KL.out _) ?_
  intro w2 hb2
  have HB2 := Lib.hid (above HB.out hb2)
  have hA2 := blk_keep hb2 HA.out
  obtain ⟨a0, a1, a2, a3, a4, a5, a6⟩ := cells7 hA2
  clear hA2 hb2
  go_wp2_with fail
  refine calls_same (KT.out _) ?_
  go_wp2_with fail
  clear a0 a1 a2 a3 a4 a5 a6
  go_ret
  exact ⟨rfl, HB2.out⟩


set_option maxRecDepth 8000 in
set_option maxHeartbeats 2000000 in
theorem rfits_t7 (kind k z : Int) (t : ByteArray) (l1 l2 l3 l4 c1 c2 c3 c4 : Nat) (d1 d2 d3 d4 : Option Addr) (w : World) (KI : Hid (∀ w : World, Calls Tryd.prog 58 #[.int .i64 kind] w fun e w' => e = .returned (.bool true) ∧ w' = w)) (hk : (k != kind) = false) (KL : Hid (∀ w : World, Calls Tryd.prog 61 #[.agg #[.int .i64 k, .int .u64 z, .string t, .slice d1 l1 c1, .slice d2 l2 c2, .slice d3 l3 c3, .slice d4 l4 c4]] w fun e w' => e = .returned (.bool true) ∧ Below w.heap.size w w')) (KT : Hid (∀ w : World, Calls Tryd.prog 62 #[.int .i64 kind] w fun e w' => e = .returned (.bool true) ∧ w' = w)) (hz : (z == 0) = true) (hs : decide ((t.size : Int) ≤ 4096) = true) (h8 : (kind == 8) = false) (R : Bool) (KV : Hid (∀ w : World, Calls Tryd.prog 63 #[.string t] w fun e w' => e = .returned (.bool R) ∧ w' = w)) : RFitsAt kind k z t l1 l2 l3 l4 c1 c2 c3 c4 d1 d2 d3 d4 R w := by
  unfold RFitsAt
  go_enter Tryd.func21, Tryd.ntmps21
  go_wp2_with fail
  refine calls_box1 ?_
  intro W hA hb
  have HB := Lib.hid hb
  have HA := Lib.hid hA
  clear hA hb
  refine calls_same (KI.out _) ?_
  obtain ⟨a0, a1, a2, a3, a4, a5, a6⟩ := cells7 HA.out
  go_wp2_with fail
  clear a0 a1 a2 a3 a4 a5 a6
  refine calls_on (KL.out _) ?_
  intro w2 hb2
  have HB2 := Lib.hid (above HB.out hb2)
  have hA2 := blk_keep hb2 HA.out
  obtain ⟨a0, a1, a2, a3, a4, a5, a6⟩ := cells7 hA2
  clear hA2 hb2
  go_wp2_with fail
  refine calls_same (KT.out _) ?_
  go_wp2_with fail
  clear a0 a1 a2 a3 a4 a5 a6
  refine calls_same (KV.out _) ?_
  go_wp2_with fail
  go_ret
  exact ⟨rfl, HB2.out⟩


set_option maxRecDepth 8000 in
set_option maxHeartbeats 2000000 in
theorem rfits_nt (kind k z : Int) (t : ByteArray) (l1 l2 l3 l4 c1 c2 c3 c4 : Nat) (d1 d2 d3 d4 : Option Addr) (w : World) (KI : Hid (∀ w : World, Calls Tryd.prog 58 #[.int .i64 kind] w fun e w' => e = .returned (.bool true) ∧ w' = w)) (hk : (k != kind) = false) (KL : Hid (∀ w : World, Calls Tryd.prog 61 #[.agg #[.int .i64 k, .int .u64 z, .string t, .slice d1 l1 c1, .slice d2 l2 c2, .slice d3 l3 c3, .slice d4 l4 c4]] w fun e w' => e = .returned (.bool true) ∧ Below w.heap.size w w')) (KT : Hid (∀ w : World, Calls Tryd.prog 62 #[.int .i64 kind] w fun e w' => e = .returned (.bool false) ∧ w' = w)) (ht : t.toList.isEmpty = false) (ht2 : (!t.toList.isEmpty) = true) : RFitsAt kind k z t l1 l2 l3 l4 c1 c2 c3 c4 d1 d2 d3 d4 false w := by
  unfold RFitsAt
  go_enter Tryd.func21, Tryd.ntmps21
  go_wp2_with fail
  refine calls_box1 ?_
  intro W hA hb
  have HB := Lib.hid hb
  have HA := Lib.hid hA
  clear hA hb
  refine calls_same (KI.out _) ?_
  obtain ⟨a0, a1, a2, a3, a4, a5, a6⟩ := cells7 HA.out
  go_wp2_with fail
  clear a0 a1 a2 a3 a4 a5 a6
  refine calls_on (KL.out _) ?_
  intro w2 hb2
  have HB2 := Lib.hid (above HB.out hb2)
  have hA2 := blk_keep hb2 HA.out
  obtain ⟨a0, a1, a2, a3, a4, a5, a6⟩ := cells7 hA2
  clear hA2 hb2
  go_wp2_with fail
  refine calls_same (KT.out _) ?_
  go_wp2_with fail
  clear a0 a1 a2 a3 a4 a5 a6
  go_ret
  exact ⟨rfl, HB2.out⟩


set_option maxRecDepth 8000 in
set_option maxHeartbeats 2000000 in
theorem rfits_1 (z : Int) (t : ByteArray) (l1 l2 l3 l4 c1 c2 c3 c4 : Nat) (d1 d2 d3 d4 : Option Addr) (w : World) (KI : Hid (∀ w : World, Calls Tryd.prog 58 #[.int .i64 1] w fun e w' => e = .returned (.bool true) ∧ w' = w)) (KL : Hid (∀ w : World, Calls Tryd.prog 61 #[.agg #[.int .i64 1, .int .u64 z, .string t, .slice d1 l1 c1, .slice d2 l2 c2, .slice d3 l3 c3, .slice d4 l4 c4]] w fun e w' => e = .returned (.bool true) ∧ Below w.heap.size w w')) (KT : Hid (∀ w : World, Calls Tryd.prog 62 #[.int .i64 1] w fun e w' => e = .returned (.bool false) ∧ w' = w)) (ht : t.toList.isEmpty = true) (ht2 : (!t.toList.isEmpty) = false) : RFitsAt 1 1 z t l1 l2 l3 l4 c1 c2 c3 c4 d1 d2 d3 d4 (decide (z ≤ 1)) w := by
  unfold RFitsAt
  have hk : ((1 : Int) != 1) = false := by decide
  go_enter Tryd.func21, Tryd.ntmps21
  go_wp2_with fail
  refine calls_box1 ?_
  intro W hA hb
  have HB := Lib.hid hb
  have HA := Lib.hid hA
  clear hA hb
  refine calls_same (KI.out _) ?_
  obtain ⟨a0, a1, a2, a3, a4, a5, a6⟩ := cells7 HA.out
  go_wp2_with fail
  clear a0 a1 a2 a3 a4 a5 a6
  refine calls_on (KL.out _) ?_
  intro w2 hb2
  have HB2 := Lib.hid (above HB.out hb2)
  have hA2 := blk_keep hb2 HA.out
  obtain ⟨a0, a1, a2, a3, a4, a5, a6⟩ := cells7 hA2
  clear hA2 hb2
  go_wp2_with fail
  refine calls_same (KT.out _) ?_
  go_wp2_with fail
  clear a0 a1 a2 a3 a4 a5 a6
  go_ret
  exact ⟨rfl, HB2.out⟩


set_option maxRecDepth 8000 in
set_option maxHeartbeats 2000000 in
theorem rfits_4 (z : Int) (t : ByteArray) (l1 l2 l3 l4 c1 c2 c3 c4 : Nat) (d1 d2 d3 d4 : Option Addr) (w : World) (KI : Hid (∀ w : World, Calls Tryd.prog 58 #[.int .i64 4] w fun e w' => e = .returned (.bool true) ∧ w' = w)) (KL : Hid (∀ w : World, Calls Tryd.prog 61 #[.agg #[.int .i64 4, .int .u64 z, .string t, .slice d1 l1 c1, .slice d2 l2 c2, .slice d3 l3 c3, .slice d4 l4 c4]] w fun e w' => e = .returned (.bool true) ∧ Below w.heap.size w w')) (KT : Hid (∀ w : World, Calls Tryd.prog 62 #[.int .i64 4] w fun e w' => e = .returned (.bool false) ∧ w' = w)) (ht : t.toList.isEmpty = true) (ht2 : (!t.toList.isEmpty) = false) : RFitsAt 4 4 z t l1 l2 l3 l4 c1 c2 c3 c4 d1 d2 d3 d4 (decide (z < 4294967296)) w := by
  unfold RFitsAt
  have hk : ((4 : Int) != 4) = false := by decide
  go_enter Tryd.func21, Tryd.ntmps21
  go_wp2_with fail
  refine calls_box1 ?_
  intro W hA hb
  have HB := Lib.hid hb
  have HA := Lib.hid hA
  clear hA hb
  refine calls_same (KI.out _) ?_
  obtain ⟨a0, a1, a2, a3, a4, a5, a6⟩ := cells7 HA.out
  go_wp2_with fail
  clear a0 a1 a2 a3 a4 a5 a6
  refine calls_on (KL.out _) ?_
  intro w2 hb2
  have HB2 := Lib.hid (above HB.out hb2)
  have hA2 := blk_keep hb2 HA.out
  obtain ⟨a0, a1, a2, a3, a4, a5, a6⟩ := cells7 hA2
  clear hA2 hb2
  go_wp2_with fail
  refine calls_same (KT.out _) ?_
  go_wp2_with fail
  clear a0 a1 a2 a3 a4 a5 a6
  go_ret
  exact ⟨rfl, HB2.out⟩


set_option maxRecDepth 8000 in
set_option maxHeartbeats 2000000 in
theorem rfits_9 (z : Int) (t : ByteArray) (l1 l2 l3 l4 c1 c2 c3 c4 : Nat) (d1 d2 d3 d4 : Option Addr) (w : World) (KI : Hid (∀ w : World, Calls Tryd.prog 58 #[.int .i64 9] w fun e w' => e = .returned (.bool true) ∧ w' = w)) (KL : Hid (∀ w : World, Calls Tryd.prog 61 #[.agg #[.int .i64 9, .int .u64 z, .string t, .slice d1 l1 c1, .slice d2 l2 c2, .slice d3 l3 c3, .slice d4 l4 c4]] w fun e w' => e = .returned (.bool true) ∧ Below w.heap.size w w')) (KT : Hid (∀ w : World, Calls Tryd.prog 62 #[.int .i64 9] w fun e w' => e = .returned (.bool false) ∧ w' = w)) (ht : t.toList.isEmpty = true) (ht2 : (!t.toList.isEmpty) = false) : RFitsAt 9 9 z t l1 l2 l3 l4 c1 c2 c3 c4 d1 d2 d3 d4 (decide (z < 2147483648)) w := by
  unfold RFitsAt
  have hk : ((9 : Int) != 9) = false := by decide
  go_enter Tryd.func21, Tryd.ntmps21
  go_wp2_with fail
  refine calls_box1 ?_
  intro W hA hb
  have HB := Lib.hid hb
  have HA := Lib.hid hA
  clear hA hb
  refine calls_same (KI.out _) ?_
  obtain ⟨a0, a1, a2, a3, a4, a5, a6⟩ := cells7 HA.out
  go_wp2_with fail
  clear a0 a1 a2 a3 a4 a5 a6
  refine calls_on (KL.out _) ?_
  intro w2 hb2
  have HB2 := Lib.hid (above HB.out hb2)
  have hA2 := blk_keep hb2 HA.out
  obtain ⟨a0, a1, a2, a3, a4, a5, a6⟩ := cells7 hA2
  clear hA2 hb2
  go_wp2_with fail
  refine calls_same (KT.out _) ?_
  go_wp2_with fail
  clear a0 a1 a2 a3 a4 a5 a6
  go_ret
  exact ⟨rfl, HB2.out⟩


set_option maxRecDepth 8000 in
set_option maxHeartbeats 2000000 in
theorem rfits_2n (z : Int) (t : ByteArray) (l1 l2 l3 l4 c1 c2 c3 c4 : Nat) (d1 d2 d3 d4 : Option Addr) (w : World) (KI : Hid (∀ w : World, Calls Tryd.prog 58 #[.int .i64 2] w fun e w' => e = .returned (.bool true) ∧ w' = w)) (KL : Hid (∀ w : World, Calls Tryd.prog 61 #[.agg #[.int .i64 2, .int .u64 z, .string t, .slice d1 l1 c1, .slice d2 l2 c2, .slice d3 l3 c3, .slice d4 l4 c4]] w fun e w' => e = .returned (.bool true) ∧ Below w.heap.size w w')) (KT : Hid (∀ w : World, Calls Tryd.prog 62 #[.int .i64 2] w fun e w' => e = .returned (.bool false) ∧ w' = w)) (ht : t.toList.isEmpty = true) (ht2 : (!t.toList.isEmpty) = false) (g : decide (-2147483648 ≤ wrap64 z) = false) : RFitsAt 2 2 z t l1 l2 l3 l4 c1 c2 c3 c4 d1 d2 d3 d4 false w := by
  unfold RFitsAt
  have hk : ((2 : Int) != 2) = false := by decide
  go_enter Tryd.func21, Tryd.ntmps21
  go_wp2_with fail
  refine calls_box1 ?_
  intro W hA hb
  have HB := Lib.hid hb
  have HA := Lib.hid hA
  clear hA hb
  refine calls_same (KI.out _) ?_
  obtain ⟨a0, a1, a2, a3, a4, a5, a6⟩ := cells7 HA.out
  go_wp2_with fail
  clear a0 a1 a2 a3 a4 a5 a6
  refine calls_on (KL.out _) ?_
  intro w2 hb2
  have HB2 := Lib.hid (above HB.out hb2)
  have hA2 := blk_keep hb2 HA.out
  obtain ⟨a0, a1, a2, a3, a4, a5, a6⟩ := cells7 hA2
  clear hA2 hb2
  go_wp2_with fail
  refine calls_same (KT.out _) ?_
  go_wp2_with fail
  clear a0 a1 a2 a3 a4 a5 a6
  go_ret
  exact ⟨rfl, HB2.out⟩


set_option maxRecDepth 8000 in
set_option maxHeartbeats 2000000 in
theorem rfits_2y (z : Int) (t : ByteArray) (l1 l2 l3 l4 c1 c2 c3 c4 : Nat) (d1 d2 d3 d4 : Option Addr) (w : World) (KI : Hid (∀ w : World, Calls Tryd.prog 58 #[.int .i64 2] w fun e w' => e = .returned (.bool true) ∧ w' = w)) (KL : Hid (∀ w : World, Calls Tryd.prog 61 #[.agg #[.int .i64 2, .int .u64 z, .string t, .slice d1 l1 c1, .slice d2 l2 c2, .slice d3 l3 c3, .slice d4 l4 c4]] w fun e w' => e = .returned (.bool true) ∧ Below w.heap.size w w')) (KT : Hid (∀ w : World, Calls Tryd.prog 62 #[.int .i64 2] w fun e w' => e = .returned (.bool false) ∧ w' = w)) (ht : t.toList.isEmpty = true) (ht2 : (!t.toList.isEmpty) = false) (g : decide (-2147483648 ≤ wrap64 z) = true) : RFitsAt 2 2 z t l1 l2 l3 l4 c1 c2 c3 c4 d1 d2 d3 d4 (decide (wrap64 z ≤ 2147483647)) w := by
  unfold RFitsAt
  have hk : ((2 : Int) != 2) = false := by decide
  go_enter Tryd.func21, Tryd.ntmps21
  go_wp2_with fail
  refine calls_box1 ?_
  intro W hA hb
  have HB := Lib.hid hb
  have HA := Lib.hid hA
  clear hA hb
  refine calls_same (KI.out _) ?_
  obtain ⟨a0, a1, a2, a3, a4, a5, a6⟩ := cells7 HA.out
  go_wp2_with fail
  clear a0 a1 a2 a3 a4 a5 a6
  refine calls_on (KL.out _) ?_
  intro w2 hb2
  have HB2 := Lib.hid (above HB.out hb2)
  have hA2 := blk_keep hb2 HA.out
  obtain ⟨a0, a1, a2, a3, a4, a5, a6⟩ := cells7 hA2
  clear hA2 hb2
  go_wp2_with fail
  refine calls_same (KT.out _) ?_
  go_wp2_with fail
  clear a0 a1 a2 a3 a4 a5 a6
  go_ret
  exact ⟨rfl, HB2.out⟩


set_option maxRecDepth 8000 in
set_option maxHeartbeats 2000000 in
theorem rfits_o (kind k z : Int) (t : ByteArray) (l1 l2 l3 l4 c1 c2 c3 c4 : Nat) (d1 d2 d3 d4 : Option Addr) (w : World) (KI : Hid (∀ w : World, Calls Tryd.prog 58 #[.int .i64 kind] w fun e w' => e = .returned (.bool true) ∧ w' = w)) (hk : (k != kind) = false) (KL : Hid (∀ w : World, Calls Tryd.prog 61 #[.agg #[.int .i64 k, .int .u64 z, .string t, .slice d1 l1 c1, .slice d2 l2 c2, .slice d3 l3 c3, .slice d4 l4 c4]] w fun e w' => e = .returned (.bool true) ∧ Below w.heap.size w w')) (KT : Hid (∀ w : World, Calls Tryd.prog 62 #[.int .i64 kind] w fun e w' => e = .returned (.bool false) ∧ w' = w)) (ht : t.toList.isEmpty = true) (ht2 : (!t.toList.isEmpty) = false) (h1 : (kind == 1) = false) (h2 : (kind == 2) = false) (h4 : (kind == 4) = false) (h9 : (kind == 9) = false) : RFitsAt kind k z t l1 l2 l3 l4 c1 c2 c3 c4 d1 d2 d3 d4 true w := by
  unfold RFitsAt
  go_enter Tryd.func21, Tryd.ntmps21
  go_wp2_with fail
  refine calls_box1 ?_
  intro W hA hb
  have HB := Lib.hid hb
  have HA := Lib.hid hA
  clear hA hb
  refine calls_same (KI.out _) ?_
  obtain ⟨a0, a1, a2, a3, a4, a5, a6⟩ := cells7 HA.out
  go_wp2_with fail
  clear a0 a1 a2 a3 a4 a5 a6
  refine calls_on (KL.out _) ?_
  intro w2 hb2
  have HB2 := Lib.hid (above HB.out hb2)
  have hA2 := blk_keep hb2 HA.out
  obtain ⟨a0, a1, a2, a3, a4, a5, a6⟩ := cells7 hA2
  clear hA2 hb2
  go_wp2_with fail
  refine calls_same (KT.out _) ?_
  go_wp2_with fail
  clear a0 a1 a2 a3 a4 a5 a6
  go_ret
  exact ⟨rfl, HB2.out⟩


theorem rfits_ok (kind k z : Int) (t : ByteArray) (l1 l2 l3 l4 c1 c2 c3 c4 : Nat) (d1 d2 d3 d4 : Option Addr) (w : World) (hs : t.size ≤ 140737488351232) : RFitsAt kind k z t l1 l2 l3 l4 c1 c2 c3 c4 d1 d2 d3 d4 (fitsB kind k z t (noneB l1 l2 l3 l4)) w := by
  have KI := fun w : World => ris_ok kind w
  have KL := fun w : World => lone_ok k z t l1 l2 l3 l4 c1 c2 c3 c4 d1 d2 d3 d4 w
  have KT := fun w : World => rtexts_ok kind w
  have KV := fun w : World => rvalid_ok t (by omega) w
  unfold fitsB
  cases eI : decide (1 ≤ kind ∧ kind ≤ 9)
  · rw [eI] at KI; simp only [Bool.false_and]
    exact rfits_not kind k z t l1 l2 l3 l4 c1 c2 c3 c4 d1 d2 d3 d4 w (Lib.hid KI)
  rw [eI] at KI
  by_cases ek : k = kind
  case neg =>
    have := rfits_ne kind k z t l1 l2 l3 l4 c1 c2 c3 c4 d1 d2 d3 d4 w (Lib.hid KI) (by simp [ek])
    simpa [ek] using this
  subst ek
  cases eL : noneB l1 l2 l3 l4
  · rw [eL] at KL
    have := rfits_lone k k z t l1 l2 l3 l4 c1 c2 c3 c4 d1 d2 d3 d4 w (Lib.hid KI) (by simp) (Lib.hid KL)
    simpa [leanB] using this
  rw [eL] at KL
  by_cases eT : k = 7 ∨ k = 8
  · rw [show decide (k = 7 ∨ k = 8) = true from decide_eq_true eT] at KT
    have ew : withinB k z = true := by rcases eT with h | h <;> subst h <;> rfl
    rw [ew]
    by_cases ez : z = 0
    · by_cases es : t.size ≤ 4096
      · by_cases e8 : k = 8
        · have := rfits_t8 k k z t l1 l2 l3 l4 c1 c2 c3 c4 d1 d2 d3 d4 w (Lib.hid KI) (by simp) (Lib.hid KL) (Lib.hid KT) (by simp [ez]) (decide_eq_true (by omega)) (by simp [e8])
          simpa [leanB, eT, ez, es, e8] using this
        · have e7 : k = 7 := by omega
          have := rfits_t7 k k z t l1 l2 l3 l4 c1 c2 c3 c4 d1 d2 d3 d4 w (Lib.hid KI) (by simp) (Lib.hid KL) (Lib.hid KT) (by simp [ez]) (decide_eq_true (by omega)) (by simp [e8]) (validB t) (Lib.hid KV)
          simpa [leanB, eT, ez, es, e7] using this
      · have := rfits_tl k k z t l1 l2 l3 l4 c1 c2 c3 c4 d1 d2 d3 d4 w (Lib.hid KI) (by simp) (Lib.hid KL) (Lib.hid KT) (by simp [ez]) (decide_eq_false (by omega))
        simpa [leanB, eT, ez, es] using this
    · have := rfits_tz k k z t l1 l2 l3 l4 c1 c2 c3 c4 d1 d2 d3 d4 w (Lib.hid KI) (by simp) (Lib.hid KL) (Lib.hid KT) (by simp [ez])
      simpa [leanB, eT, ez] using this
  · rw [show decide (k = 7 ∨ k = 8) = false from decide_eq_false eT] at KT
    have e7 : k ≠ 7 := fun h => eT (.inl h)
    by_cases et : t.size = 0
    case neg =>
      have := rfits_nt k k z t l1 l2 l3 l4 c1 c2 c3 c4 d1 d2 d3 d4 w (Lib.hid KI) (by simp) (Lib.hid KL) (Lib.hid KT) (by rw [empty_toList]; simp [et]) (by rw [empty_toList]; simp [et])
      simpa [leanB, eT, et] using this
    have t1 : t.toList.isEmpty = true := by rw [empty_toList]; simp [et]
    have t2 : (!t.toList.isEmpty) = false := by rw [t1]; rfl
    have key : (true && decide (k = k) && leanB k z t true && withinB k z && decide (t.size ≤ 4096) && (decide (k ≠ 7) || validB t)) = withinB k z := by
      unfold leanB; rw [if_neg eT]; simp [et, e7]
    rw [key]
    by_cases h1 : k = 1
    · subst h1; exact rfits_1 z t l1 l2 l3 l4 c1 c2 c3 c4 d1 d2 d3 d4 w (Lib.hid KI) (Lib.hid KL) (Lib.hid KT) t1 t2
    by_cases h2 : k = 2
    · subst h2
      cases g : decide (-2147483648 ≤ wrap64 z)
      · have := rfits_2n z t l1 l2 l3 l4 c1 c2 c3 c4 d1 d2 d3 d4 w (Lib.hid KI) (Lib.hid KL) (Lib.hid KT) t1 t2 g
        have e : withinB 2 z = false := by
          have g' := of_decide_eq_false g
          show decide (_ ∧ _) = false
          exact decide_eq_false (fun x => g' x.1)
        rw [e]; exact this
      · have := rfits_2y z t l1 l2 l3 l4 c1 c2 c3 c4 d1 d2 d3 d4 w (Lib.hid KI) (Lib.hid KL) (Lib.hid KT) t1 t2 g
        have e : withinB 2 z = decide (wrap64 z ≤ 2147483647) := by
          have g' := of_decide_eq_true g
          show decide (_ ∧ _) = _
          rw [Bool.eq_iff_iff, decide_eq_true_iff, decide_eq_true_iff]
          exact ⟨fun x => x.2, fun x => ⟨g', x⟩⟩
        rw [e]; exact this
    by_cases h4 : k = 4
    · subst h4
      have := rfits_4 z t l1 l2 l3 l4 c1 c2 c3 c4 d1 d2 d3 d4 w (Lib.hid KI) (Lib.hid KL) (Lib.hid KT) t1 t2
      have e : withinB 4 z = decide (z < 4294967296) := by
        show decide (z ≤ 4294967295) = _
        rw [Bool.eq_iff_iff, decide_eq_true_iff, decide_eq_true_iff]
        constructor <;> intro h <;> omega
      rw [e]; exact this
    by_cases h9 : k = 9
    · subst h9
      have := rfits_9 z t l1 l2 l3 l4 c1 c2 c3 c4 d1 d2 d3 d4 w (Lib.hid KI) (Lib.hid KL) (Lib.hid KT) t1 t2
      have e : withinB 9 z = decide (z < 2147483648) := by
        show decide (z ≤ 2147483647) = _
        rw [Bool.eq_iff_iff, decide_eq_true_iff, decide_eq_true_iff]
        constructor <;> intro h <;> omega
      rw [e]; exact this
    · have := rfits_o k k z t l1 l2 l3 l4 c1 c2 c3 c4 d1 d2 d3 d4 w (Lib.hid KI) (by simp) (Lib.hid KL) (Lib.hid KT) t1 t2 (by simp [h1]) (by simp [h2]) (by simp [h4]) (by simp [h9])
      have e : withinB k z = true := by simp [withinB, h1, h2, h4, h9]
      rw [e]; exact this
end Go.Proofs.YtlgpoapedgodoaaDoor

/- Norm, the program's and the reference's; what orders a number's key. -/
namespace Go.Proofs.YtlgpoapedgodoaaDoor
open Go.RowKit
set_option linter.unusedVariables false

theorem n_xor (a : Nat) (h : a < 18446744073709551616) : a ^^^ 9223372036854775808 = if a < 9223372036854775808 then a + 9223372036854775808 else a - 9223372036854775808 := by
  by_cases h1 : a < 9223372036854775808
  · rw [if_pos h1, ← n_or a h1]
    apply Nat.eq_of_testBit_eq
    intro i
    rw [show (9223372036854775808 : Nat) = 2 ^ 63 by decide, Nat.testBit_xor, Nat.testBit_or, Nat.testBit_two_pow]
    by_cases hi : 63 = i
    · subst hi
      have : a.testBit 63 = false := Nat.testBit_lt_two_pow h1
      simp [this]
    · simp [hi]
  · rw [if_neg h1]
    have e : a = (a - 9223372036854775808) ||| 9223372036854775808 := by
      rw [n_or _ (by omega)]; omega
    apply Nat.eq_of_testBit_eq
    intro i
    generalize hb : a - 9223372036854775808 = b at *
    have hbl : b < 9223372036854775808 := by omega
    rw [e, show (9223372036854775808 : Nat) = 2 ^ 63 by decide, Nat.testBit_xor, Nat.testBit_or, Nat.testBit_two_pow]
    by_cases hi : 63 = i
    · subst hi
      have : b.testBit 63 = false := Nat.testBit_lt_two_pow hbl
      simp [this]
    · simp [hi]

/-- The highest bit turned. -/
def flipZ (z : Int) : Int := if z < 9223372036854775808 then z + 9223372036854775808 else z - 9223372036854775808

theorem u_xor (a : Int) (h : word a) : bits .xor .u64 a 9223372036854775808 = flipZ a := by
  obtain ⟨h0, h1⟩ := h
  obtain ⟨n, rfl⟩ : ∃ n : Nat, a = n := ⟨a.toNat, by omega⟩
  have h := bits_xor_u64_nat n 9223372036854775808 (by omega) (by decide)
  rw [n_xor _ (by omega)] at h
  have e : (9223372036854775808 : Int) = ((9223372036854775808 : Nat) : Int) := rfl
  unfold flipZ
  rw [e, h]
  split <;> split <;> omega

/-- The bits of the normal form. -/
def normZ (k z : Int) : Int := if k = 6 ∧ classZ z = 0 then 9221120237041090560 else z
theorem normZ_word (k z : Int) (h : word z) : word (normZ k z) := by
  unfold normZ
  split
  · exact ⟨by decide, by decide⟩
  · exact h


set_option maxRecDepth 4000 in
set_option maxHeartbeats 1000000 in
theorem norm_o (k z : Int) (t : ByteArray) (l1 l2 l3 l4 c1 c2 c3 c4 : Nat) (d1 d2 d3 d4 : Option Addr) (h6 : (k == 6) = false) (w : World) :
    Calls Tryd.prog 57 #[.agg #[.int .i64 k, .int .u64 z, .string t, .slice d1 l1 c1, .slice d2 l2 c2, .slice d3 l3 c3, .slice d4 l4 c4]] w fun e w' => e = .returned (.agg #[.int .i64 k, .int .u64 z, .string t, .slice d1 l1 c1, .slice d2 l2 c2, .slice d3 l3 c3, .slice d4 l4 c4]) ∧ Below w.heap.size w w' := by
  go_enter Tryd.func57, Tryd.ntmps57
  go_wp2_with fail
  exact bodyPost_ret (v := .agg #[.int .i64 k, .int .u64 z, .string t, .slice d1 l1 c1, .slice d2 l2 c2, .slice d3 l3 c3, .slice d4 l4 c4]) (by simp [results, Tryd.results57, go_sem]) rfl ⟨rfl, by go_grown⟩

set_option maxRecDepth 4000 in
set_option maxHeartbeats 1000000 in
theorem norm_n (z : Int) (t : ByteArray) (l1 l2 l3 l4 c1 c2 c3 c4 : Nat) (d1 d2 d3 d4 : Option Addr) (w : World) (C : Int) (hC : (C == 0) = true) (KC : Hid (∀ w : World, Calls Tryd.prog 82 #[.int .u64 z] w fun e w' => e = .returned (.int .i64 C) ∧ w' = w)) :
    Calls Tryd.prog 57 #[.agg #[.int .i64 6, .int .u64 z, .string t, .slice d1 l1 c1, .slice d2 l2 c2, .slice d3 l3 c3, .slice d4 l4 c4]] w fun e w' => e = .returned (.agg #[.int .i64 6, .int .u64 9221120237041090560, .string t, .slice d1 l1 c1, .slice d2 l2 c2, .slice d3 l3 c3, .slice d4 l4 c4]) ∧ Below w.heap.size w w' := by
  go_enter Tryd.func57, Tryd.ntmps57
  go_wp2_with fail
  refine calls_same (KC.out _) ?_
  go_wp2_with fail
  exact bodyPost_ret (v := .agg #[.int .i64 6, .int .u64 9221120237041090560, .string t, .slice d1 l1 c1, .slice d2 l2 c2, .slice d3 l3 c3, .slice d4 l4 c4]) (by simp [results, Tryd.results57, go_sem]) rfl ⟨rfl, by go_grown⟩

set_option maxRecDepth 4000 in
set_option maxHeartbeats 1000000 in
theorem norm_d (z : Int) (t : ByteArray) (l1 l2 l3 l4 c1 c2 c3 c4 : Nat) (d1 d2 d3 d4 : Option Addr) (w : World) (C : Int) (hC : (C == 0) = false) (KC : Hid (∀ w : World, Calls Tryd.prog 82 #[.int .u64 z] w fun e w' => e = .returned (.int .i64 C) ∧ w' = w)) :
    Calls Tryd.prog 57 #[.agg #[.int .i64 6, .int .u64 z, .string t, .slice d1 l1 c1, .slice d2 l2 c2, .slice d3 l3 c3, .slice d4 l4 c4]] w fun e w' => e = .returned (.agg #[.int .i64 6, .int .u64 z, .string t, .slice d1 l1 c1, .slice d2 l2 c2, .slice d3 l3 c3, .slice d4 l4 c4]) ∧ Below w.heap.size w w' := by
  go_enter Tryd.func57, Tryd.ntmps57
  go_wp2_with fail
  refine calls_same (KC.out _) ?_
  go_wp2_with fail
  exact bodyPost_ret (v := .agg #[.int .i64 6, .int .u64 z, .string t, .slice d1 l1 c1, .slice d2 l2 c2, .slice d3 l3 c3, .slice d4 l4 c4]) (by simp [results, Tryd.results57, go_sem]) rfl ⟨rfl, by go_grown⟩

theorem norm_ok (k z : Int) (t : ByteArray) (l1 l2 l3 l4 c1 c2 c3 c4 : Nat) (d1 d2 d3 d4 : Option Addr) (hz : word z) (w : World) :
    Calls Tryd.prog 57 #[.agg #[.int .i64 k, .int .u64 z, .string t, .slice d1 l1 c1, .slice d2 l2 c2, .slice d3 l3 c3, .slice d4 l4 c4]] w fun e w' => e = .returned (.agg #[.int .i64 k, .int .u64 (normZ k z), .string t, .slice d1 l1 c1, .slice d2 l2 c2, .slice d3 l3 c3, .slice d4 l4 c4]) ∧ Below w.heap.size w w' := by
  by_cases h6 : k = 6
  · subst h6
    have KC := Lib.hid (fun w : World => class_ok z hz w)
    by_cases hc : classZ z = 0
    · rw [show normZ 6 z = 9221120237041090560 by unfold normZ; rw [if_pos ⟨rfl, hc⟩]]
      exact norm_n z t l1 l2 l3 l4 c1 c2 c3 c4 d1 d2 d3 d4 w (classZ z) (by simp [hc]) KC
    · rw [show normZ 6 z = z by unfold normZ; rw [if_neg (fun x => hc x.2)]]
      exact norm_d z t l1 l2 l3 l4 c1 c2 c3 c4 d1 d2 d3 d4 w (classZ z) (by simp [hc]) KC
  · rw [show normZ k z = z by unfold normZ; rw [if_neg (fun x => h6 x.1)]]
    exact norm_o k z t l1 l2 l3 l4 c1 c2 c3 c4 d1 d2 d3 d4 (by simp [h6]) w

set_option maxRecDepth 4000 in
set_option maxHeartbeats 1000000 in
theorem rnorm_o (k z : Int) (t : ByteArray) (l1 l2 l3 l4 c1 c2 c3 c4 : Nat) (d1 d2 d3 d4 : Option Addr) (h6 : (k == 6) = false) (w : World) :
    Calls Tryd.prog 22 #[.agg #[.int .i64 k, .int .u64 z, .string t, .slice d1 l1 c1, .slice d2 l2 c2, .slice d3 l3 c3, .slice d4 l4 c4]] w fun e w' => e = .returned (.agg #[.int .i64 k, .int .u64 z, .string t, .slice d1 l1 c1, .slice d2 l2 c2, .slice d3 l3 c3, .slice d4 l4 c4]) ∧ Below w.heap.size w w' := by
  go_enter Tryd.func22, Tryd.ntmps22
  go_wp2_with fail
  exact bodyPost_ret (v := .agg #[.int .i64 k, .int .u64 z, .string t, .slice d1 l1 c1, .slice d2 l2 c2, .slice d3 l3 c3, .slice d4 l4 c4]) (by simp [results, Tryd.results22, go_sem]) rfl ⟨rfl, by go_grown⟩

set_option maxRecDepth 4000 in
set_option maxHeartbeats 1000000 in
theorem rnorm_n (z : Int) (t : ByteArray) (l1 l2 l3 l4 c1 c2 c3 c4 : Nat) (d1 d2 d3 d4 : Option Addr) (w : World) (C : Int) (hC : (C == 0) = true) (KC : Hid (∀ w : World, Calls Tryd.prog 64 #[.int .u64 z] w fun e w' => e = .returned (.int .i64 C) ∧ w' = w)) :
    Calls Tryd.prog 22 #[.agg #[.int .i64 6, .int .u64 z, .string t, .slice d1 l1 c1, .slice d2 l2 c2, .slice d3 l3 c3, .slice d4 l4 c4]] w fun e w' => e = .returned (.agg #[.int .i64 6, .int .u64 9221120237041090560, .string t, .slice d1 l1 c1, .slice d2 l2 c2, .slice d3 l3 c3, .slice d4 l4 c4]) ∧ Below w.heap.size w w' := by
  go_enter Tryd.func22, Tryd.ntmps22
  go_wp2_with fail
  refine calls_same (KC.out _) ?_
  go_wp2_with fail
  exact bodyPost_ret (v := .agg #[.int .i64 6, .int .u64 9221120237041090560, .string t, .slice d1 l1 c1, .slice d2 l2 c2, .slice d3 l3 c3, .slice d4 l4 c4]) (by simp [results, Tryd.results22, go_sem]) rfl ⟨rfl, by go_grown⟩

set_option maxRecDepth 4000 in
set_option maxHeartbeats 1000000 in
theorem rnorm_d (z : Int) (t : ByteArray) (l1 l2 l3 l4 c1 c2 c3 c4 : Nat) (d1 d2 d3 d4 : Option Addr) (w : World) (C : Int) (hC : (C == 0) = false) (KC : Hid (∀ w : World, Calls Tryd.prog 64 #[.int .u64 z] w fun e w' => e = .returned (.int .i64 C) ∧ w' = w)) :
    Calls Tryd.prog 22 #[.agg #[.int .i64 6, .int .u64 z, .string t, .slice d1 l1 c1, .slice d2 l2 c2, .slice d3 l3 c3, .slice d4 l4 c4]] w fun e w' => e = .returned (.agg #[.int .i64 6, .int .u64 z, .string t, .slice d1 l1 c1, .slice d2 l2 c2, .slice d3 l3 c3, .slice d4 l4 c4]) ∧ Below w.heap.size w w' := by
  go_enter Tryd.func22, Tryd.ntmps22
  go_wp2_with fail
  refine calls_same (KC.out _) ?_
  go_wp2_with fail
  exact bodyPost_ret (v := .agg #[.int .i64 6, .int .u64 z, .string t, .slice d1 l1 c1, .slice d2 l2 c2, .slice d3 l3 c3, .slice d4 l4 c4]) (by simp [results, Tryd.results22, go_sem]) rfl ⟨rfl, by go_grown⟩

theorem rnorm_ok (k z : Int) (t : ByteArray) (l1 l2 l3 l4 c1 c2 c3 c4 : Nat) (d1 d2 d3 d4 : Option Addr) (hz : word z) (w : World) :
    Calls Tryd.prog 22 #[.agg #[.int .i64 k, .int .u64 z, .string t, .slice d1 l1 c1, .slice d2 l2 c2, .slice d3 l3 c3, .slice d4 l4 c4]] w fun e w' => e = .returned (.agg #[.int .i64 k, .int .u64 (normZ k z), .string t, .slice d1 l1 c1, .slice d2 l2 c2, .slice d3 l3 c3, .slice d4 l4 c4]) ∧ Below w.heap.size w w' := by
  by_cases h6 : k = 6
  · subst h6
    have KC := Lib.hid (fun w : World => rclass_ok z hz w)
    by_cases hc : classZ z = 0
    · rw [show normZ 6 z = 9221120237041090560 by unfold normZ; rw [if_pos ⟨rfl, hc⟩]]
      exact rnorm_n z t l1 l2 l3 l4 c1 c2 c3 c4 d1 d2 d3 d4 w (classZ z) (by simp [hc]) KC
    · rw [show normZ 6 z = z by unfold normZ; rw [if_neg (fun x => hc x.2)]]
      exact rnorm_d z t l1 l2 l3 l4 c1 c2 c3 c4 d1 d2 d3 d4 w (classZ z) (by simp [hc]) KC
  · rw [show normZ k z = z by unfold normZ; rw [if_neg (fun x => h6 x.1)]]
    exact rnorm_o k z t l1 l2 l3 l4 c1 c2 c3 c4 d1 d2 d3 d4 (by simp [h6]) w

@[go_sem] theorem fieldV_0 (a0 a1 a2 a3 a4 a5 a6 : Value) (w : World) : (Instr.field 28 (.agg #[a0, a1, a2, a3, a4, a5, a6]) 0).run Tryd.prog w = .ok a0 w := by kernel_rfl
@[go_sem] theorem fieldV_1 (a0 a1 a2 a3 a4 a5 a6 : Value) (w : World) : (Instr.field 28 (.agg #[a0, a1, a2, a3, a4, a5, a6]) 1).run Tryd.prog w = .ok a1 w := by kernel_rfl
@[go_sem] theorem fieldV_2 (a0 a1 a2 a3 a4 a5 a6 : Value) (w : World) : (Instr.field 28 (.agg #[a0, a1, a2, a3, a4, a5, a6]) 2).run Tryd.prog w = .ok a2 w := by kernel_rfl
@[go_sem] theorem fieldV_3 (a0 a1 a2 a3 a4 a5 a6 : Value) (w : World) : (Instr.field 28 (.agg #[a0, a1, a2, a3, a4, a5, a6]) 3).run Tryd.prog w = .ok a3 w := by kernel_rfl
@[go_sem] theorem fieldV_4 (a0 a1 a2 a3 a4 a5 a6 : Value) (w : World) : (Instr.field 28 (.agg #[a0, a1, a2, a3, a4, a5, a6]) 4).run Tryd.prog w = .ok a4 w := by kernel_rfl
@[go_sem] theorem fieldV_5 (a0 a1 a2 a3 a4 a5 a6 : Value) (w : World) : (Instr.field 28 (.agg #[a0, a1, a2, a3, a4, a5, a6]) 5).run Tryd.prog w = .ok a5 w := by kernel_rfl
@[go_sem] theorem fieldV_6 (a0 a1 a2 a3 a4 a5 a6 : Value) (w : World) : (Instr.field 28 (.agg #[a0, a1, a2, a3, a4, a5, a6]) 6).run Tryd.prog w = .ok a6 w := by kernel_rfl

/-- The number whose bytes a key has. -/
def rankK (k z : Int) : Int := if k = 2 ∨ k = 3 then flipZ z else if k = 6 then (if z < 9223372036854775808 then z + 9223372036854775808 else 18446744073709551615 - z) else z
theorem rankK_word (k z : Int) (h : word z) : word (rankK k z) := by
  obtain ⟨h0, h1⟩ := h
  unfold rankK flipZ word
  split
  · split <;> omega
  · split
    · split <;> omega
    · omega

set_option maxRecDepth 4000 in
set_option maxHeartbeats 1000000 in
theorem turned_s (k z : Int) (t : ByteArray) (l1 l2 l3 l4 c1 c2 c3 c4 : Nat) (d1 d2 d3 d4 : Option Addr) (h : decide (k = 2 ∨ k = 3) = true) (hz : word z) (w : World) :
    Calls Tryd.prog 29 #[.agg #[.int .i64 k, .int .u64 z, .string t, .slice d1 l1 c1, .slice d2 l2 c2, .slice d3 l3 c3, .slice d4 l4 c4]] w fun e w' => e = .returned (.int .u64 (flipZ z)) ∧ Below w.heap.size w w' := by
  have hx := u_xor z hz
  obtain ⟨F, HF⟩ : ∃ F, Hid (F = flipZ z) := ⟨_, Lib.hid rfl⟩
  rw [← HF.out] at hx ⊢
  clear hz
  rcases of_decide_eq_true h with rfl | rfl
  all_goals
    clear h
    go_enter Tryd.func29, Tryd.ntmps29
    go_wp2_with fail
    go_ret
    exact ⟨rfl, by go_grown⟩

set_option maxRecDepth 4000 in
set_option maxHeartbeats 1000000 in
theorem turned_o (k z : Int) (t : ByteArray) (l1 l2 l3 l4 c1 c2 c3 c4 : Nat) (d1 d2 d3 d4 : Option Addr) (h2 : (k == 2) = false) (h3 : (k == 3) = false) (h6 : (k == 6) = false) (w : World) :
    Calls Tryd.prog 29 #[.agg #[.int .i64 k, .int .u64 z, .string t, .slice d1 l1 c1, .slice d2 l2 c2, .slice d3 l3 c3, .slice d4 l4 c4]] w fun e w' => e = .returned (.int .u64 z) ∧ Below w.heap.size w w' := by
  go_enter Tryd.func29, Tryd.ntmps29
  go_wp2_with fail
  go_ret
  exact ⟨rfl, by go_grown⟩

set_option maxRecDepth 4000 in
set_option maxHeartbeats 1000000 in
theorem turned_d (z u : Int) (t : ByteArray) (l1 l2 l3 l4 c1 c2 c3 c4 : Nat) (d1 d2 d3 d4 : Option Addr) (hu : word u) (w : World)
    (KN : Hid (∀ w : World, Calls Tryd.prog 57 #[.agg #[.int .i64 6, .int .u64 z, .string t, .slice d1 l1 c1, .slice d2 l2 c2, .slice d3 l3 c3, .slice d4 l4 c4]] w fun e w' => e = .returned (.agg #[.int .i64 6, .int .u64 u, .string t, .slice d1 l1 c1, .slice d2 l2 c2, .slice d3 l3 c3, .slice d4 l4 c4]) ∧ Below w.heap.size w w')) :
    Calls Tryd.prog 29 #[.agg #[.int .i64 6, .int .u64 z, .string t, .slice d1 l1 c1, .slice d2 l2 c2, .slice d3 l3 c3, .slice d4 l4 c4]] w fun e w' => e = .returned (.int .u64 (rankK 6 u)) ∧ Below w.heap.size w w' := by
  obtain ⟨R, HR⟩ : ∃ R, Hid (R = rankK 6 u) := ⟨_, Lib.hid rfl⟩
  rw [← HR.out]
  have ht := u_top u hu.1 hu.2
  have hx := u_xor u hu
  have hn := u_not u hu.1 hu.2
  obtain ⟨F, HF⟩ : ∃ F, Hid (F = flipZ u) := ⟨_, Lib.hid rfl⟩
  rw [← HF.out] at hx
  have HN := Lib.hid hn
  clear hn
  have HU := Lib.hid hu
  clear hu
  by_cases hlt : u < 9223372036854775808
  · have e0 : u / 9223372036854775808 * 9223372036854775808 = 0 := by have := HU.out.1; omega
    rw [e0] at ht
    have HR2 : Hid (R = F) := Lib.hid (by rw [HR.out, HF.out]; unfold rankK flipZ; simp [hlt])
    clear e0 hlt
    go_enter Tryd.func29, Tryd.ntmps29
    go_wp2_with fail
    refine calls_box1 ?_
    intro W _ hb
    refine calls_on (KN.out _) ?_
    intro w2 hb2
    have HB2 := Lib.hid (above hb hb2)
    clear hb hb2
    go_wp2_with fail
    go_ret
    exact ⟨by rw [HR2.out]; rfl, HB2.out⟩
  · have e0 : u / 9223372036854775808 * 9223372036854775808 = 9223372036854775808 := by have := HU.out.1; have := HU.out.2; omega
    rw [e0] at ht
    have HR2 : Hid (R = 18446744073709551615 - u) := Lib.hid (by rw [HR.out]; unfold rankK; simp [hlt])
    clear e0 hlt
    go_enter Tryd.func29, Tryd.ntmps29
    go_wp2_with fail
    refine calls_box1 ?_
    intro W _ hb
    refine calls_on (KN.out _) ?_
    intro w2 hb2
    have HB2 := Lib.hid (above hb hb2)
    clear hb hb2
    go_wp2_with fail
    go_ret
    refine ⟨?_, HB2.out⟩
    rw [HR2.out, ← HN.out]
    rfl

theorem turned_ok (k z : Int) (t : ByteArray) (l1 l2 l3 l4 c1 c2 c3 c4 : Nat) (d1 d2 d3 d4 : Option Addr) (hz : word z) (w : World) :
    Calls Tryd.prog 29 #[.agg #[.int .i64 k, .int .u64 z, .string t, .slice d1 l1 c1, .slice d2 l2 c2, .slice d3 l3 c3, .slice d4 l4 c4]] w fun e w' => e = .returned (.int .u64 (rankK k (normZ k z))) ∧ Below w.heap.size w w' := by
  by_cases h : k = 2 ∨ k = 3
  · rw [show rankK k (normZ k z) = flipZ z by unfold rankK normZ; rw [if_pos h, if_neg (by omega)]]
    exact turned_s k z t l1 l2 l3 l4 c1 c2 c3 c4 d1 d2 d3 d4 (decide_eq_true h) hz w
  · by_cases h6 : k = 6
    · subst h6
      exact turned_d z (normZ 6 z) t l1 l2 l3 l4 c1 c2 c3 c4 d1 d2 d3 d4 (normZ_word 6 z hz) w (Lib.hid fun w => norm_ok 6 z t l1 l2 l3 l4 c1 c2 c3 c4 d1 d2 d3 d4 hz w)
    · rw [show rankK k (normZ k z) = z by unfold rankK normZ; rw [if_neg h, if_neg h6, if_neg (by omega)]]
      exact turned_o k z t l1 l2 l3 l4 c1 c2 c3 c4 d1 d2 d3 d4 (by simp; omega) (by simp; omega) (by simp; omega) w

theorem wrap_u (x : Int) : IntKind.u64.wrap x = x % 18446744073709551616 := by simp [IntKind.wrap, IntKind.signed, IntKind.bits]

set_option maxRecDepth 4000 in
set_option maxHeartbeats 1000000 in
theorem rank16_s (k z : Int) (t : ByteArray) (l p s r : Value) (h : k = 2 ∨ k = 3) (hz : word z) (w : World) :
    Calls Tryd.prog 33 #[.agg #[.int .i64 k, .int .u64 z, .string t, l, p, s, r]] w fun e w' => e = .returned (.int .u64 (rankK k z)) ∧ Below w.heap.size w w' := by
  obtain ⟨R, HR⟩ : ∃ R, Hid (R = rankK k z) := ⟨_, Lib.hid rfl⟩
  rw [← HR.out]
  have HZ := Lib.hid hz
  have HR2 : Hid (R = IntKind.u64.wrap (z + 9223372036854775808)) := Lib.hid (by
    rw [HR.out, wrap_u]; unfold rankK flipZ; rw [if_pos h]; have := hz.1; have := hz.2; split <;> omega)
  obtain ⟨h0, h1⟩ := hz
  clear HR
  rcases h with rfl | rfl
  all_goals
    go_enter Tryd.func33, Tryd.ntmps33
    go_wp2_with fail
    go_ret
    refine ⟨?_, by go_grown⟩
    rw [HR2.out]
    rfl

set_option maxRecDepth 4000 in
set_option maxHeartbeats 1000000 in
theorem rank16_o (k z : Int) (t : ByteArray) (l p s r : Value) (h2 : (k == 2) = false) (h3 : (k == 3) = false) (h6 : (k == 6) = false) (w : World) :
    Calls Tryd.prog 33 #[.agg #[.int .i64 k, .int .u64 z, .string t, l, p, s, r]] w fun e w' => e = .returned (.int .u64 z) ∧ Below w.heap.size w w' := by
  go_enter Tryd.func33, Tryd.ntmps33
  go_wp2_with fail
  go_ret
  exact ⟨rfl, by go_grown⟩

set_option maxRecDepth 4000 in
set_option maxHeartbeats 1000000 in
theorem rank16_d (z : Int) (t : ByteArray) (l p s r : Value) (hz : word z) (w : World) :
    Calls Tryd.prog 33 #[.agg #[.int .i64 6, .int .u64 z, .string t, l, p, s, r]] w fun e w' => e = .returned (.int .u64 (rankK 6 z)) ∧ Below w.heap.size w w' := by
  obtain ⟨R, HR⟩ : ∃ R, Hid (R = rankK 6 z) := ⟨_, Lib.hid rfl⟩
  rw [← HR.out]
  obtain ⟨h0, h1⟩ := hz
  by_cases hlt : z < 9223372036854775808
  · have HR2 : Hid (R = IntKind.u64.wrap (z + 9223372036854775808)) := Lib.hid (by
      rw [HR.out, wrap_u]; unfold rankK; rw [if_neg (by omega), if_pos rfl, if_pos hlt]; omega)
    clear HR
    go_enter Tryd.func33, Tryd.ntmps33
    go_wp2_with fail
    go_ret
    refine ⟨?_, by go_grown⟩
    rw [HR2.out, wrap_u, Int.emod_eq_of_lt (by omega) (by omega)]
    rfl
  · have HR2 : Hid (R = 18446744073709551615 - z) := Lib.hid (by
      rw [HR.out]; unfold rankK; rw [if_neg (by omega), if_pos rfl, if_neg hlt])
    clear HR
    go_enter Tryd.func33, Tryd.ntmps33
    go_wp2_with fail
    go_ret
    refine ⟨?_, by go_grown⟩
    rw [HR2.out]
    rfl

theorem rank16_ok (k z : Int) (t : ByteArray) (l p s r : Value) (hz : word z) (w : World) :
    Calls Tryd.prog 33 #[.agg #[.int .i64 k, .int .u64 z, .string t, l, p, s, r]] w fun e w' => e = .returned (.int .u64 (rankK k z)) ∧ Below w.heap.size w w' := by
  by_cases h : k = 2 ∨ k = 3
  · exact rank16_s k z t l p s r h hz w
  · by_cases h6 : k = 6
    · subst h6; exact rank16_d z t l p s r hz w
    · rw [show rankK k z = z by unfold rankK; rw [if_neg h, if_neg h6]]
      exact rank16_o k z t l p s r (by simp; omega) (by simp; omega) (by simp; omega) w
end Go.Proofs.YtlgpoapedgodoaaDoor

/- varint.Fixed; slices.Reverse of eight bytes. -/
namespace Go.Proofs.YtlgpoapedgodoaaDoor
open Go.RowKit
set_option linter.unusedVariables false

@[go_sem] theorem mk8 (w : World) : (Instr.makeSlice 51 (.int .i64 8) (.int .i64 8)).run Tryd.prog w = .ok (.slice (some ⟨w.heap.size, 0, none⟩) 8 8) (w.alloc (.cells #[.int .u8 0, .int .u8 0, .int .u8 0, .int .u8 0, .int .u8 0, .int .u8 0, .int .u8 0, .int .u8 0] 5)) := by kernel_rfl

@[go_sem] theorem conv8 (x0 x1 x2 x3 x4 x5 x6 x7 : Int) (w : World) :
    (convert 51 9 (.slice (some ⟨w.heap.size, 0, none⟩) 8 8)).run Tryd.prog (w.alloc (.cells #[.int .u8 x0, .int .u8 x1, .int .u8 x2, .int .u8 x3, .int .u8 x4, .int .u8 x5, .int .u8 x6, .int .u8 x7] 5)) =
      .ok (.string (strOfNums [x0, x1, x2, x3, x4, x5, x6, x7])) (w.alloc (.cells #[.int .u8 x0, .int .u8 x1, .int .u8 x2, .int .u8 x3, .int .u8 x4, .int .u8 x5, .int .u8 x6, .int .u8 x7] 5)) := by
  have h := (box1_facts w #[.int .u8 x0, .int .u8 x1, .int .u8 x2, .int .u8 x3, .int .u8 x4, .int .u8 x5, .int .u8 x6, .int .u8 x7] 5).1
  refine run_convert_bytes_arg _ _ _ Tryd.underlying51 Tryd.underlying5 w.heap.size 0 8 8 [x0, x1, x2, x3, x4, x5, x6, x7] rfl (fun i hi => ?_) _ Tryd.underlying9
  rw [Nat.zero_add]
  match i, hi with
  | 0, _ => exact blk_cell h 0 rfl
  | 1, _ => exact blk_cell h 1 rfl
  | 2, _ => exact blk_cell h 2 rfl
  | 3, _ => exact blk_cell h 3 rfl
  | 4, _ => exact blk_cell h 4 rfl
  | 5, _ => exact blk_cell h 5 rfl
  | 6, _ => exact blk_cell h 6 rfl
  | 7, _ => exact blk_cell h 7 rfl

/-- The eight bytes of a number, the least one first. -/
def leZ (u : Int) : List Int := [u % 256, u / 256 % 256, u / 65536 % 256, u / 16777216 % 256, u / 4294967296 % 256, u / 1099511627776 % 256, u / 281474976710656 % 256, u / 72057594037927936 % 256]

set_option maxRecDepth 8000 in
set_option maxHeartbeats 2000000 in
theorem fixed_ok (u : Int) (hu : word u) (w : World) :
    Calls Tryd.prog 28 #[.int .u64 u] w fun e w' => e = .returned (.string (strOfNums (leZ u))) ∧ Below w.heap.size w w' := by
  obtain ⟨hu0, hu1⟩ := hu
  have HL : Hid (leZ u = [u % 256, u / 256 % 256, u / 65536 % 256, u / 16777216 % 256, u / 4294967296 % 256, u / 1099511627776 % 256, u / 281474976710656 % 256, u / 72057594037927936]) := Lib.hid (by
    unfold leZ; rw [show u / 72057594037927936 % 256 = u / 72057594037927936 by omega])
  rw [HL.out]
  go_enter Tryd.func28, Tryd.ntmps28
  go_wp2_with fail
  refine wp_loop_rounds 9 ?_
  rw [rounds_succ]
  go_wp2_with fail
  rw [rounds_succ]
  go_wp2_with fail
  rw [rounds_succ]
  go_wp2_with fail
  rw [rounds_succ]
  go_wp2_with fail
  rw [rounds_succ]
  go_wp2_with fail
  rw [rounds_succ]
  go_wp2_with fail
  rw [rounds_succ]
  go_wp2_with fail
  rw [rounds_succ]
  go_wp2_with fail
  rw [rounds_succ]
  go_wp2_with fail
  go_ret
  exact ⟨rfl, by go_grown⟩

set_option maxRecDepth 8000 in
set_option maxHeartbeats 2000000 in
theorem rev8_ok (x0 x1 x2 x3 x4 x5 x6 x7 : Int) (B cap : Nat) (w : World) (hcap : 8 ≤ cap)
    (c0 : w.cell? ⟨B, 0, none⟩ = some (.int .u8 x0)) (c1 : w.cell? ⟨B, 1, none⟩ = some (.int .u8 x1)) (c2 : w.cell? ⟨B, 2, none⟩ = some (.int .u8 x2)) (c3 : w.cell? ⟨B, 3, none⟩ = some (.int .u8 x3))
    (c4 : w.cell? ⟨B, 4, none⟩ = some (.int .u8 x4)) (c5 : w.cell? ⟨B, 5, none⟩ = some (.int .u8 x5)) (c6 : w.cell? ⟨B, 6, none⟩ = some (.int .u8 x6)) (c7 : w.cell? ⟨B, 7, none⟩ = some (.int .u8 x7))
    (f0 : w.frozen? ⟨B, 0, none⟩ = false) (f1 : w.frozen? ⟨B, 1, none⟩ = false) (f2 : w.frozen? ⟨B, 2, none⟩ = false) (f3 : w.frozen? ⟨B, 3, none⟩ = false) (f4 : w.frozen? ⟨B, 4, none⟩ = false) (f5 : w.frozen? ⟨B, 5, none⟩ = false) (f6 : w.frozen? ⟨B, 6, none⟩ = false) (f7 : w.frozen? ⟨B, 7, none⟩ = false) :
    Calls Tryd.prog 30 #[.slice (some ⟨B, 0, none⟩) 8 cap] w fun e w' => e = .returned (.tuple #[]) ∧ (∀ i, i < 8 → w'.cell? ⟨B, 0 + i, none⟩ = some (.int .u8 ([x7, x6, x5, x4, x3, x2, x1, x0].getD i 0))) ∧ Below B w w' := by
  go_enter Tryd.func30, Tryd.ntmps30
  go_wp2_with fail
  refine wp_loop_rounds 5 ?_
  rw [rounds_succ]
  go_wp2_with fail
  go_region
  go_wp2_with fail
  rw [rounds_succ]
  go_wp2_with fail
  go_region
  go_wp2_with fail
  rw [rounds_succ]
  go_wp2_with fail
  go_region
  go_wp2_with fail
  rw [rounds_succ]
  go_wp2_with fail
  go_region
  go_wp2_with fail
  rw [rounds_succ]
  go_wp2_with fail
  refine bodyPost_end (results_none rfl _ _ _) rfl ⟨rfl, fun i hi => ?_, by go_grown⟩
  match i, hi with
  | 0, _ => simp [go_sem, *]
  | 1, _ => simp [go_sem, *]
  | 2, _ => simp [go_sem, *]
  | 3, _ => simp [go_sem, *]
  | 4, _ => simp [go_sem, *]
  | 5, _ => simp [go_sem, *]
  | 6, _ => simp [go_sem, *]
  | 7, _ => simp [go_sem, *]
end Go.Proofs.YtlgpoapedgodoaaDoor

/- strings.ReplaceAll at the escape of a key. -/
namespace Go.Proofs.YtlgpoapedgodoaaDoor
open Go.RowKit

theorem esc_ok (t : ByteArray) (m : Int) (ht : t.size ≤ 4096) (w : World) (hm : w.cell? ⟨0, 0, none⟩ = some (.int .i64 m)) :
    Calls Tryd.prog 27 #[.string t, .string ⟨#[0]⟩, .string ⟨#[0, 255]⟩] w fun e w' => e = .returned (.string ⟨(escT t.data.toList).toArray⟩) ∧ Below w.heap.size w w' := by
  have hc := Lib.countB_mul_le ⟨#[0]⟩ (by decide) t.size t (Nat.le_refl _)
  have h := Tryd.strings_ReplaceAll t ⟨#[0]⟩ ⟨#[0, 255]⟩ m w (by omega) hm (by decide) (by
    have e1 : (⟨#[0]⟩ : ByteArray).size = 1 := rfl
    have e2 : (⟨#[0, 255]⟩ : ByteArray).size = 2 := rfl
    rw [e1] at hc
    rw [e2]
    omega)
  have e : Lib.replaceAll t.data.toList (⟨#[0]⟩ : ByteArray).data.toList (⟨#[0, 255]⟩ : ByteArray).data.toList = escT t.data.toList := replaceAll_esc _
  rw [e] at h
  exact h
end Go.Proofs.YtlgpoapedgodoaaDoor

/- A text turned into bytes of the call's own. -/
namespace Go.Proofs.YtlgpoapedgodoaaDoor
open Go.RowKit

theorem conv_s (w : World) (s : ByteArray) : ∃ (cap : Nat) (w5 : World), (convert 9 51 (.string s)).run Tryd.prog w = .ok (.slice (some ⟨w.heap.size, 0, none⟩) s.size cap) w5 ∧ s.size ≤ cap ∧
    (∀ j, j < s.size → w5.cell? ⟨w.heap.size, j, none⟩ = some (.int .u8 (s.data.toList.getD j 0).toNat)) ∧ (∀ j, j < s.size → w5.frozen? ⟨w.heap.size, j, none⟩ = false) ∧ Below w.heap.size w w5 ∧ w.heap.size < w5.heap.size := by
  refine ⟨_, _, Lib.run_convert_string_bytes w _ _ 5 s Tryd.underlying9 Tryd.underlying51 Tryd.underlying5, grownCap_ge _ _ _ _, fun j hj => Lib.bytesWorld_cell w _ s j hj, fun j hj => ?_, ?_, by rw [Lib.bytesWorld_size]; omega⟩
  · have h := Lib.bytesWorld_at_new w 5 s
    have hz : (Lib.bytesCells w 5 s).size = grownCap w s.size 0 5 := by
      have := grownCap_ge w s.size 0 5
      simp [Lib.bytesCells]
      have e : s.data.size = s.size := rfl
      omega
    have hc := grownCap_ge w s.size 0 5
    simp [World.frozen?, h]
    omega
  · refine ⟨rfl, rfl, rfl, by rw [Lib.bytesWorld_size]; omega, fun k hk => Lib.bytesWorld_at_old w _ s k hk⟩
end Go.Proofs.YtlgpoapedgodoaaDoor

/- order.Key. -/
namespace Go.Proofs.YtlgpoapedgodoaaDoor
open Go.RowKit
set_option linter.unusedVariables false

/-- A text from its end. -/
def revB (s : ByteArray) : ByteArray := ⟨s.data.toList.reverse.toArray⟩
theorem revB_size (s : ByteArray) : (revB s).size = s.size := by
  show (s.data.toList.reverse.toArray).size = s.data.size
  simp
theorem revB8 (s : ByteArray) (h : s.size = 8) :
    strOfNums [((s.data.toList.getD 7 0).toNat : Int), ((s.data.toList.getD 6 0).toNat : Int), ((s.data.toList.getD 5 0).toNat : Int), ((s.data.toList.getD 4 0).toNat : Int), ((s.data.toList.getD 3 0).toNat : Int), ((s.data.toList.getD 2 0).toNat : Int), ((s.data.toList.getD 1 0).toNat : Int), ((s.data.toList.getD 0 0).toNat : Int)] = revB s := by
  have hl : s.data.toList.length = 8 := by simpa using h
  unfold revB strOfNums
  generalize s.data.toList = l at *
  match l, hl with
  | [b0, b1, b2, b3, b4, b5, b6, b7], _ => simp

def KFits (k z : Int) (t : ByteArray) (l1 l2 l3 l4 c1 c2 c3 c4 : Nat) (d1 d2 d3 d4 : Option Addr) (b : Bool) : Prop :=
  ∀ w : World, Calls Tryd.prog 14 #[.int .i64 k, .agg #[.int .i64 k, .int .u64 z, .string t, .slice d1 l1 c1, .slice d2 l2 c2, .slice d3 l3 c3, .slice d4 l4 c4]] w
    fun e w' => e = .returned (.bool b) ∧ Below w.heap.size w w'

set_option maxRecDepth 8000 in
set_option maxHeartbeats 2000000 in
theorem key_no (k z : Int) (t : ByteArray) (l1 l2 l3 l4 c1 c2 c3 c4 : Nat) (d1 d2 d3 d4 : Option Addr) (w : World) (KF : Hid (KFits k z t l1 l2 l3 l4 c1 c2 c3 c4 d1 d2 d3 d4 false)) :
    Calls Tryd.prog 10 #[.agg #[.int .i64 k, .int .u64 z, .string t, .slice d1 l1 c1, .slice d2 l2 c2, .slice d3 l3 c3, .slice d4 l4 c4]] w
      fun e w' => e = .returned (.string ⟨#[]⟩) ∧ Below w.heap.size w w' := by
  go_enter Tryd.func10, Tryd.ntmps10
  go_wp2_with fail
  refine calls_box1 ?_
  intro W hA hb
  have HB := Lib.hid hb
  clear hA hb
  refine calls_on (KF.out _) ?_
  intro w2 hb2
  have HB2 := Lib.hid (above HB.out hb2)
  clear hb2
  go_wp2_with fail
  go_ret
  exact ⟨rfl, HB2.out⟩

set_option maxRecDepth 8000 in
set_option maxHeartbeats 2000000 in
theorem key_text7 (z : Int) (t : ByteArray) (l1 l2 l3 l4 c1 c2 c3 c4 : Nat) (d1 d2 d3 d4 : Option Addr) (w : World) (KF : Hid (KFits 7 z t l1 l2 l3 l4 c1 c2 c3 c4 d1 d2 d3 d4 true))
    (E : ByteArray) (hE : E.size ≤ 8192) (m : Int) (hm : w.cell? ⟨0, 0, none⟩ = some (.int .i64 m))
    (KE : Hid (∀ w : World, w.cell? ⟨0, 0, none⟩ = some (.int .i64 m) → Calls Tryd.prog 27 #[.string t, .string ⟨#[0]⟩, .string ⟨#[0, 255]⟩] w fun e w' => e = .returned (.string E) ∧ Below w.heap.size w w')) :
    Calls Tryd.prog 10 #[.agg #[.int .i64 7, .int .u64 z, .string t, .slice d1 l1 c1, .slice d2 l2 c2, .slice d3 l3 c3, .slice d4 l4 c4]] w
      fun e w' => e = .returned (.string (⟨#[7]⟩ ++ E ++ ⟨#[0, 0]⟩)) ∧ Below w.heap.size w w' := by
  have HM := Lib.hid hm
  clear hm
  have u7 : Utf8.encode 7 = ⟨#[7]⟩ := by decide
  go_enter Tryd.func10, Tryd.ntmps10
  go_wp2_with fail
  refine calls_box1 ?_
  intro W hA hb
  have HB := Lib.hid hb
  have HA := Lib.hid hA
  clear hA hb
  refine calls_on (KF.out _) ?_
  intro w2 hb2
  have HB2 := Lib.hid (above HB.out hb2)
  have hA2 := blk_keep hb2 HA.out
  have HA2 := Lib.hid hA2
  obtain ⟨a0, a1, a2, a3, a4, a5, a6⟩ := cells7 hA2
  clear hA2 hb2
  go_wp2_with fail
  clear a0 a1 a2 a3 a4 a5 a6
  obtain ⟨a0, a1, a2, a3, a4, a5, a6⟩ := up7 HA2.out
  refine wp_region_up (by kernel_rfl) (by kernel_rfl) ?_
  repeat (go_big_quiet_step ((go_at_call 27; with_reducible exact calls_up (KE.out _ (held (above HB2.out (InClass.h _)) HM.out)))))
  refine wpQuiet_nil ?_
  rintro _ ⟨s1, rfl⟩
  clear a0 a1 a2 a3 a4 a5 a6
  go_wp2_with fail
  go_ret
  exact ⟨rfl, above HB2.out s1.h⟩

set_option maxRecDepth 8000 in
set_option maxHeartbeats 2000000 in
theorem key_text8 (z : Int) (t : ByteArray) (l1 l2 l3 l4 c1 c2 c3 c4 : Nat) (d1 d2 d3 d4 : Option Addr) (w : World) (KF : Hid (KFits 8 z t l1 l2 l3 l4 c1 c2 c3 c4 d1 d2 d3 d4 true))
    (E : ByteArray) (hE : E.size ≤ 8192) (m : Int) (hm : w.cell? ⟨0, 0, none⟩ = some (.int .i64 m))
    (KE : Hid (∀ w : World, w.cell? ⟨0, 0, none⟩ = some (.int .i64 m) → Calls Tryd.prog 27 #[.string t, .string ⟨#[0]⟩, .string ⟨#[0, 255]⟩] w fun e w' => e = .returned (.string E) ∧ Below w.heap.size w w')) :
    Calls Tryd.prog 10 #[.agg #[.int .i64 8, .int .u64 z, .string t, .slice d1 l1 c1, .slice d2 l2 c2, .slice d3 l3 c3, .slice d4 l4 c4]] w
      fun e w' => e = .returned (.string (⟨#[8]⟩ ++ E ++ ⟨#[0, 0]⟩)) ∧ Below w.heap.size w w' := by
  have HM := Lib.hid hm
  clear hm
  have u7 : Utf8.encode 8 = ⟨#[8]⟩ := by decide
  go_enter Tryd.func10, Tryd.ntmps10
  go_wp2_with fail
  refine calls_box1 ?_
  intro W hA hb
  have HB := Lib.hid hb
  have HA := Lib.hid hA
  clear hA hb
  refine calls_on (KF.out _) ?_
  intro w2 hb2
  have HB2 := Lib.hid (above HB.out hb2)
  have hA2 := blk_keep hb2 HA.out
  have HA2 := Lib.hid hA2
  obtain ⟨a0, a1, a2, a3, a4, a5, a6⟩ := cells7 hA2
  clear hA2 hb2
  go_wp2_with fail
  clear a0 a1 a2 a3 a4 a5 a6
  obtain ⟨a0, a1, a2, a3, a4, a5, a6⟩ := up7 HA2.out
  refine wp_region_up (by kernel_rfl) (by kernel_rfl) ?_
  repeat (go_big_quiet_step ((go_at_call 27; with_reducible exact calls_up (KE.out _ (held (above HB2.out (InClass.h _)) HM.out)))))
  refine wpQuiet_nil ?_
  rintro _ ⟨s1, rfl⟩
  clear a0 a1 a2 a3 a4 a5 a6
  go_wp2_with fail
  go_ret
  exact ⟨rfl, above HB2.out s1.h⟩


set_option maxRecDepth 8000 in
set_option maxHeartbeats 2000000 in
theorem key_num (k z : Int) (t : ByteArray) (l1 l2 l3 l4 c1 c2 c3 c4 : Nat) (d1 d2 d3 d4 : Option Addr) (w : World) (KF : Hid (KFits k z t l1 l2 l3 l4 c1 c2 c3 c4 d1 d2 d3 d4 true)) (h7 : (k == 7) = false) (h8 : (k == 8) = false)
    (u : Int) (S : ByteArray) (hS : S.size = 8) (K0 : ByteArray) (he : Utf8.encode k = K0) (hK0 : K0.size ≤ 10) (hk0 : 1 ≤ k) (hk9 : k ≤ 9)
    (KT : Hid (∀ w : World, Calls Tryd.prog 29 #[.agg #[.int .i64 k, .int .u64 z, .string t, .slice d1 l1 c1, .slice d2 l2 c2, .slice d3 l3 c3, .slice d4 l4 c4]] w fun e w' => e = .returned (.int .u64 u) ∧ Below w.heap.size w w'))
    (KX : Hid (∀ w : World, Calls Tryd.prog 28 #[.int .u64 u] w fun e w' => e = .returned (.string S) ∧ Below w.heap.size w w')) :
    Calls Tryd.prog 10 #[.agg #[.int .i64 k, .int .u64 z, .string t, .slice d1 l1 c1, .slice d2 l2 c2, .slice d3 l3 c3, .slice d4 l4 c4]] w
      fun e w' => e = .returned (.string (K0 ++ revB S)) ∧ Below w.heap.size w w' := by
  go_enter Tryd.func10, Tryd.ntmps10
  go_wp2_with fail
  refine calls_box1 ?_
  intro W hA hb
  have HB := Lib.hid hb
  have HA := Lib.hid hA
  clear hA hb
  refine calls_on (KF.out _) ?_
  intro w2 hb2
  have HB2 := Lib.hid (above HB.out hb2)
  have hA2 := blk_keep hb2 HA.out
  have HA2 := Lib.hid hA2
  obtain ⟨a0, a1, a2, a3, a4, a5, a6⟩ := cells7 hA2
  clear hA2 hb2
  go_wp2_with fail
  clear a0 a1 a2 a3 a4 a5 a6
  refine calls_on (KT.out _) ?_
  intro w3 hb3
  have HB3 := Lib.hid (above HB2.out hb3)
  have HA3 := Lib.hid (blk_keep hb3 HA2.out)
  clear hb3
  go_wp2_with fail
  refine calls_on (KX.out _) ?_
  intro w4 hb4
  have HB4 := Lib.hid (above HB3.out hb4)
  have HA4 := Lib.hid (blk_keep hb4 HA3.out)
  clear hb4
  obtain ⟨cap, w5, hrun, hcap, hcell, hfr, hb5, hsz⟩ := conv_s w4 S
  rw [hS] at hrun hcap hcell hfr
  have HB5 := Lib.hid (above HB4.out hb5)
  have HA5 := Lib.hid (blk_keep hb5 HA4.out)
  have HC := Lib.hid hcell
  have HF := Lib.hid hfr
  have H4 := Lib.hid (blk_lt HA4.out)
  clear hcell hfr hb5 hsz
  go_wp2_with fail
  clear hrun
  refine (rev8_ok _ _ _ _ _ _ _ _ w4.heap.size cap w5 hcap (HC.out 0 (by decide)) (HC.out 1 (by decide)) (HC.out 2 (by decide)) (HC.out 3 (by decide)) (HC.out 4 (by decide)) (HC.out 5 (by decide)) (HC.out 6 (by decide)) (HC.out 7 (by decide))
    (HF.out 0 (by decide)) (HF.out 1 (by decide)) (HF.out 2 (by decide)) (HF.out 3 (by decide)) (HF.out 4 (by decide)) (HF.out 5 (by decide)) (HF.out 6 (by decide)) (HF.out 7 (by decide))).mono ?_
  rintro e w6 ⟨rfl, hc6, hb6⟩
  have HB6 : Hid (Below w.heap.size w w6) := Lib.hid ((HB5.out).trans (hb6.mono (by have := H4.out; omega)))
  have hA6 := (hb6.block _ H4.out).trans HA5.out
  obtain ⟨a0, a1, a2, a3, a4, a5, a6⟩ := cells7 hA6
  have hcv := run_convert_bytes_arg (P := Tryd.prog) w6 51 5 Tryd.underlying51 Tryd.underlying5 w4.heap.size 0 8 cap _ rfl hc6 9 Tryd.underlying9
  rw [revB8 S hS] at hcv
  have hR : (revB S).size = 8 := (revB_size S).trans hS
  clear hA6 hc6 hb6 hcap hS
  go_wp2_with fail
  go_ret
  exact ⟨rfl, HB6.out⟩

/-- A key. -/
def keyT (k z : Int) (t : ByteArray) (e : Bool) : ByteArray :=
  if fitsB k k z t e = true then
    (if k = 7 ∨ k = 8 then Utf8.encode k ++ ⟨(escT t.data.toList).toArray⟩ ++ ⟨#[0, 0]⟩ else Utf8.encode k ++ revB (strOfNums (leZ (rankK k (normZ k z)))))
  else ⟨#[]⟩

/-- **order.Key.** -/
theorem key_ok (k z : Int) (t : ByteArray) (l1 l2 l3 l4 c1 c2 c3 c4 : Nat) (d1 d2 d3 d4 : Option Addr) (hz : word z) (h1 : l1 ≤ 140737488351232) (h2 : l2 ≤ 140737488351232) (h3 : l3 ≤ 140737488351232) (h4 : l4 ≤ 140737488351232)
    (m : Int) (w : World) (hm : w.cell? ⟨0, 0, none⟩ = some (.int .i64 m)) :
    Calls Tryd.prog 10 #[.agg #[.int .i64 k, .int .u64 z, .string t, .slice d1 l1 c1, .slice d2 l2 c2, .slice d3 l3 c3, .slice d4 l4 c4]] w
      fun e w' => e = .returned (.string (keyT k z t (noneB l1 l2 l3 l4))) ∧ Below w.heap.size w w' := by
  have KF : KFits k z t l1 l2 l3 l4 c1 c2 c3 c4 d1 d2 d3 d4 (fitsB k k z t (noneB l1 l2 l3 l4)) := fun w => fits_ok k k z t l1 l2 l3 l4 c1 c2 c3 c4 d1 d2 d3 d4 w h1 h2 h3 h4
  unfold keyT
  cases hf : fitsB k k z t (noneB l1 l2 l3 l4)
  · rw [hf] at KF
    rw [if_neg (by simp)]
    exact key_no k z t l1 l2 l3 l4 c1 c2 c3 c4 d1 d2 d3 d4 w (Lib.hid KF)
  · rw [hf] at KF
    rw [if_pos rfl]
    have hs : t.size ≤ 4096 := by
      unfold fitsB at hf
      simp only [Bool.and_eq_true, decide_eq_true_eq] at hf
      exact hf.1.2
    have hr : 1 ≤ k ∧ k ≤ 9 := by
      unfold fitsB at hf
      simp only [Bool.and_eq_true, decide_eq_true_eq] at hf
      exact hf.1.1.1.1.1
    have hE : (⟨(escT t.data.toList).toArray⟩ : ByteArray).size ≤ 8192 := by
      show (escT t.data.toList).toArray.size ≤ 8192
      simp only [List.size_toArray, escT_length]
      have := List.count_le_length (a := (0 : UInt8)) (l := t.data.toList)
      have hl : t.data.toList.length = t.size := by simp
      omega
    by_cases h7 : k = 7
    · subst h7
      rw [if_pos (.inl rfl)]
      exact key_text7 z t l1 l2 l3 l4 c1 c2 c3 c4 d1 d2 d3 d4 w (Lib.hid KF) _ hE m hm (Lib.hid fun w hw => esc_ok t m hs w hw)
    · by_cases h8 : k = 8
      · subst h8
        rw [if_pos (.inr rfl)]
        exact key_text8 z t l1 l2 l3 l4 c1 c2 c3 c4 d1 d2 d3 d4 w (Lib.hid KF) _ hE m hm (Lib.hid fun w hw => esc_ok t m hs w hw)
      · rw [if_neg (by omega)]
        refine key_num k z t l1 l2 l3 l4 c1 c2 c3 c4 d1 d2 d3 d4 w (Lib.hid KF) (by simp [h7]) (by simp [h8]) (rankK k (normZ k z)) (strOfNums (leZ (rankK k (normZ k z)))) (by rw [strOfNums_size]; rfl) (Utf8.encode k) rfl ?_ hr.1 hr.2
          (Lib.hid fun w => turned_ok k z t l1 l2 l3 l4 c1 c2 c3 c4 d1 d2 d3 d4 hz w) (Lib.hid fun w => fixed_ok _ (rankK_word k _ (normZ_word k z hz)) w)
        have : k = 1 ∨ k = 2 ∨ k = 3 ∨ k = 4 ∨ k = 5 ∨ k = 6 ∨ k = 9 := by omega
        rcases this with rfl | rfl | rfl | rfl | rfl | rfl | rfl <;> decide
end Go.Proofs.YtlgpoapedgodoaaDoor

/- The reference's eight bytes of a number. -/
namespace Go.Proofs.YtlgpoapedgodoaaDoor
open Go.RowKit
set_option linter.unusedVariables false

@[go_sem] theorem conv1 (x0 : Int) (w : World) :
    (convert 51 9 (.slice (some ⟨w.heap.size, 0, none⟩) 1 1)).run Tryd.prog (w.alloc (.cells #[.int .u8 x0] 5)) = .ok (.string (strOfNums [x0])) (w.alloc (.cells #[.int .u8 x0] 5)) := by
  have h := (box1_facts w #[.int .u8 x0] 5).1
  refine run_convert_bytes_arg _ _ _ Tryd.underlying51 Tryd.underlying5 w.heap.size 0 1 1 [x0] rfl (fun i hi => ?_) _ Tryd.underlying9
  rw [Nat.zero_add]
  match i, hi with
  | 0, _ => exact blk_cell h 0 rfl

@[go_sem] theorem conv1' (x0 : Int) (w : World) (n : Nat) (h : n = w.heap.size) :
    (convert 51 9 (.slice (some ⟨n, 0, none⟩) 1 1)).run Tryd.prog (w.alloc (.cells #[.int .u8 x0] 5)) = .ok (.string (strOfNums [x0])) (w.alloc (.cells #[.int .u8 x0] 5)) := by
  subst h; exact conv1 x0 w

/-- The eight bytes of a number, the most significant one first, one behind the other. -/
def eightB (u : Int) : ByteArray := revB (strOfNums (leZ u))

theorem eight_eq (u : Int) : eightB u = (strOfNums [u / 256 / 256 / 256 / 256 / 256 / 256 / 256 % 256] ++ (strOfNums [u / 256 / 256 / 256 / 256 / 256 / 256 % 256] ++ (strOfNums [u / 256 / 256 / 256 / 256 / 256 % 256] ++ (strOfNums [u / 256 / 256 / 256 / 256 % 256] ++ (strOfNums [u / 256 / 256 / 256 % 256] ++ (strOfNums [u / 256 / 256 % 256] ++ (strOfNums [u / 256 % 256] ++ (strOfNums [u % 256] ++ ⟨#[]⟩)))))))) := by
  have d : leZ u = [u % 256, u / 256 % 256, u / 256 / 256 % 256, u / 256 / 256 / 256 % 256, u / 256 / 256 / 256 / 256 % 256, u / 256 / 256 / 256 / 256 / 256 % 256, u / 256 / 256 / 256 / 256 / 256 / 256 % 256, u / 256 / 256 / 256 / 256 / 256 / 256 / 256 % 256] := by
    unfold leZ
    rw [show u / 65536 = u / 256 / 256 by omega, show u / 16777216 = u / 256 / 256 / 256 by omega, show u / 4294967296 = u / 256 / 256 / 256 / 256 by omega, show u / 1099511627776 = u / 256 / 256 / 256 / 256 / 256 by omega,
      show u / 281474976710656 = u / 256 / 256 / 256 / 256 / 256 / 256 by omega, show u / 72057594037927936 = u / 256 / 256 / 256 / 256 / 256 / 256 / 256 by omega]
  unfold eightB
  rw [d]
  apply ByteArray.ext
  simp [strOfNums, revB, ByteArray.data_append]

set_option maxRecDepth 8000 in
set_option maxHeartbeats 4000000 in
theorem eight_ok (u : Int) (hu : word u) (w : World) :
    Calls Tryd.prog 32 #[.int .u64 u] w fun e w' => e = .returned (.string (eightB u)) ∧ Below w.heap.size w w' := by
  obtain ⟨hu0, hu1⟩ := hu
  obtain ⟨R, HR⟩ : ∃ R, Hid (R = eightB u) := ⟨_, Lib.hid rfl⟩
  rw [← HR.out]
  have hz : ∀ xs, (strOfNums xs).size = xs.length := strOfNums_size
  go_enter Tryd.func32, Tryd.ntmps32
  go_wp2_with fail
  refine wp_loop_rounds 9 ?_
  rw [rounds_succ]
  go_wp2_with fail
  rw [rounds_succ]
  go_wp2_with fail
  rw [rounds_succ]
  go_wp2_with fail
  rw [rounds_succ]
  go_wp2_with fail
  rw [rounds_succ]
  go_wp2_with fail
  rw [rounds_succ]
  go_wp2_with fail
  rw [rounds_succ]
  go_wp2_with fail
  rw [rounds_succ]
  go_wp2_with fail
  rw [rounds_succ]
  go_wp2_with fail
  go_ret
  refine ⟨?_, by go_grown⟩
  rw [HR.out, eight_eq]
  rfl
end Go.Proofs.YtlgpoapedgodoaaDoor

/- Bytes appended to a slice of the call's own. -/
namespace Go.Proofs.YtlgpoapedgodoaaDoor
open Go.RowKit

/-- A slice value that owns these bytes, in a block from base on. -/
def OwnB (base : Nat) (v : Value) (xs : List Int) (w : World) : Prop := w.ownsRow base 5 1 v xs.length (xs.map (Value.int .u8))

theorem OwnB.nil (base : Nat) (w : World) : OwnB base (.slice none 0 0) [] w := ⟨rfl, .inl ⟨rfl, rfl⟩⟩
theorem OwnB.lit (base : Nat) (w : World) (y : Int) (hb : base ≤ w.heap.size) : OwnB base (.slice (some ⟨w.heap.size, 0, none⟩) 1 1) [y] (w.alloc (.cells #[.int .u8 y] 5)) :=
  ⟨rfl, .inr ⟨w.heap.size, 1, #[.int .u8 y], rfl, hb, blk_new w _, Nat.le_refl _, by decide, rfl, rfl⟩⟩

theorem OwnB.keep {base : Nat} {v : Value} {xs : List Int} {w w' : World} (h : OwnB base v xs w) (hb : Below w.heap.size w w') : OwnB base v xs w' := owns_keep h hb
theorem OwnB.block {base : Nat} {v : Value} {xs : List Int} {w : World} (h : OwnB base v xs w) : ∀ k, v.ownBlock = some k → base ≤ k := by
  intro k hk
  rcases h.2 with ⟨rfl, _⟩ | ⟨g, cap, cur, rfl, hg, _⟩
  · cases hk
  · simp [Value.ownBlock] at hk; omega

theorem infoByte : (Tryd.prog.info? 5).map (fun i => (i.zero, i.size, i.bytes)) = some (some (.int .u8 0), 1, 1) := by kernel_rfl

theorem appB {ops : Array Oper} {rest : List Oper} {o : Oper} {a : Act} {Q : Exit → Act → World → Prop} {w : World} (ys : List Int) (hgd : o.guard = none) (s x : Operand)
    (ho : o.op = .call { callee := .builtin .append, args := #[s, x], argTypes := #[51, 51] }) (base : Nat) (v : Value) (xs : List Int) (hs : a.eval s = v) (hown : OwnB base v xs w) (n : Nat) (hn : n = w.heap.size)
    (hx : a.eval x = .slice (some ⟨n, 0, none⟩) ys.length ys.length) (hlen : xs.length + ys.length ≤ 140737488355328) (hb : base ≤ w.heap.size)
    (h : ∀ v' w', OwnB base v' (xs ++ ys) w' → Below base w w' → w.heap.size < w'.heap.size → wpList Tryd.prog ops Q rest (a.put o.dst v') w') :
    wpList Tryd.prog ops Q (o :: rest) a (w.alloc (.cells (ys.map (Value.int .u8)).toArray 5)) := by
  subst hn
  obtain ⟨i0, hi, hz0, hz1, hz2⟩ := info_parts infoByte
  refine wpList_append_own _ hgd s x 51 ho base 5 i0 (.int .u8 0) 1 1 Tryd.underlying51 hi hz0 hz1 hz2 rfl (by decide) v xs.length (xs.map (Value.int .u8)) hs
    (hown.keep ((Below.refl _ _).alloc (Nat.le_refl _) _)) ⟨w.heap.size, 0, none⟩ ys.length ys.length (ys.map (Value.int .u8)) hx (by simp) (fun j u hj => ?_) (fun u hu => ?_) (by unfold maxLen; omega) (by omega) (by simp; omega) ?_
  · have e : (⟨w.heap.size, 0, none⟩ : Addr).add j = ⟨w.heap.size, j, none⟩ := by unfold Addr.add; split <;> simp_all
    rw [e]
    exact blk_cell (blk_new w _) j (by rw [← Array.getElem?_toList]; simpa using hj)
  · obtain ⟨y, _, rfl⟩ := List.mem_map.1 hu
    rfl
  · intro v' w' hown' hgrow _
    refine h v' w' ?_ ?_ ?_
    · unfold OwnB
      rw [List.length_append, List.map_append]
      exact hown'
    · exact (((Below.refl base w).alloc hb _)).grown hgrow (by simp; omega) hown.block
    · have := hgrow.size
      simp at this
      omega

theorem appB1 {ops : Array Oper} {rest : List Oper} {o : Oper} {a : Act} {Q : Exit → Act → World → Prop} {w : World} (y : Int) (hgd : o.guard = none) (s x : Operand)
    (ho : o.op = .call { callee := .builtin .append, args := #[s, x], argTypes := #[51, 51] }) (base : Nat) (v : Value) (xs : List Int) (hs : a.eval s = v) (hown : OwnB base v xs w) (n : Nat) (hn : n = w.heap.size)
    (hx : a.eval x = .slice (some ⟨n, 0, none⟩) 1 1) (hlen : xs.length + 1 ≤ 140737488355328) (hb : base ≤ w.heap.size)
    (h : ∀ v' w', OwnB base v' (xs ++ [y]) w' → Below base w w' → w.heap.size < w'.heap.size → wpList Tryd.prog ops Q rest (a.put o.dst v') w') :
    wpList Tryd.prog ops Q (o :: rest) a (w.alloc (.cells #[.int .u8 y] 5)) :=
  appB [y] hgd s x ho base v xs hs hown n hn hx hlen hb h
theorem appB2 {ops : Array Oper} {rest : List Oper} {o : Oper} {a : Act} {Q : Exit → Act → World → Prop} {w : World} (y z : Int) (hgd : o.guard = none) (s x : Operand)
    (ho : o.op = .call { callee := .builtin .append, args := #[s, x], argTypes := #[51, 51] }) (base : Nat) (v : Value) (xs : List Int) (hs : a.eval s = v) (hown : OwnB base v xs w) (n : Nat) (hn : n = w.heap.size)
    (hx : a.eval x = .slice (some ⟨n, 0, none⟩) 2 2) (hlen : xs.length + 2 ≤ 140737488355328) (hb : base ≤ w.heap.size)
    (h : ∀ v' w', OwnB base v' (xs ++ [y, z]) w' → Below base w w' → w.heap.size < w'.heap.size → wpList Tryd.prog ops Q rest (a.put o.dst v') w') :
    wpList Tryd.prog ops Q (o :: rest) a (w.alloc (.cells #[.int .u8 y, .int .u8 z] 5)) :=
  appB [y, z] hgd s x ho base v xs hs hown n hn hx hlen hb h

/-- string(b) of such a slice. -/
theorem OwnB.str {base : Nat} {v : Value} {xs : List Int} {w : World} (h : OwnB base v xs w) : (convert 51 9 v).run Tryd.prog w = .ok (.string (strOfNums xs)) w := by
  obtain ⟨hl, h⟩ := h
  rcases h with ⟨rfl, hn⟩ | ⟨g, cap, cur, rfl, _, hh, hc, _, hs, ht⟩
  · have : xs = [] := List.length_eq_zero_iff.1 hn
    subst this
    exact run_convert_bytes_nil w _ _ Tryd.underlying51 Tryd.underlying5 0 0 _ Tryd.underlying9
  · refine run_convert_bytes_arg w _ _ Tryd.underlying51 Tryd.underlying5 g 0 xs.length cap xs rfl (fun i hi => ?_) _ Tryd.underlying9
    rw [Nat.zero_add]
    refine blk_cell hh i ?_
    have h1 : (xs.map (Value.int .u8))[i]? = some (.int .u8 (xs.getD i 0)) := by
      rw [List.getElem?_map, List.getElem?_eq_getElem hi]
      simp [List.getD, hi]
    rw [← ht, List.getElem?_take] at h1
    rw [← Array.getElem?_toList]
    split at h1
    · exact h1
    · cases h1
end Go.Proofs.YtlgpoapedgodoaaDoor
