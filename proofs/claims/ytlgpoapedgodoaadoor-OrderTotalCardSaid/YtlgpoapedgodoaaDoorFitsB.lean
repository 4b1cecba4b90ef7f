/- scalar.within, scalar.Fits. -/
import Derived.Test.YtlgpoapedgodoaaDoorFitsA
namespace Go.Proofs.YtlgpoapedgodoaaDoor
open Go.RowKit

set_option maxRecDepth 4000 in
set_option maxHeartbeats 1000000 in
theorem within_ok (k z : Int) (w : World) :
    Calls Tryd.prog 47 #[.int .i64 k, .int .u64 z] w fun e w' => e = .returned (.bool (withinB k z)) ∧ w' = w := by
  obtain ⟨R, HR⟩ : ∃ R, Hid (R = withinB k z) := ⟨_, Lib.hid rfl⟩
  rw [← HR.out]
  by_cases k1 : k = 1
  · subst k1
    go_enter Tryd.func47, Tryd.ntmps47
    go_wp2_with fail
    go_ret
    exact ⟨ret_bool (by rw [HR.out]; simp [withinB]), rfl⟩
  by_cases k2 : k = 2
  · subst k2
    by_cases g : -2147483648 ≤ wrap64 z
    · have g' : decide (-2147483648 ≤ wrap64 z) = true := decide_eq_true g
      have HG := Lib.hid g
      clear g
      go_enter Tryd.func47, Tryd.ntmps47
      go_wp2_with fail
      go_ret
      exact ⟨ret_bool (by rw [HR.out]; simp [withinB, HG.out]), rfl⟩
    · have g' : decide (-2147483648 ≤ wrap64 z) = false := decide_eq_false g
      have HG := Lib.hid g
      clear g
      go_enter Tryd.func47, Tryd.ntmps47
      go_wp2_with fail
      go_ret
      exact ⟨ret_bool (by rw [HR.out]; simp [withinB]; intro h; have hg := HG.out; omega), rfl⟩
  by_cases k9 : k = 9
  · subst k9
    go_enter Tryd.func47, Tryd.ntmps47
    go_wp2_with fail
    go_ret
    exact ⟨ret_bool (by rw [HR.out]; simp [withinB]), rfl⟩
  by_cases k4 : k = 4
  · subst k4
    go_enter Tryd.func47, Tryd.ntmps47
    go_wp2_with fail
    go_ret
    exact ⟨ret_bool (by rw [HR.out]; simp [withinB]), rfl⟩
  · have HN : Hid (R = true) := Lib.hid (by rw [HR.out]; simp [withinB, k1, k2, k4, k9])
    have b1 : (k == 1) = false := by simp [k1]
    have b2 : (k == 2) = false := by simp [k2]
    have b4 : (k == 4) = false := by simp [k4]
    have b9 : (k == 9) = false := by simp [k9]
    clear k1 k2 k4 k9
    go_enter Tryd.func47, Tryd.ntmps47
    go_wp2_with fail
    go_ret
    exact ⟨ret_bool HN.out.symm, rfl⟩

/-- Whether a value is one of a kind of scalars. -/
def fitsB (kind k z : Int) (t : ByteArray) (e : Bool) : Bool :=
  decide (1 ≤ kind ∧ kind ≤ 9) && decide (k = kind) && leanB k z t e && withinB kind z && decide (t.size ≤ 4096) && (decide (kind ≠ 7) || validB t)

/-- What Fits asks, guard by guard. -/
def FitsAt (kind k z : Int) (t : ByteArray) (l1 l2 l3 l4 c1 c2 c3 c4 : Nat) (d1 d2 d3 d4 : Option Addr) (R : Bool) (w : World) : Prop :=
  Calls Tryd.prog 14 #[.int .i64 kind, .agg #[.int .i64 k, .int .u64 z, .string t, .slice d1 l1 c1, .slice d2 l2 c2, .slice d3 l3 c3, .slice d4 l4 c4]] w
    fun e w' => e = .returned (.bool R) ∧ Below w.heap.size w w'

set_option maxRecDepth 8000 in
set_option maxHeartbeats 2000000 in
theorem fits_not (kind k z : Int) (t : ByteArray) (l1 l2 l3 l4 c1 c2 c3 c4 : Nat) (d1 d2 d3 d4 : Option Addr) (w : World) (KI : Hid (∀ w : World, Calls Tryd.prog 45 #[.int .i64 kind] w fun e w' => e = .returned (.bool false) ∧ w' = w)) : FitsAt kind k z t l1 l2 l3 l4 c1 c2 c3 c4 d1 d2 d3 d4 false w := by
  unfold FitsAt
  go_enter Tryd.func14, Tryd.ntmps14
  go_wp2_with fail
  refine calls_box1 ?_
  intro W hA hb
  have HB := Lib.hid hb
  have HA := Lib.hid hA
  clear hA hb
  refine calls_same (KI.out _) ?_
  go_wp2_with fail
  go_ret
  exact ⟨rfl, HB.out⟩

set_option maxRecDepth 8000 in
set_option maxHeartbeats 2000000 in
theorem fits_ne (kind k z : Int) (t : ByteArray) (l1 l2 l3 l4 c1 c2 c3 c4 : Nat) (d1 d2 d3 d4 : Option Addr) (w : World) (KI : Hid (∀ w : World, Calls Tryd.prog 45 #[.int .i64 kind] w fun e w' => e = .returned (.bool true) ∧ w' = w)) (hk : (k != kind) = true) : FitsAt kind k z t l1 l2 l3 l4 c1 c2 c3 c4 d1 d2 d3 d4 false w := by
  unfold FitsAt
  go_enter Tryd.func14, Tryd.ntmps14
  go_wp2_with fail
  refine calls_box1 ?_
  intro W hA hb
  have HB := Lib.hid hb
  have HA := Lib.hid hA
  clear hA hb
  refine calls_same (KI.out _) ?_
  obtain ⟨a0, a1, a2, a3, a4, a5, a6⟩ := cells7 HA.out
  go_wp2_with fail
  clear a0 a1 a2 a3 a4 a5 a6
  go_ret
  exact ⟨rfl, HB.out⟩

set_option maxRecDepth 8000 in
set_option maxHeartbeats 2000000 in
theorem fits_lean (kind k z : Int) (t : ByteArray) (l1 l2 l3 l4 c1 c2 c3 c4 : Nat) (d1 d2 d3 d4 : Option Addr) (w : World) (KI : Hid (∀ w : World, Calls Tryd.prog 45 #[.int .i64 kind] w fun e w' => e = .returned (.bool true) ∧ w' = w)) (hk : (k != kind) = false) (KL : Hid (∀ w : World, Calls Tryd.prog 46 #[.agg #[.int .i64 k, .int .u64 z, .string t, .slice d1 l1 c1, .slice d2 l2 c2, .slice d3 l3 c3, .slice d4 l4 c4]] w fun e w' => e = .returned (.bool false) ∧ Below w.heap.size w w')) : FitsAt kind k z t l1 l2 l3 l4 c1 c2 c3 c4 d1 d2 d3 d4 false w := by
  unfold FitsAt
  go_enter Tryd.func14, Tryd.ntmps14
  go_wp2_with fail
  refine calls_box1 ?_
  intro W hA hb
  have HB := Lib.hid hb
  have HA := Lib.hid hA
  clear hA hb
  refine calls_same (KI.out _) ?_
  obtain ⟨a0, a1, a2, a3, a4, a5, a6⟩ := cells7 HA.out
  go_wp2_with fail
  clear a0 a1 a2 a3 a4 a5 a6
  refine calls_on (KL.out _) ?_
  intro w2 hb2
  have HB2 := Lib.hid (above HB.out hb2)
  have hA2 := blk_keep hb2 HA.out
  obtain ⟨a0, a1, a2, a3, a4, a5, a6⟩ := cells7 hA2
  clear hA2 hb2
  go_wp2_with fail
  clear a0 a1 a2 a3 a4 a5 a6
  go_ret
  exact ⟨rfl, HB2.out⟩

set_option maxRecDepth 8000 in
set_option maxHeartbeats 2000000 in
theorem fits_within (kind k z : Int) (t : ByteArray) (l1 l2 l3 l4 c1 c2 c3 c4 : Nat) (d1 d2 d3 d4 : Option Addr) (w : World) (KI : Hid (∀ w : World, Calls Tryd.prog 45 #[.int .i64 kind] w fun e w' => e = .returned (.bool true) ∧ w' = w)) (hk : (k != kind) = false) (KL : Hid (∀ w : World, Calls Tryd.prog 46 #[.agg #[.int .i64 k, .int .u64 z, .string t, .slice d1 l1 c1, .slice d2 l2 c2, .slice d3 l3 c3, .slice d4 l4 c4]] w fun e w' => e = .returned (.bool true) ∧ Below w.heap.size w w')) (KW : Hid (∀ w : World, Calls Tryd.prog 47 #[.int .i64 kind, .int .u64 z] w fun e w' => e = .returned (.bool false) ∧ w' = w)) : FitsAt kind k z t l1 l2 l3 l4 c1 c2 c3 c4 d1 d2 d3 d4 false w := by
  unfold FitsAt
  go_enter Tryd.func14, Tryd.ntmps14
  go_wp2_with fail
  refine calls_box1 ?_
  intro W hA hb
  have HB := Lib.hid hb
  have HA := Lib.hid hA
  clear hA hb
  refine calls_same (KI.out _) ?_
  obtain ⟨a0, a1, a2, a3, a4, a5, a6⟩ := cells7 HA.out
  go_wp2_with fail
  clear a0 a1 a2 a3 a4 a5 a6
  refine calls_on (KL.out _) ?_
  intro w2 hb2
  have HB2 := Lib.hid (above HB.out hb2)
  have hA2 := blk_keep hb2 HA.out
  obtain ⟨a0, a1, a2, a3, a4, a5, a6⟩ := cells7 hA2
  clear hA2 hb2
  go_wp2_with fail
  refine calls_same (KW.out _) ?_
  go_wp2_with fail
  clear a0 a1 a2 a3 a4 a5 a6
  go_ret
  exact ⟨rfl, HB2.out⟩

set_option maxRecDepth 8000 in
set_option maxHeartbeats 2000000 in
theorem fits_long (kind k z : Int) (t : ByteArray) (l1 l2 l3 l4 c1 c2 c3 c4 : Nat) (d1 d2 d3 d4 : Option Addr) (w : World) (KI : Hid (∀ w : World, Calls Tryd.prog 45 #[.int .i64 kind] w fun e w' => e = .returned (.bool true) ∧ w' = w)) (hk : (k != kind) = false) (KL : Hid (∀ w : World, Calls Tryd.prog 46 #[.agg #[.int .i64 k, .int .u64 z, .string t, .slice d1 l1 c1, .slice d2 l2 c2, .slice d3 l3 c3, .slice d4 l4 c4]] w fun e w' => e = .returned (.bool true) ∧ Below w.heap.size w w')) (KW : Hid (∀ w : World, Calls Tryd.prog 47 #[.int .i64 kind, .int .u64 z] w fun e w' => e = .returned (.bool true) ∧ w' = w)) (hs : decide ((4096 : Int) < (t.size : Int)) = true)  : FitsAt kind k z t l1 l2 l3 l4 c1 c2 c3 c4 d1 d2 d3 d4 false w := by
  unfold FitsAt
  go_enter Tryd.func14, Tryd.ntmps14
  go_wp2_with fail
  refine calls_box1 ?_
  intro W hA hb
  have HB := Lib.hid hb
  have HA := Lib.hid hA
  clear hA hb
  refine calls_same (KI.out _) ?_
  obtain ⟨a0, a1, a2, a3, a4, a5, a6⟩ := cells7 HA.out
  go_wp2_with fail
  clear a0 a1 a2 a3 a4 a5 a6
  refine calls_on (KL.out _) ?_
  intro w2 hb2
  have HB2 := Lib.hid (above HB.out hb2)
  have hA2 := blk_keep hb2 HA.out
  obtain ⟨a0, a1, a2, a3, a4, a5, a6⟩ := cells7 hA2
  clear hA2 hb2
  go_wp2_with fail
  refine calls_same (KW.out _) ?_
  go_wp2_with fail
  clear a0 a1 a2 a3 a4 a5 a6
  go_ret
  exact ⟨rfl, HB2.out⟩

set_option maxRecDepth 8000 in
set_option maxHeartbeats 2000000 in
theorem fits_yes (kind k z : Int) (t : ByteArray) (l1 l2 l3 l4 c1 c2 c3 c4 : Nat) (d1 d2 d3 d4 : Option Addr) (w : World) (KI : Hid (∀ w : World, Calls Tryd.prog 45 #[.int .i64 kind] w fun e w' => e = .returned (.bool true) ∧ w' = w)) (hk : (k != kind) = false) (KL : Hid (∀ w : World, Calls Tryd.prog 46 #[.agg #[.int .i64 k, .int .u64 z, .string t, .slice d1 l1 c1, .slice d2 l2 c2, .slice d3 l3 c3, .slice d4 l4 c4]] w fun e w' => e = .returned (.bool true) ∧ Below w.heap.size w w')) (KW : Hid (∀ w : World, Calls Tryd.prog 47 #[.int .i64 kind, .int .u64 z] w fun e w' => e = .returned (.bool true) ∧ w' = w)) (hs : decide ((4096 : Int) < (t.size : Int)) = false)  (h7 : (kind != 7) = true) : FitsAt kind k z t l1 l2 l3 l4 c1 c2 c3 c4 d1 d2 d3 d4 true w := by
  unfold FitsAt
  go_enter Tryd.func14, Tryd.ntmps14
  go_wp2_with fail
  refine calls_box1 ?_
  intro W hA hb
  have HB := Lib.hid hb
  have HA := Lib.hid hA
  clear hA hb
  refine calls_same (KI.out _) ?_
  obtain ⟨a0, a1, a2, a3, a4, a5, a6⟩ := cells7 HA.out
  go_wp2_with fail
  clear a0 a1 a2 a3 a4 a5 a6
  refine calls_on (KL.out _) ?_
  intro w2 hb2
  have HB2 := Lib.hid (above HB.out hb2)
  have hA2 := blk_keep hb2 HA.out
  obtain ⟨a0, a1, a2, a3, a4, a5, a6⟩ := cells7 hA2
  clear hA2 hb2
  go_wp2_with fail
  refine calls_same (KW.out _) ?_
  go_wp2_with fail
  clear a0 a1 a2 a3 a4 a5 a6
  go_ret
  exact ⟨rfl, HB2.out⟩

set_option maxRecDepth 8000 in
set_option maxHeartbeats 2000000 in
theorem fits_text (kind k z : Int) (t : ByteArray) (l1 l2 l3 l4 c1 c2 c3 c4 : Nat) (d1 d2 d3 d4 : Option Addr) (w : World) (KI : Hid (∀ w : World, Calls Tryd.prog 45 #[.int .i64 kind] w fun e w' => e = .returned (.bool true) ∧ w' = w)) (hk : (k != kind) = false) (KL : Hid (∀ w : World, Calls Tryd.prog 46 #[.agg #[.int .i64 k, .int .u64 z, .string t, .slice d1 l1 c1, .slice d2 l2 c2, .slice d3 l3 c3, .slice d4 l4 c4]] w fun e w' => e = .returned (.bool true) ∧ Below w.heap.size w w')) (KW : Hid (∀ w : World, Calls Tryd.prog 47 #[.int .i64 kind, .int .u64 z] w fun e w' => e = .returned (.bool true) ∧ w' = w)) (hs : decide ((4096 : Int) < (t.size : Int)) = false)  (h7 : (kind != 7) = false) (R : Bool) (KV : Hid (∀ w : World, Calls Tryd.prog 48 #[.string t] w fun e w' => e = .returned (.bool R) ∧ Below w.heap.size w w')) : FitsAt kind k z t l1 l2 l3 l4 c1 c2 c3 c4 d1 d2 d3 d4 R w := by
  unfold FitsAt
  go_enter Tryd.func14, Tryd.ntmps14
  go_wp2_with fail
  refine calls_box1 ?_
  intro W hA hb
  have HB := Lib.hid hb
  have HA := Lib.hid hA
  clear hA hb
  refine calls_same (KI.out _) ?_
  obtain ⟨a0, a1, a2, a3, a4, a5, a6⟩ := cells7 HA.out
  go_wp2_with fail
  clear a0 a1 a2 a3 a4 a5 a6
  refine calls_on (KL.out _) ?_
  intro w2 hb2
  have HB2 := Lib.hid (above HB.out hb2)
  have hA2 := blk_keep hb2 HA.out
  obtain ⟨a0, a1, a2, a3, a4, a5, a6⟩ := cells7 hA2
  clear hA2 hb2
  go_wp2_with fail
  refine calls_same (KW.out _) ?_
  go_wp2_with fail
  clear a0 a1 a2 a3 a4 a5 a6
  refine calls_on (KV.out _) ?_
  intro w3 hb3
  have HB3 := Lib.hid (above HB2.out hb3)
  clear hb3
  go_wp2_with fail
  go_ret
  exact ⟨rfl, HB3.out⟩

theorem fits_ok (kind k z : Int) (t : ByteArray) (l1 l2 l3 l4 c1 c2 c3 c4 : Nat) (d1 d2 d3 d4 : Option Addr) (w : World) (h1 : l1 ≤ 140737488351232) (h2 : l2 ≤ 140737488351232) (h3 : l3 ≤ 140737488351232) (h4 : l4 ≤ 140737488351232) : FitsAt kind k z t l1 l2 l3 l4 c1 c2 c3 c4 d1 d2 d3 d4 (fitsB kind k z t (noneB l1 l2 l3 l4)) w := by
  have KI := fun w : World => is_ok kind w
  have KL := fun w : World => lean_ok k z t l1 l2 l3 l4 c1 c2 c3 c4 d1 d2 d3 d4 h1 h2 h3 h4 w
  have KW := fun w : World => within_ok kind z w
  have KV := fun w : World => valid_ok t w
  unfold fitsB
  cases eI : decide (1 ≤ kind ∧ kind ≤ 9)
  · rw [eI] at KI; simp only [Bool.false_and]
    exact fits_not kind k z t l1 l2 l3 l4 c1 c2 c3 c4 d1 d2 d3 d4 w (Lib.hid KI)
  rw [eI] at KI
  by_cases ek : k = kind
  · subst ek
    cases eL : leanB k z t (noneB l1 l2 l3 l4)
    · rw [eL] at KL; simp only [Bool.and_false, Bool.false_and]
      exact fits_lean k k z t l1 l2 l3 l4 c1 c2 c3 c4 d1 d2 d3 d4 w (Lib.hid KI) (by simp) (Lib.hid KL)
    rw [eL] at KL
    cases eW : withinB k z
    · rw [eW] at KW; simp only [Bool.and_false, Bool.false_and]
      exact fits_within k k z t l1 l2 l3 l4 c1 c2 c3 c4 d1 d2 d3 d4 w (Lib.hid KI) (by simp) (Lib.hid KL) (Lib.hid KW)
    rw [eW] at KW
    by_cases es : t.size ≤ 4096
    · by_cases e7 : k = 7
      · subst e7
        have := fits_text 7 7 z t l1 l2 l3 l4 c1 c2 c3 c4 d1 d2 d3 d4 w (Lib.hid KI) (by simp) (Lib.hid KL) (Lib.hid KW) (decide_eq_false (by omega)) (by simp) (validB t) (Lib.hid KV)
        simpa [es] using this
      · have := fits_yes k k z t l1 l2 l3 l4 c1 c2 c3 c4 d1 d2 d3 d4 w (Lib.hid KI) (by simp) (Lib.hid KL) (Lib.hid KW) (decide_eq_false (by omega)) (by simp [e7])
        simpa [es, e7] using this
    · have := fits_long k k z t l1 l2 l3 l4 c1 c2 c3 c4 d1 d2 d3 d4 w (Lib.hid KI) (by simp) (Lib.hid KL) (Lib.hid KW) (decide_eq_true (by omega))
      simpa [es] using this
  · have := fits_ne kind k z t l1 l2 l3 l4 c1 c2 c3 c4 d1 d2 d3 d4 w (Lib.hid KI) (by simp [ek])
    simpa [ek] using this
end Go.Proofs.YtlgpoapedgodoaaDoor
