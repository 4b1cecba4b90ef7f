/- scalar.lean, scalar.within; the reference's lone. -/
import Derived.Test.YtlgpoapedgodoaaDoorUtfD
import Derived.Test.YtlgpoapedgodoaaDoorCmpE
namespace Go.Proofs.YtlgpoapedgodoaaDoor
open Go.RowKit

/-- No parts. -/
def noneB (l1 l2 l3 l4 : Nat) : Bool := decide (l1 = 0 ∧ l2 = 0 ∧ l3 = 0 ∧ l4 = 0)
/-- Whether the bits fit a kind of numbers. -/
def withinB (k z : Int) : Bool :=
  if k = 1 then decide (z ≤ 1) else if k = 2 then decide (-2147483648 ≤ wrap64 z ∧ wrap64 z ≤ 2147483647)
  else if k = 9 then decide (z ≤ 2147483647) else if k = 4 then decide (z ≤ 4294967295) else true
/-- Only the field of its kind. -/
def leanB (k z : Int) (t : ByteArray) (e : Bool) : Bool := e && (if k = 7 ∨ k = 8 then decide (z = 0) else decide (t.size = 0))

theorem empty_toList (t : ByteArray) : t.toList.isEmpty = decide (t.size = 0) := by
  rw [Bool.eq_iff_iff, List.isEmpty_iff, decide_eq_true_iff]
  have : t.toList = t.data.toList := Lib.toList_data t
  rw [this]
  constructor
  · intro h
    have := congrArg List.length h
    simpa using this
  · intro h
    exact List.length_eq_zero_iff.1 (by simpa using h)

set_option maxRecDepth 4000 in
set_option maxHeartbeats 1000000 in
theorem lean_ok (k z : Int) (t : ByteArray) (l1 l2 l3 l4 c1 c2 c3 c4 : Nat) (d1 d2 d3 d4 : Option Addr) (h1 : l1 ≤ 140737488351232) (h2 : l2 ≤ 140737488351232) (h3 : l3 ≤ 140737488351232) (h4 : l4 ≤ 140737488351232) (w : World) :
    Calls Tryd.prog 46 #[.agg #[.int .i64 k, .int .u64 z, .string t, .slice d1 l1 c1, .slice d2 l2 c2, .slice d3 l3 c3, .slice d4 l4 c4]] w
      fun e w' => e = .returned (.bool (leanB k z t (noneB l1 l2 l3 l4))) ∧ Below w.heap.size w w' := by
  obtain ⟨R, HR⟩ : ∃ R, Hid (R = leanB k z t (noneB l1 l2 l3 l4)) := ⟨_, Lib.hid rfl⟩
  rw [← HR.out]
  by_cases hz : l1 + l2 + l3 + l4 = 0
  · have n1 : decide ((0 : Int) < (l1 : Int) + (l2 : Int) + (l3 : Int) + (l4 : Int)) = false := decide_eq_false (by omega)
    have n2 : decide (0 < l1 + l2 + l3 + l4) = false := decide_eq_false (by omega)
    have HE : Hid (noneB l1 l2 l3 l4 = true) := Lib.hid (decide_eq_true ⟨by omega, by omega, by omega, by omega⟩)
    have HZ := Lib.hid hz
    clear hz
    by_cases hk : k = 7 ∨ k = 8
    · have KT : Hid (∀ w : World, Calls Tryd.prog 73 #[.int .i64 k] w fun e w' => e = .returned (.bool true) ∧ w' = w) := by
        intro w; rw [show true = decide (k = 7 ∨ k = 8) from (decide_eq_true hk).symm]; exact texty_ok k w
      have HK := Lib.hid hk
      clear hk
      go_enter Tryd.func46, Tryd.ntmps46
      go_wp2_with fail
      refine calls_same (KT.out _) ?_
      go_wp2_with fail
      go_ret
      refine ⟨ret_bool ?_, by go_grown⟩
      rw [HR.out]; unfold leanB; rw [HE.out, if_pos HK.out]; simp; rfl
    · have KT : Hid (∀ w : World, Calls Tryd.prog 73 #[.int .i64 k] w fun e w' => e = .returned (.bool false) ∧ w' = w) := by
        intro w; rw [show false = decide (k = 7 ∨ k = 8) from (decide_eq_false hk).symm]; exact texty_ok k w
      have HK := Lib.hid hk
      clear hk
      obtain ⟨E, HE2⟩ : ∃ E, Hid (E = decide (t.size = 0)) := ⟨_, Lib.hid rfl⟩
      have hemp : t.toList.isEmpty = E := by rw [HE2.out]; exact empty_toList t
      go_enter Tryd.func46, Tryd.ntmps46
      go_wp2_with fail
      refine calls_same (KT.out _) ?_
      go_wp2_with fail
      go_ret
      refine ⟨ret_bool ?_, by go_grown⟩
      rw [HR.out]; unfold leanB; rw [HE.out, if_neg HK.out, ← HE2.out]; rfl
  · have n1 : decide ((0 : Int) < (l1 : Int) + (l2 : Int) + (l3 : Int) + (l4 : Int)) = true := decide_eq_true (by omega)
    have n2 : decide (0 < l1 + l2 + l3 + l4) = true := decide_eq_true (by omega)
    have HE : Hid (noneB l1 l2 l3 l4 = false) := Lib.hid (decide_eq_false (fun x => hz (by omega)))
    clear hz
    go_enter Tryd.func46, Tryd.ntmps46
    go_wp2_with fail
    go_ret
    refine ⟨ret_bool ?_, by go_grown⟩
    rw [HR.out]; unfold leanB; rw [HE.out]; rfl
end Go.Proofs.YtlgpoapedgodoaaDoor
