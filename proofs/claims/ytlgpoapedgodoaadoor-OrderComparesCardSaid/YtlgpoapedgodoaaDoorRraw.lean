/- The reference's number and raw; the contract of its Cmp at one number of levels. -/
import Derived.Test.YtlgpoapedgodoaaDoorRow
import Derived.Test.YtlgpoapedgodoaaDoorCmpI
namespace Go.Proofs.YtlgpoapedgodoaaDoor
open Go.RowKit

/-- The contract of the reference's Cmp at one number of levels. -/
def RCmp (n : Nat) : Prop := ∀ (v v' : Value) (x y : VT n) (w : World), IsV n w v x → IsV n w v' y →
  Calls Tryd.prog 15 #[v, v'] w fun e w' => e = .returned (.int .i64 (cmpV n x y)) ∧ Below w.heap.size w w'

set_option maxHeartbeats 800000 in
theorem number_ok (a b : Int) (w : World) :
    Calls Tryd.prog 49 #[.int .i64 a, .int .i64 b] w fun e w' => e = .returned (.int .i64 (cmpI a b)) ∧ w' = w := by
  obtain ⟨R, HR⟩ : ∃ R, Hid (R = cmpI a b) := ⟨_, Lib.hid rfl⟩
  rw [← HR.out]
  go_enter Tryd.func49, Tryd.ntmps49
  go_wp2
  all_goals first | (exfalso; omega) | skip
  all_goals
    go_ret
    refine ⟨?_, rfl⟩
    rw [HR.out]
    simp_all [cmpI]
    try omega

set_option maxRecDepth 4000 in
set_option maxHeartbeats 1000000 in
theorem raw_ok (x y : RawT) (w : World) :
    Calls Tryd.prog 78 #[.agg #[.int .i64 x.num, .int .i64 x.wire, .int .u64 x.bits, .string x.data], .agg #[.int .i64 y.num, .int .i64 y.wire, .int .u64 y.bits, .string y.data]] w
      fun e w' => e = .returned (.int .i64 (cmpR x y)) ∧ Below w.heap.size w w' := by
  obtain ⟨x1, x2, x3, x4⟩ := x
  obtain ⟨y1, y2, y3, y4⟩ := y
  obtain ⟨R, HR⟩ : ∃ R, Hid (R = cmpR ⟨x1, x2, x3, x4⟩ ⟨y1, y2, y3, y4⟩) := ⟨_, Lib.hid rfl⟩
  rw [← HR.out]
  obtain ⟨P, HP⟩ : ∃ P, Hid (P = Op.bytesLess x4.toList y4.toList) := ⟨_, Lib.hid rfl⟩
  by_cases h1 : x1 = y1
  · subst h1
    by_cases h2 : x2 = y2
    · subst h2
      have e : cmpR ⟨x1, x2, x3, x4⟩ ⟨x1, x2, y3, y4⟩ = orI (cmpI x3 y3) (cmpT x4 y4) := by
        have : ∀ a : Int, cmpI a a = 0 := by intro a; simp [cmpI]
        simp [cmpR, this, orI_zero]
      rw [e] at HR
      go_enter Tryd.func78, Tryd.ntmps78
      go_wp2_with fail
      all_goals first | (exfalso; omega) | skip
      all_goals
        go_ret
        refine ⟨?_, by go_grown⟩
        rw [HR.out]
        simp_all [cmpI, cmpT, orI]
        try omega
    · have hne : (x2 != y2) = true := by simp [h2]
      have e : cmpR ⟨x1, x2, x3, x4⟩ ⟨x1, y2, y3, y4⟩ = cmpI x2 y2 := by
        have : cmpI x1 x1 = 0 := by simp [cmpI]
        have h0 : cmpI x2 y2 ≠ 0 := by unfold cmpI; split <;> (try split) <;> omega
        simp only [cmpR, this, orI_zero]
        exact orI_ne h0
      rw [e] at HR
      clear h2
      go_enter Tryd.func78, Tryd.ntmps78
      go_wp2_with fail
      refine calls_same (number_ok _ _ _) ?_
      go_wp2_with fail
      go_ret
      exact ⟨by rw [HR.out]; rfl, by go_grown⟩
  · have hne : (x1 != y1) = true := by simp [h1]
    have e : cmpR ⟨x1, x2, x3, x4⟩ ⟨y1, y2, y3, y4⟩ = cmpI x1 y1 := by
      have h0 : cmpI x1 y1 ≠ 0 := by unfold cmpI; split <;> (try split) <;> omega
      exact orI_ne h0
    rw [e] at HR
    clear h1
    go_enter Tryd.func78, Tryd.ntmps78
    go_wp2_with fail
    refine calls_same (number_ok _ _ _) ?_
    go_wp2_with fail
    go_ret
    exact ⟨by rw [HR.out]; rfl, by go_grown⟩
end Go.Proofs.YtlgpoapedgodoaaDoor
