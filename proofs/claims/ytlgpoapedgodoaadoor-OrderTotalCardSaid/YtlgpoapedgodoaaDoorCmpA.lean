/- Contracts of cmp.Compare and what it calls. -/
import Derived.Test.YtlgpoapedgodoaaDoorRows
import Derived.WalkKit
import Derived.ProofKit
import Derived.OpenShut
import Derived.Handy
import Derived.Outline
import Derived.BigGuardPart
import Derived.Below
import Derived.Laws.Cover1
import Derived.Lib.Hide
namespace Go.Proofs.YtlgpoapedgodoaaDoor
open Go.RowKit

/-- How two numbers stand. -/
def cmpI (a b : Int) : Int := if a < b then -1 else if b < a then 1 else 0

/-- How two texts stand, by their bytes. -/
def cmpT (a b : ByteArray) : Int :=
  if Op.bytesLess a.toList b.toList = true then -1 else if (!(Op.bytesLess a.toList b.toList || a.toList == b.toList)) = true then 1 else 0

set_option maxHeartbeats 400000 in
theorem nanI_ok (a : Int) (w : World) :
    Calls Tryd.prog 72 #[.int .i64 a] w fun e w' => e = .returned (.bool false) ∧ w' = w := by
  go_enter Tryd.func72, Tryd.ntmps72
  go_wp2
  go_ret
  exact ⟨by simp, rfl⟩

set_option maxHeartbeats 400000 in
theorem nanU_ok (a : Int) (w : World) :
    Calls Tryd.prog 93 #[.int .u64 a] w fun e w' => e = .returned (.bool false) ∧ w' = w := by
  go_enter Tryd.func93, Tryd.ntmps93
  go_wp2
  go_ret
  exact ⟨by simp, rfl⟩

set_option maxHeartbeats 400000 in
theorem nanT_ok (a : ByteArray) (w : World) :
    Calls Tryd.prog 92 #[.string a] w fun e w' => e = .returned (.bool false) ∧ w' = w := by
  go_enter Tryd.func92, Tryd.ntmps92
  go_wp2
  go_ret
  exact ⟨by simp, rfl⟩

set_option maxHeartbeats 800000 in
theorem cmpI_ok (a b : Int) (w : World) :
    Calls Tryd.prog 34 #[.int .i64 a, .int .i64 b] w fun e w' => e = .returned (.int .i64 (cmpI a b)) ∧ w' = w := by
  obtain ⟨R, HR⟩ : ∃ R, Hid (R = cmpI a b) := ⟨_, Lib.hid rfl⟩
  rw [← HR.out]
  go_enter Tryd.func34, Tryd.ntmps34
  go_wp2
  all_goals first | (exfalso; omega) | skip
  all_goals
    go_ret
    refine ⟨?_, rfl⟩
    rw [HR.out]
    simp_all [cmpI]
    try omega

set_option maxHeartbeats 800000 in
theorem cmpU_ok (a b : Int) (w : World) :
    Calls Tryd.prog 75 #[.int .u64 a, .int .u64 b] w fun e w' => e = .returned (.int .i64 (cmpI a b)) ∧ w' = w := by
  obtain ⟨R, HR⟩ : ∃ R, Hid (R = cmpI a b) := ⟨_, Lib.hid rfl⟩
  rw [← HR.out]
  go_enter Tryd.func75, Tryd.ntmps75
  go_wp2
  all_goals first | (exfalso; omega) | skip
  all_goals
    go_ret
    refine ⟨?_, rfl⟩
    rw [HR.out]
    simp_all [cmpI]
    try omega

set_option maxHeartbeats 800000 in
theorem cmpT_ok (a b : ByteArray) (w : World) :
    Calls Tryd.prog 74 #[.string a, .string b] w fun e w' => e = .returned (.int .i64 (cmpT a b)) ∧ w' = w := by
  obtain ⟨R, HR⟩ : ∃ R, Hid (R = cmpT a b) := ⟨_, Lib.hid rfl⟩
  rw [← HR.out]
  go_enter Tryd.func74, Tryd.ntmps74
  go_wp2
  all_goals first | (exfalso; omega) | skip
  all_goals
    go_ret
    refine ⟨?_, rfl⟩
    rw [HR.out]
    simp_all [cmpT]
    try omega

end Go.Proofs.YtlgpoapedgodoaaDoor
