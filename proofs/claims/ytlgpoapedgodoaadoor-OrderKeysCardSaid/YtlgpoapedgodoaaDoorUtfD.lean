/- The reference's Bad and Valid. -/
import Derived.Test.YtlgpoapedgodoaaDoorUtfC
namespace Go.Proofs.YtlgpoapedgodoaaDoor
open Go.RowKit

set_option maxHeartbeats 1000000 in
theorem rbad_ok (s : ByteArray) (hs : s.size ≤ 9223372036854770000) (w : World) :
    Calls Tryd.prog 83 #[.string s] w fun e w' => e = .returned (.int .i64 (badZ s)) ∧ w' = w := by
  obtain ⟨R, HR⟩ : ∃ R, Hid (R = badZ s) := ⟨_, Lib.hid rfl⟩
  rw [← HR.out]
  go_enter Tryd.func83, Tryd.ntmps83
  go_wp2_with fail
  go_loop [3, 4] (fun t _ => ∃ p : Nat, p ≤ s.size ∧ t = .int .i64 p ∧ Hid (R = badAt s p)) (fun t _ => s.size - (intOf t).toNat)
  case atStart => exact ⟨0, Nat.zero_le _, rfl, HR⟩
  case round =>
    obtain ⟨p, hp, rfl, HP⟩ := hrel
    by_cases hlt : p < s.size
    · obtain ⟨D, HD⟩ : ∃ D, Hid (D = sizeAt s p) := ⟨_, Lib.hid rfl⟩
      have hle := sizeAt_le s p hlt
      rw [← HD.out] at hle
      have KS : Hid (∀ w : World, Calls Tryd.prog 96 #[.string s, .int .i64 p] w fun e w' => e = .returned (.int .i64 D) ∧ w' = w) := by
        intro w
        rw [HD.out]
        exact size_ok s p hlt (by omega) w
      by_cases h0 : D = 0
      · subst h0
        have HN : Hid (R = p) := Lib.hid (by rw [HP.out, badAt_bad s p hlt HD.out.symm])
        go_wp2_with fail
        refine calls_same (KS.out _) ?_
        go_wp2_with fail
        go_ret
        exact ⟨ret_int HN.out.symm, rfl⟩
      · have HN : Hid (R = badAt s (p + D)) := Lib.hid (by rw [HP.out, badAt_on s p hlt (by rw [← HD.out]; exact h0), ← HD.out])
        have hz : ((D : Int) == 0) = false := by rw [beq_eq_false_iff_ne]; omega
        have hpos : 0 < D := by omega
        clear h0
        go_wp2_with fail
        refine calls_same (KS.out _) ?_
        go_wp2_with fail
        go_round
        case rel => exact ⟨p + D, by omega, by go_num, HN⟩
        case measure => simp [intOf]; omega
    · have HN : Hid (R = -1) := Lib.hid (by rw [HP.out, badAt_end s p (by omega)])
      go_wp2_with fail
      go_ret
      exact ⟨ret_int HN.out.symm, rfl⟩

set_option maxHeartbeats 1000000 in
theorem rvalid_ok (s : ByteArray) (hs : s.size ≤ 9223372036854770000) (w : World) :
    Calls Tryd.prog 63 #[.string s] w fun e w' => e = .returned (.bool (validB s)) ∧ w' = w := by
  obtain ⟨R, HR⟩ : ∃ R, Hid (R = validB s) := ⟨_, Lib.hid rfl⟩
  rw [← HR.out]
  go_enter Tryd.func63, Tryd.ntmps63
  go_wp2_with fail
  refine calls_same (rbad_ok s hs _) ?_
  go_wp2_with fail
  go_ret
  exact ⟨by rw [HR.out]; rfl, rfl⟩
end Go.Proofs.YtlgpoapedgodoaaDoor
