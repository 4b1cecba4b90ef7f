/- The reference's between and tail. -/
import Derived.Test.YtlgpoapedgodoaaDoorUtfA
namespace Go.Proofs.YtlgpoapedgodoaaDoor
open Go.RowKit

def btwB (s : ByteArray) (i lo hi : Nat) : Bool := decide (i < s.size ∧ lo ≤ (s.get! i).toNat ∧ (s.get! i).toNat ≤ hi)
def tailB (s : ByteArray) : Nat → Nat → Bool
  | _, 0 => true
  | i, n + 1 => btwB s i 128 191 && tailB s (i + 1) n

theorem get_fin (s : ByteArray) (i : Nat) (h : i < s.size) : (s.get! i).toNat = (s[i]'h).toNat := by
  have e := get_at s i h
  rw [Nat.add_zero] at e
  rw [e]

set_option maxHeartbeats 1000000 in
theorem between_ok (s : ByteArray) (i lo hi : Nat) (w : World) :
    Calls Tryd.prog 109 #[.string s, .int .i64 i, .int .u8 lo, .int .u8 hi] w fun e w' => e = .returned (.bool (btwB s i lo hi)) ∧ w' = w := by
  obtain ⟨R, HR⟩ : ∃ R, Hid (R = btwB s i lo hi) := ⟨_, Lib.hid rfl⟩
  rw [← HR.out]
  by_cases h : i < s.size
  · have G := Lib.hid (get_fin s i h)
    have i0 : (0 : Int) ≤ (i : Int) := by omega
    have i1 : (i : Int) < (s.size : Int) := by omega
    by_cases h1 : lo ≤ (s[i]'h).toNat
    · by_cases h2 : (s[i]'h).toNat ≤ hi
      · have HF : Hid (R = true) := Lib.hid (by rw [HR.out]; exact decide_eq_true ⟨h, by rw [G.out]; exact h1, by rw [G.out]; exact h2⟩)
        go_enter Tryd.func109, Tryd.ntmps109
        go_wp2_with fail
        go_ret
        exact ⟨by rw [HF.out]; simp, rfl⟩
      · have HF : Hid (R = false) := Lib.hid (by rw [HR.out]; exact decide_eq_false (fun x => h2 (by rw [← G.out]; exact x.2.2)))
        go_enter Tryd.func109, Tryd.ntmps109
        go_wp2_with fail
        go_ret
        exact ⟨by rw [HF.out]; simp, rfl⟩
    · have HF : Hid (R = false) := Lib.hid (by rw [HR.out]; exact decide_eq_false (fun x => h1 (by rw [← G.out]; exact x.2.1)))
      have hd : decide (lo ≤ (s[i]'h).toNat) = false := decide_eq_false h1
      go_enter Tryd.func109, Tryd.ntmps109
      go_wp2_with fail
      go_ret
      exact ⟨ret_bool HF.out.symm, rfl⟩
  · have HF : Hid (R = false) := Lib.hid (by rw [HR.out]; exact decide_eq_false (fun x => h x.1))
    have hd : decide (i < s.size) = false := decide_eq_false h
    go_enter Tryd.func109, Tryd.ntmps109
    go_wp2_with fail
    go_ret
    exact ⟨ret_bool HF.out.symm, rfl⟩

set_option maxHeartbeats 1000000 in
theorem tail_ok (s : ByteArray) (i n : Nat) (hn : n ≤ 3) (hi : i ≤ 9223372036854775000) (w : World) :
    Calls Tryd.prog 108 #[.string s, .int .i64 i, .int .i64 n] w fun e w' => e = .returned (.bool (tailB s i n)) ∧ w' = w := by
  obtain ⟨R, HR⟩ : ∃ R, Hid (R = tailB s i n) := ⟨_, Lib.hid rfl⟩
  rw [← HR.out]
  go_enter Tryd.func108, Tryd.ntmps108
  go_wp2_with fail
  go_loop [7] (fun t => ∃ k : Nat, k ≤ n ∧ t = .int .i64 k ∧ Hid (R = tailB s (i + k) (n - k))) (fun t => n - (intOf t).toNat)
  case atStart => exact ⟨0, Nat.zero_le _, rfl, HR⟩
  case round =>
    obtain ⟨k, hk, rfl, HK⟩ := hrel
    by_cases hlt : k < n
    · obtain ⟨D, HD⟩ : ∃ D, Hid (D = btwB s (i + k) 128 191) := ⟨_, Lib.hid rfl⟩
      have HN : Hid (R = (D && tailB s (i + (k + 1)) (n - (k + 1)))) := Lib.hid (by rw [HK.out, show n - k = (n - (k + 1)) + 1 by omega, HD.out]; rfl)
      have KB : Hid (∀ w : World, Calls Tryd.prog 109 #[.string s, .int .i64 (i + k), .int .u8 128, .int .u8 191] w fun e w' => e = .returned (.bool D) ∧ w' = w) := by
        intro w
        rw [HD.out]
        exact between_ok s (i + k) 128 191 w
      go_wp2_with fail
      refine calls_same (KB.out _) ?_
      cases D
      · go_wp2_with fail
        go_ret
        exact ⟨ret_bool (by rw [HN.out]; rfl), rfl⟩
      · go_wp2_with fail
        go_round
        case rel => exact ⟨k + 1, by omega, by go_num, Lib.hid (by rw [HN.out]; rfl)⟩
        case measure => simp [intOf]; omega
    · have HN : Hid (R = true) := Lib.hid (by rw [HK.out, show n - k = 0 by omega]; rfl)
      go_wp2_with fail
      go_ret
      exact ⟨ret_bool HN.out.symm, rfl⟩
end Go.Proofs.YtlgpoapedgodoaaDoor
