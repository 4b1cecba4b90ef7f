/- utf.Bad, utf.Valid: the first wrong byte. -/
import Derived.Test.YtlgpoapedgodoaaDoorUtfLaw
import Derived.Test.YtlgpoapedgodoaaDoorShelf
import Derived.Test.YtlgpoapedgodoaaDoorRow
import Derived.Laws.RangeAny
namespace Go.Proofs.YtlgpoapedgodoaaDoor
open Go.RowKit

/-- The replacement rune stands there. -/
def fffd (s : ByteArray) (i : Nat) : Prop := 2 < s.size - i ∧ (s.get! i).toNat = 239 ∧ (s.get! (i + 1)).toNat = 191 ∧ (s.get! (i + 2)).toNat = 189
instance (s : ByteArray) (i : Nat) : Decidable (fffd s i) := by unfold fffd; infer_instance

theorem get_list (s : ByteArray) (i : Nat) (h : i < s.size) : s.data.toList[i]? = some (s.get! i) := by
  have e := get_at s i h
  rw [Nat.add_zero] at e
  rw [e]
  simp only [Array.getElem?_toList]
  rw [Array.getElem?_eq_getElem h]
  rfl

theorem prefix_fffd (s : ByteArray) (i : Nat) : Lib.hasPrefix (s.extract i s.size).data.toList [239, 191, 189] = decide (fffd s i) := by
  have e : (s.extract i s.size).data.toList = s.data.toList.drop i := by
    simp [ByteArray.data_extract]
    exact List.take_of_length_le (by simp)
  rw [e, Bool.eq_iff_iff, decide_eq_true_iff]
  unfold Lib.hasPrefix
  rw [List.isPrefixOf_iff_prefix]
  constructor
  · rintro ⟨r, hr⟩
    have hlen := congrArg List.length hr
    have hn : 3 + r.length = s.size - i := by simp at hlen; omega
    have key : ∀ k, k < 3 → ([239, 191, 189] : List UInt8)[k]? = some (s.get! (i + k)) := by
      intro k hk
      have h1 := get_list s (i + k) (by omega)
      rw [← h1]
      have h2 : (s.data.toList.drop i)[k]? = s.data.toList[i + k]? := by rw [List.getElem?_drop]
      rw [← h2, ← hr, List.getElem?_append_left (by simpa using hk)]
    have k0 := key 0 (by omega); have k1 := key 1 (by omega); have k2 := key 2 (by omega)
    simp at k0 k1 k2
    refine ⟨by omega, ?_, ?_, ?_⟩
    · rw [← k0]; rfl
    · rw [← k1]; rfl
    · rw [← k2]; rfl
  · rintro ⟨h0, h1, h2, h3⟩
    have g0 := get_list s i (by omega)
    have g1 := get_list s (i + 1) (by omega)
    have g2 := get_list s (i + 2) (by omega)
    have e0 : s.get! i = 239 := UInt8.toNat_inj.1 h1
    have e1 : s.get! (i + 1) = 191 := UInt8.toNat_inj.1 h2
    have e2 : s.get! (i + 2) = 189 := UInt8.toNat_inj.1 h3
    rw [e0] at g0; rw [e1] at g1; rw [e2] at g2
    refine ⟨s.data.toList.drop (i + 3), ?_⟩
    have d : ∀ (l : List UInt8) (k : Nat) (x : UInt8), l[k]? = some x → l.drop k = x :: l.drop (k + 1) := by
      intro l k x h
      have hk := (List.getElem?_eq_some_iff.1 h).1
      have hx := (List.getElem?_eq_some_iff.1 h).2
      rw [List.drop_eq_getElem_cons hk, hx]
    rw [d _ _ _ g0, d _ _ _ g1, d _ _ _ g2]
    rfl

set_option maxHeartbeats 1000000 in
theorem wrong_ok (s : ByteArray) (i : Nat) (c : Int) (hi : i < s.size) (w : World) :
    Calls Tryd.prog 94 #[.string s, .int .i64 i, .int .i32 c] w fun e w' => e = .returned (.bool (decide (c = 65533 ∧ ¬ fffd s i))) ∧ w' = w := by
  obtain ⟨R, HR⟩ : ∃ R, Hid (R = decide (c = 65533 ∧ ¬ fffd s i)) := ⟨_, Lib.hid rfl⟩
  rw [← HR.out]
  by_cases hc : c = 65533
  · subst hc
    obtain ⟨F, HF⟩ : ∃ F, Hid (F = decide (fffd s i)) := ⟨_, Lib.hid rfl⟩
    have KP : Hid (∀ w : World, Calls Tryd.prog 107 #[.string (s.extract i s.size), .string ⟨#[239, 191, 189]⟩] w fun e w' => e = .returned (.bool F) ∧ w' = w) := by
      intro w
      have := Tryd.strings_HasPrefix (s.extract i s.size) ⟨#[239, 191, 189]⟩ w
      rw [prefix_fffd s i] at this
      rw [HF.out]
      exact this
    have i1 : (i : Int) ≤ (s.size : Int) := by omega
    have i0 : (0 : Int) ≤ (i : Int) := by omega
    go_enter Tryd.func94, Tryd.ntmps94
    go_wp2_with fail
    refine calls_same (KP.out _) ?_
    go_wp2_with fail
    go_ret
    refine ⟨?_, rfl⟩
    rw [HR.out]
    have e := HF.out
    simp only [true_and, decide_not]
    rw [← e]
    rfl
  · have hcb : (c == 65533) = false := by simp [hc]
    have HC := Lib.hid hc
    clear hc
    go_enter Tryd.func94, Tryd.ntmps94
    go_wp2_with fail
    go_ret
    refine ⟨?_, rfl⟩
    rw [HR.out]
    simp [HC.out]

theorem width_pos (s : ByteArray) (pos : Nat) (h : pos < s.size) : 1 ≤ (Utf8.decode s pos).2 := by
  by_cases ha : (s[pos]'h).toNat < 128
  · rw [decode_ascii s pos h ha]
    exact Nat.le_refl _
  · exact (decode_high s pos h (by omega)).2

theorem sizeAt_fffd (s : ByteArray) (i : Nat) (h : i < s.size) : (sizeAt s i = 0 ↔ (((Utf8.decode s i).1 : Nat) : Int) = 65533 ∧ ¬ fffd s i) ∧ (sizeAt s i ≠ 0 → sizeAt s i = (Utf8.decode s i).2) := by
  have hd := sizeAt_decode s i
  have hp := width_pos s i h
  have e : (((Utf8.decode s i).1 : Nat) : Int) = 65533 ↔ (Utf8.decode s i).1 = 65533 := by omega
  rw [e]
  by_cases hb : (Utf8.decode s i).1 = 65533 ∧ ¬ fffd s i
  · rw [show sizeAt s i = 0 by rw [hd]; exact if_pos hb]
    exact ⟨⟨fun _ => hb, fun _ => rfl⟩, fun h => absurd rfl h⟩
  · have : sizeAt s i = (Utf8.decode s i).2 := by rw [hd]; exact if_neg hb
    rw [this]
    exact ⟨⟨fun h0 => by omega, fun h => absurd h hb⟩, fun _ => rfl⟩

set_option maxHeartbeats 1000000 in
theorem bad_ok (s : ByteArray) (w : World) :
    Calls Tryd.prog 77 #[.string s] w fun e w' => e = .returned (.int .i64 (badZ s)) ∧ Below w.heap.size w w' := by
  obtain ⟨R, HR⟩ : ∃ R, Hid (R = badZ s) := ⟨_, Lib.hid rfl⟩
  rw [← HR.out]
  have bi : ∀ p, Below w.heap.size w (w.iter s p) := fun p => (Below.refl _ _).alloc (Nat.le_refl _) _
  have BI := Lib.hid bi
  clear bi
  go_enter Tryd.func77, Tryd.ntmps77
  go_wp2_with fail
  go_loopw [3, 4] (fun _ _ w' => ∃ pos : Nat, w' = w.iter s pos ∧ Hid (R = badAt s pos)) (fun _ _ w' => s.size - w'.iterPos w.heap.size)
  case atStart => exact ⟨0, rfl, HR⟩
  case round =>
    obtain ⟨pos, rfl, HP⟩ := hrel
    by_cases hp : pos < s.size
    · have hnx : ∀ ty, (Instr.next (.pointer (some ⟨w.heap.size, 0, none⟩)) true ty).run Tryd.prog (w.iter s pos) = _ := fun ty => run_next_any w s pos ty hp
      obtain ⟨D, HD⟩ : ∃ D, Hid (D = decide ((((Utf8.decode s pos).1 : Nat) : Int) = 65533 ∧ ¬ fffd s pos)) := ⟨_, Lib.hid rfl⟩
      have hwd := width_pos s pos hp
      have HS := Lib.hid (sizeAt_fffd s pos hp)
      go_wp2_with fail
      refine calls_same (wrong_ok s pos _ hp _) ?_
      rw [← HD.out]
      cases D
      · have h0 : sizeAt s pos ≠ 0 := fun h => by
          have := decide_eq_true (HS.out.1.1 h)
          rw [← HD.out] at this
          cases this
        have HN : Hid (R = badAt s (pos + (Utf8.decode s pos).2)) := Lib.hid (by rw [HP.out, badAt_on s pos hp h0, HS.out.2 h0])
        clear h0
        go_wp2_with fail
        go_roundw
        case rel => exact ⟨pos + (Utf8.decode s pos).2, rfl, HN⟩
        case measure => simp; omega
      · have h0 : sizeAt s pos = 0 := HS.out.1.2 (of_decide_eq_true HD.out.symm)
        have HN : Hid (R = pos) := Lib.hid (by rw [HP.out, badAt_bad s pos hp h0])
        clear h0
        go_wp2_with fail
        go_ret
        exact ⟨ret_int HN.out.symm, BI.out _⟩
    · have hnx : ∀ ty, (Instr.next (.pointer (some ⟨w.heap.size, 0, none⟩)) true ty).run Tryd.prog (w.iter s pos) = _ := fun ty => run_next_end w s pos ty hp
      have HN : Hid (R = -1) := Lib.hid (by rw [HP.out, badAt_end s pos (by omega)])
      go_wp2_with fail
      go_ret
      exact ⟨ret_int HN.out.symm, BI.out _⟩

set_option maxHeartbeats 1000000 in
theorem valid_ok (s : ByteArray) (w : World) :
    Calls Tryd.prog 48 #[.string s] w fun e w' => e = .returned (.bool (validB s)) ∧ Below w.heap.size w w' := by
  obtain ⟨R, HR⟩ : ∃ R, Hid (R = validB s) := ⟨_, Lib.hid rfl⟩
  rw [← HR.out]
  go_enter Tryd.func48, Tryd.ntmps48
  go_wp2_with fail
  refine calls_on (bad_ok s _) ?_
  intro w' hb
  go_wp2_with fail
  go_ret
  exact ⟨by rw [HR.out]; rfl, hb⟩
end Go.Proofs.YtlgpoapedgodoaaDoor
