/- cmp.Or over integers. -/
import Derived.Test.YtlgpoapedgodoaaDoorRow
namespace Go.Proofs.YtlgpoapedgodoaaDoor
open Go.RowKit

/-- The first that is not zero. -/
def orL : List Int → Int
  | [] => 0
  | a :: l => orI a (orL l)

theorem orL_drop (l : List Int) (k : Nat) (a : Int) (h : l[k]? = some a) : orL (l.drop k) = orI a (orL (l.drop (k + 1))) := by
  have hk : k < l.length := (List.getElem?_eq_some_iff.1 h).1
  rw [List.drop_eq_getElem_cons hk]
  have : l[k] = a := (List.getElem?_eq_some_iff.1 h).2
  rw [this]; rfl

set_option maxHeartbeats 1000000 in
theorem or_ok (b : Nat) (l : List Int) (w : World) (hl : l.length ≤ 1000) (hc : ∀ (i : Nat) x, l[i]? = some x → w.cell? ⟨b, i, none⟩ = some (.int .i64 x)) :
    Calls Tryd.prog 40 #[.slice (some ⟨b, 0, none⟩) l.length l.length] w fun e w' => e = .returned (.int .i64 (orL l)) ∧ w' = w := by
  obtain ⟨L, HL⟩ : ∃ L, Hid (L = l.length) := ⟨_, Lib.hid rfl⟩
  rw [← HL.out] at hl ⊢
  obtain ⟨R, HR⟩ : ∃ R : Int, Hid (R = orL l) := ⟨_, Lib.hid rfl⟩
  rw [← HR.out]
  have HC := Lib.hid hc
  clear hc
  go_enter Tryd.func40, Tryd.ntmps40
  go_wp2_with fail
  go_loop [5, 8] (fun _ t => ∃ k : Nat, k ≤ L ∧ t = .int .i64 k ∧ Hid (R = orL (l.drop k))) (fun _ t => L - (intOf t).toNat)
  case atStart => exact ⟨0, Nat.zero_le _, rfl, HR⟩
  case round =>
    obtain ⟨k, hk, rfl, HK⟩ := hrel
    by_cases hlt : k < L
    · obtain ⟨x, hx⟩ : ∃ x, l[k]? = some x := ⟨_, List.getElem?_eq_getElem (by rw [← HL.out]; exact hlt)⟩
      have hcell : w.cell? ⟨b, k, none⟩ = some (.int .i64 x) := HC.out k x hx
      have HK2 : Hid (R = orI x (orL (l.drop (k + 1)))) := Lib.hid (by rw [HK.out]; exact orL_drop l k x hx)
      clear hx
      by_cases h0 : x = 0
      · subst h0
        go_wp2_with fail
        go_round
        case rel => exact ⟨k + 1, by omega, by go_num, by rw [HK2.out]; exact orI_zero⟩
        case measure => simp [intOf]; omega
      · have h0' : (x != 0) = true := by simp [h0]
        have H0 := Lib.hid h0
        clear h0
        go_wp2_with fail
        go_ret
        exact ⟨ret_int (by rw [HK2.out, orI_ne H0.out]), rfl⟩
    · have HG : Hid (R = 0) := Lib.hid (by rw [HK.out, List.drop_of_length_le (by rw [← HL.out]; omega)]; rfl)
      go_wp2_with fail
      go_ret
      exact ⟨ret_int HG.out.symm, rfl⟩

theorem or2_ok (b : Nat) (x y : Int) (w : World) (h0 : w.cell? ⟨b, 0, none⟩ = some (.int .i64 x)) (h1 : w.cell? ⟨b, 1, none⟩ = some (.int .i64 y)) :
    Calls Tryd.prog 40 #[.slice (some ⟨b, 0, none⟩) 2 2] w fun e w' => e = .returned (.int .i64 (orI x y)) ∧ w' = w := by
  have := or_ok b [x, y] w (by simp) (fun i z h => by
    match i, h with
    | 0, h => simp at h; subst h; exact h0
    | 1, h => simp at h; subst h; exact h1)
  have e : orL [x, y] = orI x y := by simp [orL, orI]; split <;> simp_all
  rw [e] at this
  exact this

theorem or4_ok (b : Nat) (x y z u : Int) (w : World) (h0 : w.cell? ⟨b, 0, none⟩ = some (.int .i64 x)) (h1 : w.cell? ⟨b, 1, none⟩ = some (.int .i64 y)) (h2 : w.cell? ⟨b, 2, none⟩ = some (.int .i64 z)) (h3 : w.cell? ⟨b, 3, none⟩ = some (.int .i64 u)) :
    Calls Tryd.prog 40 #[.slice (some ⟨b, 0, none⟩) 4 4] w fun e w' => e = .returned (.int .i64 (orI x (orI y (orI z u)))) ∧ w' = w := by
  have := or_ok b [x, y, z, u] w (by simp) (fun i z h => by
    match i, h with
    | 0, h => simp at h; subst h; exact h0
    | 1, h => simp at h; subst h; exact h1
    | 2, h => simp at h; subst h; exact h2
    | 3, h => simp at h; subst h; exact h3)
  have e : orL [x, y, z, u] = orI x (orI y (orI z u)) := by
    have : ∀ a, orI a 0 = a := by intro a; simp [orI]; omega
    simp [orL, this]
  rw [e] at this
  exact this
end Go.Proofs.YtlgpoapedgodoaaDoor
