/- slices.CompareFunc over lists of values. -/
import Derived.Test.YtlgpoapedgodoaaDoorRow
namespace Go.Proofs.YtlgpoapedgodoaaDoor
open Go.RowKit

set_option maxRecDepth 8000 in
set_option maxHeartbeats 2000000 in
theorem cfl_ok (n : Nat) (HC : Hid (OCmp n)) (v1 v2 : Value) (xs ys : List (VT n)) (w : World) (h1 : RowAt 7 (RVal n) w v1 xs) (h2 : RowAt 7 (RVal n) w v2 ys) :
    Calls Tryd.prog 37 #[v1, v2, .func (.func 13) #[] #[]] w fun e w' => e = .returned (.int .i64 (cmpL (cmpV n) xs ys)) ∧ Below w.heap.size w w' := by
  obtain ⟨ao, c, rfl, hc, hm, g1⟩ := h1.opened
  obtain ⟨ao', c', rfl, hc', hm', g2⟩ := h2.opened
  obtain ⟨L, HL⟩ : ∃ L, Hid (L = xs.length) := ⟨_, Lib.hid rfl⟩
  obtain ⟨L', HL'⟩ : ∃ L, Hid (L = ys.length) := ⟨_, Lib.hid rfl⟩
  rw [← HL.out] at hc
  rw [← HL'.out] at hc'
  rw [← HL.out, ← HL'.out]
  obtain ⟨R, HR⟩ : ∃ R : Int, Hid (R = cmpL (cmpV n) xs ys) := ⟨_, Lib.hid rfl⟩
  rw [← HR.out]
  have G1 := Lib.hid g1
  have G2 := Lib.hid g2
  clear g1 g2 h1 h2
  unfold maxLen at hm hm'
  go_enter Tryd.func37, Tryd.ntmps37
  go_wp2_with fail
  go_loopw [7, 8, 9, 10, 13] (fun _ _ _ _ t wr => ∃ k : Nat, k ≤ L ∧ k ≤ L' ∧ t = .int .i64 k ∧ Hid (R = cmpL (cmpV n) (xs.drop k) (ys.drop k)) ∧ Below w.heap.size w wr) (fun _ _ _ _ t _ => L - (intOf t).toNat)
  case atStart => exact ⟨0, Nat.zero_le _, Nat.zero_le _, rfl, HR, Below.refl _ _⟩
  case round =>
    obtain ⟨k, hk, hk', rfl, HK, hb⟩ := hrel
    have HB := Lib.hid hb
    clear hb
    by_cases hlt : k < L
    · by_cases hlt' : k < L'
      · obtain ⟨x, hx⟩ : ∃ x, xs[k]? = some x := ⟨_, List.getElem?_eq_getElem (by rw [← HL.out]; exact hlt)⟩
        obtain ⟨y, hy⟩ : ∃ y, ys[k]? = some y := ⟨_, List.getElem?_eq_getElem (by rw [← HL'.out]; exact hlt')⟩
        obtain ⟨b, o, rfl, cs, hl, hcs, hRx⟩ := (G1.out k x hx).keep HB.out (fun _ _ h => RVal.keep HB.out n _ _ h)
        obtain ⟨b', o', rfl, cs', hl', hcs', hRy⟩ := (G2.out k y hy).keep HB.out (fun _ _ h => RVal.keep HB.out n _ _ h)
        obtain ⟨ek, ez, et, d1, l1, c1, d2, l2, c2, d3, l3, c3, d4, l4, c4, rfl⟩ := hRx.seven
        obtain ⟨ek', ez', et', d1', l1', c1', d2', l2', c2', d3', l3', c3', d4', l4', c4', rfl⟩ := hRy.seven
        have A0 : wr.cell? ⟨b, o + k * 7, none⟩ = some (.int .i64 ek) := hcs 0 _ rfl
        have A1 : wr.cell? ⟨b, o + k * 7 + 1, none⟩ = some (.int .u64 ez) := by rw [Nat.add_assoc]; exact hcs 1 _ rfl
        have A2 : wr.cell? ⟨b, o + k * 7 + 2, none⟩ = some (.string et) := by rw [Nat.add_assoc]; exact hcs 2 _ rfl
        have A3 : wr.cell? ⟨b, o + k * 7 + 3, none⟩ = some (.slice d1 l1 c1) := by rw [Nat.add_assoc]; exact hcs 3 _ rfl
        have A4 : wr.cell? ⟨b, o + k * 7 + 4, none⟩ = some (.slice d2 l2 c2) := by rw [Nat.add_assoc]; exact hcs 4 _ rfl
        have A5 : wr.cell? ⟨b, o + k * 7 + 5, none⟩ = some (.slice d3 l3 c3) := by rw [Nat.add_assoc]; exact hcs 5 _ rfl
        have A6 : wr.cell? ⟨b, o + k * 7 + 6, none⟩ = some (.slice d4 l4 c4) := by rw [Nat.add_assoc]; exact hcs 6 _ rfl
        have LB : b' < wr.heap.size := World.block_lt_of_cell? _ _ (hcs' 0 _ rfl)
        have B0 : wr.cell? ⟨b', o' + k * 7, none⟩ = some (.int .i64 ek') := hcs' 0 _ rfl
        have B1 : wr.cell? ⟨b', o' + k * 7 + 1, none⟩ = some (.int .u64 ez') := by rw [Nat.add_assoc]; exact hcs' 1 _ rfl
        have B2 : wr.cell? ⟨b', o' + k * 7 + 2, none⟩ = some (.string et') := by rw [Nat.add_assoc]; exact hcs' 2 _ rfl
        have B3 : wr.cell? ⟨b', o' + k * 7 + 3, none⟩ = some (.slice d1' l1' c1') := by rw [Nat.add_assoc]; exact hcs' 3 _ rfl
        have B4 : wr.cell? ⟨b', o' + k * 7 + 4, none⟩ = some (.slice d2' l2' c2') := by rw [Nat.add_assoc]; exact hcs' 4 _ rfl
        have B5 : wr.cell? ⟨b', o' + k * 7 + 5, none⟩ = some (.slice d3' l3' c3') := by rw [Nat.add_assoc]; exact hcs' 5 _ rfl
        have B6 : wr.cell? ⟨b', o' + k * 7 + 6, none⟩ = some (.slice d4' l4' c4') := by rw [Nat.add_assoc]; exact hcs' 6 _ rfl
        have HRx := Lib.hid hRx
        have HRy := Lib.hid hRy
        clear hcs hcs'
        have HX := Lib.hid (And.intro hx hy)
        clear hx hy hRx hRy
        go_wp2_with fail
        refine calls_box2 ?_
        intro W hA hB hb
        refine calls_on (HC.out _ _ x y _ ⟨_, _, _, _, _, _, _, _, _, _, _, _, _, _, _, rfl, RVal.keep hb n _ _ HRx.out⟩ ⟨_, _, _, _, _, _, _, _, _, _, _, _, _, _, _, rfl, RVal.keep hb n _ _ HRy.out⟩) ?_
        intro w2 hb2
        have HB2 := Lib.hid (above HB.out (above hb hb2))
        have HK2 : Hid (R = orI ((cmpV n) x y) (cmpL (cmpV n) (xs.drop (k + 1)) (ys.drop (k + 1)))) := by
          have := HK.out
          rw [cmpL_drop (cmpV n) k xs ys (by rw [← HL.out]; exact hlt) (by rw [← HL'.out]; exact hlt') x y HX.out.1 HX.out.2] at this
          exact this
        clear hA hB hb hb2 LB A0 A1 A2 A3 A4 A5 A6 B0 B1 B2 B3 B4 B5 B6
        generalize (cmpV n) x y = C at *
        by_cases hC : C = 0
        · subst hC
          go_wp2_with fail
          go_roundw
          case rel => exact ⟨k + 1, by omega, by omega, by go_num, by rw [HK2.out]; exact orI_zero, HB2.out⟩
          case measure => simp [intOf]; omega
        · have hC' : (C != 0) = true := by simp [hC]
          have HCC := Lib.hid hC
          clear hC
          go_wp2_with fail
          go_ret
          exact ⟨ret_int (by rw [HK2.out, orI_ne HCC.out]), HB2.out⟩
      · obtain ⟨x, hx⟩ : ∃ x, xs[k]? = some x := ⟨_, List.getElem?_eq_getElem (by rw [← HL.out]; exact hlt)⟩
        obtain ⟨b, o, rfl, cs, hl, hcs, hRx⟩ := (G1.out k x hx).keep HB.out (fun _ _ h => RVal.keep HB.out n _ _ h)
        obtain ⟨ek, ez, et, d1, l1, c1, d2, l2, c2, d3, l3, c3, d4, l4, c4, rfl⟩ := hRx.seven
        have A0 : wr.cell? ⟨b, o + k * 7, none⟩ = some (.int .i64 ek) := hcs 0 _ rfl
        have A1 : wr.cell? ⟨b, o + k * 7 + 1, none⟩ = some (.int .u64 ez) := by rw [Nat.add_assoc]; exact hcs 1 _ rfl
        have A2 : wr.cell? ⟨b, o + k * 7 + 2, none⟩ = some (.string et) := by rw [Nat.add_assoc]; exact hcs 2 _ rfl
        have A3 : wr.cell? ⟨b, o + k * 7 + 3, none⟩ = some (.slice d1 l1 c1) := by rw [Nat.add_assoc]; exact hcs 3 _ rfl
        have A4 : wr.cell? ⟨b, o + k * 7 + 4, none⟩ = some (.slice d2 l2 c2) := by rw [Nat.add_assoc]; exact hcs 4 _ rfl
        have A5 : wr.cell? ⟨b, o + k * 7 + 5, none⟩ = some (.slice d3 l3 c3) := by rw [Nat.add_assoc]; exact hcs 5 _ rfl
        have A6 : wr.cell? ⟨b, o + k * 7 + 6, none⟩ = some (.slice d4 l4 c4) := by rw [Nat.add_assoc]; exact hcs 6 _ rfl
        clear hcs hx hRx
        have HG : Hid (R = 1) := Lib.hid (by rw [HK.out]; exact cmpL_more _ k xs ys (by rw [← HL.out]; exact hlt) (by rw [← HL'.out]; omega))
        go_wp2_with fail
        go_ret
        exact ⟨ret_int HG.out.symm, HB.out.alloc HB.out.size _⟩
    · have HG : Hid (R = if L < L' then -1 else 0) := Lib.hid (by rw [HK.out, cmpL_end _ k xs ys (by rw [← HL.out]; omega) (by rw [← HL'.out]; omega), HL.out, HL'.out])
      by_cases hll : L < L'
      · have hd : decide (L < L') = true := by simpa using hll
        go_wp2_with fail
        go_ret
        exact ⟨ret_int (by rw [HG.out, if_pos hll]), HB.out⟩
      · have hd : decide (L < L') = false := by simpa using hll
        go_wp2_with fail
        go_ret
        exact ⟨ret_int (by rw [HG.out, if_neg hll]), HB.out⟩
end Go.Proofs.YtlgpoapedgodoaaDoor
