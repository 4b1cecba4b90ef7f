/- slices.CompareFunc over slots. -/
import Derived.Test.YtlgpoapedgodoaaDoorRow
namespace Go.Proofs.YtlgpoapedgodoaaDoor
open Go.RowKit

set_option maxRecDepth 8000 in
set_option maxHeartbeats 2000000 in
theorem cfs_ok (n : Nat) (HC : Hid (OSlot n)) (v1 v2 : Value) (xs ys : List (Int × VT n)) (w : World) (h1 : RowAt 8 (RSlot n) w v1 xs) (h2 : RowAt 8 (RSlot n) w v2 ys) :
    Calls Tryd.prog 41 #[v1, v2, .func (.func 42) #[] #[]] w fun e w' => e = .returned (.int .i64 (cmpL (cmpS (cmpV n)) xs ys)) ∧ Below w.heap.size w w' := by
  obtain ⟨ao, c, rfl, hc, hm, g1⟩ := h1.opened
  obtain ⟨ao', c', rfl, hc', hm', g2⟩ := h2.opened
  obtain ⟨L, HL⟩ : ∃ L, Hid (L = xs.length) := ⟨_, Lib.hid rfl⟩
  obtain ⟨L', HL'⟩ : ∃ L, Hid (L = ys.length) := ⟨_, Lib.hid rfl⟩
  rw [← HL.out] at hc
  rw [← HL'.out] at hc'
  rw [← HL.out, ← HL'.out]
  obtain ⟨R, HR⟩ : ∃ R : Int, Hid (R = cmpL (cmpS (cmpV n)) xs ys) := ⟨_, Lib.hid rfl⟩
  rw [← HR.out]
  have G1 := Lib.hid g1
  have G2 := Lib.hid g2
  clear g1 g2 h1 h2
  unfold maxLen at hm hm'
  go_enter Tryd.func41, Tryd.ntmps41
  go_wp2_with fail
  go_loopw [7, 8, 9, 10, 13] (fun _ _ _ _ t wr => ∃ k : Nat, k ≤ L ∧ k ≤ L' ∧ t = .int .i64 k ∧ Hid (R = cmpL (cmpS (cmpV n)) (xs.drop k) (ys.drop k)) ∧ Below w.heap.size w wr) (fun _ _ _ _ t _ => L - (intOf t).toNat)
  case atStart => exact ⟨0, Nat.zero_le _, Nat.zero_le _, rfl, HR, Below.refl _ _⟩
  case round =>
    obtain ⟨k, hk, hk', rfl, HK, hb⟩ := hrel
    have HB := Lib.hid hb
    clear hb
    by_cases hlt : k < L
    · by_cases hlt' : k < L'
      · obtain ⟨x, hx⟩ : ∃ x, xs[k]? = some x := ⟨_, List.getElem?_eq_getElem (by rw [← HL.out]; exact hlt)⟩
        obtain ⟨y, hy⟩ : ∃ y, ys[k]? = some y := ⟨_, List.getElem?_eq_getElem (by rw [← HL'.out]; exact hlt')⟩
        obtain ⟨b, o, rfl, cs, hl, hcs, hRx⟩ := (G1.out k x hx).keep HB.out (fun _ _ h => RSlot.keep HB.out h)
        obtain ⟨b', o', rfl, cs', hl', hcs', hRy⟩ := (G2.out k y hy).keep HB.out (fun _ _ h => RSlot.keep HB.out h)
        obtain ⟨q2, rfl, hRx1, hRx2⟩ := hRx
        obtain ⟨eky, ezy, ety, d1y, l1y, c1y, d2y, l2y, c2y, d3y, l3y, c3y, d4y, l4y, c4y, rfl⟩ := hRx2.seven
        obtain ⟨q2', rfl, hRy1, hRy2⟩ := hRy
        obtain ⟨eky', ezy', ety', d1y', l1y', c1y', d2y', l2y', c2y', d3y', l3y', c3y', d4y', l4y', c4y', rfl⟩ := hRy2.seven
        have A0 : wr.cell? ⟨b, o + k * 8, none⟩ = some (.int .i64 x.1) := hcs 0 _ rfl
        have A1 : wr.cell? ⟨b, o + k * 8 + 1, none⟩ = some (.int .i64 eky) := by rw [Nat.add_assoc]; exact hcs 1 _ rfl
        have A2 : wr.cell? ⟨b, o + k * 8 + 2, none⟩ = some (.int .u64 ezy) := by rw [Nat.add_assoc]; exact hcs 2 _ rfl
        have A3 : wr.cell? ⟨b, o + k * 8 + 3, none⟩ = some (.string ety) := by rw [Nat.add_assoc]; exact hcs 3 _ rfl
        have A4 : wr.cell? ⟨b, o + k * 8 + 4, none⟩ = some (.slice d1y l1y c1y) := by rw [Nat.add_assoc]; exact hcs 4 _ rfl
        have A5 : wr.cell? ⟨b, o + k * 8 + 5, none⟩ = some (.slice d2y l2y c2y) := by rw [Nat.add_assoc]; exact hcs 5 _ rfl
        have A6 : wr.cell? ⟨b, o + k * 8 + 6, none⟩ = some (.slice d3y l3y c3y) := by rw [Nat.add_assoc]; exact hcs 6 _ rfl
        have A7 : wr.cell? ⟨b, o + k * 8 + 7, none⟩ = some (.slice d4y l4y c4y) := by rw [Nat.add_assoc]; exact hcs 7 _ rfl
        have LB : b' < wr.heap.size := World.block_lt_of_cell? _ _ (hcs' 0 _ rfl)
        have B0 : wr.cell? ⟨b', o' + k * 8, none⟩ = some (.int .i64 y.1) := hcs' 0 _ rfl
        have B1 : wr.cell? ⟨b', o' + k * 8 + 1, none⟩ = some (.int .i64 eky') := by rw [Nat.add_assoc]; exact hcs' 1 _ rfl
        have B2 : wr.cell? ⟨b', o' + k * 8 + 2, none⟩ = some (.int .u64 ezy') := by rw [Nat.add_assoc]; exact hcs' 2 _ rfl
        have B3 : wr.cell? ⟨b', o' + k * 8 + 3, none⟩ = some (.string ety') := by rw [Nat.add_assoc]; exact hcs' 3 _ rfl
        have B4 : wr.cell? ⟨b', o' + k * 8 + 4, none⟩ = some (.slice d1y' l1y' c1y') := by rw [Nat.add_assoc]; exact hcs' 4 _ rfl
        have B5 : wr.cell? ⟨b', o' + k * 8 + 5, none⟩ = some (.slice d2y' l2y' c2y') := by rw [Nat.add_assoc]; exact hcs' 5 _ rfl
        have B6 : wr.cell? ⟨b', o' + k * 8 + 6, none⟩ = some (.slice d3y' l3y' c3y') := by rw [Nat.add_assoc]; exact hcs' 6 _ rfl
        have B7 : wr.cell? ⟨b', o' + k * 8 + 7, none⟩ = some (.slice d4y' l4y' c4y') := by rw [Nat.add_assoc]; exact hcs' 7 _ rfl
        have HRx1 := Lib.hid hRx1
        have HRx2 := Lib.hid hRx2
        have HRy1 := Lib.hid hRy1
        have HRy2 := Lib.hid hRy2
        clear hcs hcs'
        have HX := Lib.hid (And.intro hx hy)
        clear hx hy hRx1 hRx2 hRy1 hRy2
        go_wp2_with fail
        refine calls_box2 ?_
        intro W hA hB hb
        refine calls_on (HC.out _ _ x y _ ⟨_, _, _, _, _, _, _, _, _, _, _, _, _, _, _, rfl, HRx1.out, RVal.keep hb n _ _ HRx2.out⟩ ⟨_, _, _, _, _, _, _, _, _, _, _, _, _, _, _, rfl, HRy1.out, RVal.keep hb n _ _ HRy2.out⟩) ?_
        intro w2 hb2
        have HB2 := Lib.hid (above HB.out (above hb hb2))
        have HK2 : Hid (R = orI ((cmpS (cmpV n)) x y) (cmpL (cmpS (cmpV n)) (xs.drop (k + 1)) (ys.drop (k + 1)))) := by
          have := HK.out
          rw [cmpL_drop (cmpS (cmpV n)) k xs ys (by rw [← HL.out]; exact hlt) (by rw [← HL'.out]; exact hlt') x y HX.out.1 HX.out.2] at this
          exact this
        clear hA hB hb hb2 LB A0 A1 A2 A3 A4 A5 A6 A7 B0 B1 B2 B3 B4 B5 B6 B7
        generalize (cmpS (cmpV n)) x y = C at *
        by_cases hC : C = 0
        · subst hC
          go_wp2_with fail
          go_roundw
          case rel => exact ⟨k + 1, by omega, by omega, by go_num, by rw [HK2.out]; exact orI_zero, HB2.out⟩
          case measure => simp [intOf]; omega
        · have hC' : (C != 0) = true := by simp [hC]
          have HCC := Lib.hid hC
          clear hC
          go_wp2_with fail
          go_ret
          exact ⟨ret_int (by rw [HK2.out, orI_ne HCC.out]), HB2.out⟩
      · obtain ⟨x, hx⟩ : ∃ x, xs[k]? = some x := ⟨_, List.getElem?_eq_getElem (by rw [← HL.out]; exact hlt)⟩
        obtain ⟨b, o, rfl, cs, hl, hcs, hRx⟩ := (G1.out k x hx).keep HB.out (fun _ _ h => RSlot.keep HB.out h)
        obtain ⟨q2, rfl, hRx1, hRx2⟩ := hRx
        obtain ⟨eky, ezy, ety, d1y, l1y, c1y, d2y, l2y, c2y, d3y, l3y, c3y, d4y, l4y, c4y, rfl⟩ := hRx2.seven
        have A0 : wr.cell? ⟨b, o + k * 8, none⟩ = some (.int .i64 x.1) := hcs 0 _ rfl
        have A1 : wr.cell? ⟨b, o + k * 8 + 1, none⟩ = some (.int .i64 eky) := by rw [Nat.add_assoc]; exact hcs 1 _ rfl
        have A2 : wr.cell? ⟨b, o + k * 8 + 2, none⟩ = some (.int .u64 ezy) := by rw [Nat.add_assoc]; exact hcs 2 _ rfl
        have A3 : wr.cell? ⟨b, o + k * 8 + 3, none⟩ = some (.string ety) := by rw [Nat.add_assoc]; exact hcs 3 _ rfl
        have A4 : wr.cell? ⟨b, o + k * 8 + 4, none⟩ = some (.slice d1y l1y c1y) := by rw [Nat.add_assoc]; exact hcs 4 _ rfl
        have A5 : wr.cell? ⟨b, o + k * 8 + 5, none⟩ = some (.slice d2y l2y c2y) := by rw [Nat.add_assoc]; exact hcs 5 _ rfl
        have A6 : wr.cell? ⟨b, o + k * 8 + 6, none⟩ = some (.slice d3y l3y c3y) := by rw [Nat.add_assoc]; exact hcs 6 _ rfl
        have A7 : wr.cell? ⟨b, o + k * 8 + 7, none⟩ = some (.slice d4y l4y c4y) := by rw [Nat.add_assoc]; exact hcs 7 _ rfl
        clear hcs hx hRx1 hRx2
        have HG : Hid (R = 1) := Lib.hid (by rw [HK.out]; exact cmpL_more _ k xs ys (by rw [← HL.out]; exact hlt) (by rw [← HL'.out]; omega))
        go_wp2_with fail
        go_ret
        exact ⟨ret_int HG.out.symm, HB.out.alloc HB.out.size _⟩
    · have HG : Hid (R = if L < L' then -1 else 0) := Lib.hid (by rw [HK.out, cmpL_end _ k xs ys (by rw [← HL.out]; omega) (by rw [← HL'.out]; omega), HL.out, HL'.out])
      by_cases hll : L < L'
      · have hd : decide (L < L') = true := by simpa using hll
        go_wp2_with fail
        go_ret
        exact ⟨ret_int (by rw [HG.out, if_pos hll]), HB.out⟩
      · have hd : decide (L < L') = false := by simpa using hll
        go_wp2_with fail
        go_ret
        exact ⟨ret_int (by rw [HG.out, if_neg hll]), HB.out⟩
end Go.Proofs.YtlgpoapedgodoaaDoor
