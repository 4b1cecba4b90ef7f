/- slices.CompareFunc over unknown fields. -/
import Derived.Test.YtlgpoapedgodoaaDoorRow
namespace Go.Proofs.YtlgpoapedgodoaaDoor
open Go.RowKit

set_option maxRecDepth 8000 in
set_option maxHeartbeats 2000000 in
theorem cfr_ok (HC : Hid (ORaw)) (v1 v2 : Value) (xs ys : List (RawT)) (w : World) (h1 : RowAt 4 RRaw w v1 xs) (h2 : RowAt 4 RRaw w v2 ys) :
    Calls Tryd.prog 43 #[v1, v2, .func (.func 44) #[] #[]] w fun e w' => e = .returned (.int .i64 (cmpL cmpR xs ys)) ∧ Below w.heap.size w w' := by
  obtain ⟨ao, c, rfl, hc, hm, g1⟩ := h1.opened
  obtain ⟨ao', c', rfl, hc', hm', g2⟩ := h2.opened
  obtain ⟨L, HL⟩ : ∃ L, Hid (L = xs.length) := ⟨_, Lib.hid rfl⟩
  obtain ⟨L', HL'⟩ : ∃ L, Hid (L = ys.length) := ⟨_, Lib.hid rfl⟩
  rw [← HL.out] at hc
  rw [← HL'.out] at hc'
  rw [← HL.out, ← HL'.out]
  obtain ⟨R, HR⟩ : ∃ R : Int, Hid (R = cmpL cmpR xs ys) := ⟨_, Lib.hid rfl⟩
  rw [← HR.out]
  have G1 := Lib.hid g1
  have G2 := Lib.hid g2
  clear g1 g2 h1 h2
  unfold maxLen at hm hm'
  go_enter Tryd.func43, Tryd.ntmps43
  go_wp2_with fail
  go_loopw [7, 8, 9, 10, 13] (fun _ _ _ _ t wr => ∃ k : Nat, k ≤ L ∧ k ≤ L' ∧ t = .int .i64 k ∧ Hid (R = cmpL cmpR (xs.drop k) (ys.drop k)) ∧ Below w.heap.size w wr) (fun _ _ _ _ t _ => L - (intOf t).toNat)
  case atStart => exact ⟨0, Nat.zero_le _, Nat.zero_le _, rfl, HR, Below.refl _ _⟩
  case round =>
    obtain ⟨k, hk, hk', rfl, HK, hb⟩ := hrel
    have HB := Lib.hid hb
    clear hb
    by_cases hlt : k < L
    · by_cases hlt' : k < L'
      · obtain ⟨x, hx⟩ : ∃ x, xs[k]? = some x := ⟨_, List.getElem?_eq_getElem (by rw [← HL.out]; exact hlt)⟩
        obtain ⟨y, hy⟩ : ∃ y, ys[k]? = some y := ⟨_, List.getElem?_eq_getElem (by rw [← HL'.out]; exact hlt')⟩
        obtain ⟨b, o, rfl, cs, hl, hcs, hRx⟩ := (G1.out k x hx).keep HB.out (fun _ _ h => h)
        obtain ⟨b', o', rfl, cs', hl', hcs', hRy⟩ := (G2.out k y hy).keep HB.out (fun _ _ h => h)
        obtain ⟨rfl, hRx1⟩ := hRx
        obtain ⟨rfl, hRy1⟩ := hRy
        have A0 : wr.cell? ⟨b, o + k * 4, none⟩ = some (.int .i64 x.num) := hcs 0 _ rfl
        have A1 : wr.cell? ⟨b, o + k * 4 + 1, none⟩ = some (.int .i64 x.wire) := by rw [Nat.add_assoc]; exact hcs 1 _ rfl
        have A2 : wr.cell? ⟨b, o + k * 4 + 2, none⟩ = some (.int .u64 x.bits) := by rw [Nat.add_assoc]; exact hcs 2 _ rfl
        have A3 : wr.cell? ⟨b, o + k * 4 + 3, none⟩ = some (.string x.data) := by rw [Nat.add_assoc]; exact hcs 3 _ rfl
        have LB : b' < wr.heap.size := World.block_lt_of_cell? _ _ (hcs' 0 _ rfl)
        have B0 : wr.cell? ⟨b', o' + k * 4, none⟩ = some (.int .i64 y.num) := hcs' 0 _ rfl
        have B1 : wr.cell? ⟨b', o' + k * 4 + 1, none⟩ = some (.int .i64 y.wire) := by rw [Nat.add_assoc]; exact hcs' 1 _ rfl
        have B2 : wr.cell? ⟨b', o' + k * 4 + 2, none⟩ = some (.int .u64 y.bits) := by rw [Nat.add_assoc]; exact hcs' 2 _ rfl
        have B3 : wr.cell? ⟨b', o' + k * 4 + 3, none⟩ = some (.string y.data) := by rw [Nat.add_assoc]; exact hcs' 3 _ rfl
        have HRx1 := Lib.hid hRx1
        have HRy1 := Lib.hid hRy1
        clear hcs hcs'
        have HX := Lib.hid (And.intro hx hy)
        clear hx hy hRx1 hRy1
        go_wp2_with fail
        refine calls_box2 ?_
        intro W hA hB hb
        refine calls_on (HC.out _ _ x y _ ⟨rfl, HRx1.out⟩ ⟨rfl, HRy1.out⟩) ?_
        intro w2 hb2
        have HB2 := Lib.hid (above HB.out (above hb hb2))
        have HK2 : Hid (R = orI (cmpR x y) (cmpL cmpR (xs.drop (k + 1)) (ys.drop (k + 1)))) := by
          have := HK.out
          rw [cmpL_drop cmpR k xs ys (by rw [← HL.out]; exact hlt) (by rw [← HL'.out]; exact hlt') x y HX.out.1 HX.out.2] at this
          exact this
        clear hA hB hb hb2 LB A0 A1 A2 A3 B0 B1 B2 B3
        generalize cmpR x y = C at *
        by_cases hC : C = 0
        · subst hC
          go_wp2_with fail
          go_roundw
          case rel => exact ⟨k + 1, by omega, by omega, by go_num, by rw [HK2.out]; exact orI_zero, HB2.out⟩
          case measure => simp [intOf]; omega
        · have hC' : (C != 0) = true := by simp [hC]
          have HCC := Lib.hid hC
          clear hC
          go_wp2_with fail
          go_ret
          exact ⟨ret_int (by rw [HK2.out, orI_ne HCC.out]), HB2.out⟩
      · obtain ⟨x, hx⟩ : ∃ x, xs[k]? = some x := ⟨_, List.getElem?_eq_getElem (by rw [← HL.out]; exact hlt)⟩
        obtain ⟨b, o, rfl, cs, hl, hcs, hRx⟩ := (G1.out k x hx).keep HB.out (fun _ _ h => h)
        obtain ⟨rfl, hRx1⟩ := hRx
        have A0 : wr.cell? ⟨b, o + k * 4, none⟩ = some (.int .i64 x.num) := hcs 0 _ rfl
        have A1 : wr.cell? ⟨b, o + k * 4 + 1, none⟩ = some (.int .i64 x.wire) := by rw [Nat.add_assoc]; exact hcs 1 _ rfl
        have A2 : wr.cell? ⟨b, o + k * 4 + 2, none⟩ = some (.int .u64 x.bits) := by rw [Nat.add_assoc]; exact hcs 2 _ rfl
        have A3 : wr.cell? ⟨b, o + k * 4 + 3, none⟩ = some (.string x.data) := by rw [Nat.add_assoc]; exact hcs 3 _ rfl
        clear hcs hx hRx1
        have HG : Hid (R = 1) := Lib.hid (by rw [HK.out]; exact cmpL_more _ k xs ys (by rw [← HL.out]; exact hlt) (by rw [← HL'.out]; omega))
        go_wp2_with fail
        go_ret
        exact ⟨ret_int HG.out.symm, HB.out.alloc HB.out.size _⟩
    · have HG : Hid (R = if L < L' then -1 else 0) := Lib.hid (by rw [HK.out, cmpL_end _ k xs ys (by rw [← HL.out]; omega) (by rw [← HL'.out]; omega), HL.out, HL'.out])
      by_cases hll : L < L'
      · have hd : decide (L < L') = true := by simpa using hll
        go_wp2_with fail
        go_ret
        exact ⟨ret_int (by rw [HG.out, if_pos hll]), HB.out⟩
      · have hd : decide (L < L') = false := by simpa using hll
        go_wp2_with fail
        go_ret
        exact ⟨ret_int (by rw [HG.out, if_neg hll]), HB.out⟩
end Go.Proofs.YtlgpoapedgodoaaDoor
