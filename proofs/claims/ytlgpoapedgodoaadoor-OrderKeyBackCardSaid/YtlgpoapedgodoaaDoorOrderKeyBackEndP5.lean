/- Part 6 of the texts that prove OrderKeyBackEnd. -/
import Derived.Test.YtlgpoapedgodoaaDoorOrderKeyBackEndP0
import Derived.Test.YtlgpoapedgodoaaDoorOrderKeyBackEndP4
import Derived.Test.YtlgpoapedgodoaaDoorOrderKeyBackEndP1
import Derived.Test.YtlgpoapedgodoaaDoorOrderKeyBackEndP2
import Derived.Deep.DeepCutAuto
import Derived.Test.YtlgpoapedgodoaaDoorOrderKeyBackEndP3

/- slices.CompareFunc over lists of values. -/
namespace Go.Proofs.YtlgpoapedgodoaaDoor
open Go.RowKit

set_option maxRecDepth 8000 in
set_option maxHeartbeats 2000000 in
theorem cfl_ok (n : Nat) (HC : Hid (OCmp n)) (v1 v2 : Value) (xs ys : List (VT n)) (w : World) (h1 : RowAt 7 (RVal n) w v1 xs) (h2 : RowAt 7 (RVal n) w v2 ys) :
    Calls Tryd.prog 37 #[v1, v2, .func (.func 13) #[] #[]] w fun e w' => e = .returned (.int .i64 (cmpL (cmpV n) xs ys)) ∧ Below w.heap.size w w' := by
  obtain ⟨ao, c, rfl, hc, hm, g1⟩ := h1.opened
  obtain ⟨ao', c', rfl, hc', hm', g2⟩ := h2.opened
  obtain ⟨L, HL⟩ : ∃ L, Hid (L = xs.length) := ⟨_, Lib.hid rfl⟩
  obtain ⟨L', HL'⟩ : ∃ L, Hid (L = ys.length) := ⟨_, Lib.hid rfl⟩
  rw [← HL.out] at hc
  rw [← HL'.out] at hc'
  rw [← HL.out, ← HL'.out]
  obtain ⟨R, HR⟩ : ∃ R : Int, Hid (R = cmpL (cmpV n) xs ys) := ⟨_, Lib.hid rfl⟩
  rw [← HR.out]
  have G1 := Lib.hid g1
  have G2 := Lib.hid g2
  clear g1 g2 h1 h2
  unfold maxLen at hm hm'
  go_enter Tryd.func37, Tryd.ntmps37
  go_wp2_with fail
  go_loopw [7, 8, 9, 10, 13] (fun _ _ _ _ t wr => ∃ k : Nat, k ≤ L ∧ k ≤ L' ∧ t = .int .i64 k ∧ Hid (R = cmpL (cmpV n) (xs.drop k) (ys.drop k)) ∧ Below w.heap.size w wr) (fun _ _ _ _ t _ => L - (intOf t).toNat)
  case atStart => exact ⟨0, Nat.zero_le _, Nat.zero_le _, rfl, HR, Below.refl _ _⟩
  case round =>
    obtain ⟨k, hk, hk', rfl, HK, hb⟩ := hrel
    have HB := Lib.hid hb
    clear hb
    by_cases hlt : k < L
    · by_cases hlt' : k < L'
      · obtain ⟨x, hx⟩ : ∃ x, xs[k]? = some x := ⟨_, List.getElem?_eq_getElem (by rw [← HL.out]; exact hlt)⟩
        obtain ⟨y, hy⟩ : ∃ y, ys[k]? = some y := ⟨_, List.getElem?_eq_getElem (by rw [← HL'.out]; exact hlt')⟩
        obtain ⟨b, o, rfl, cs, hl, hcs, hRx⟩ := (G1.out k x hx).keep HB.out (fun _ _ h => RVal.keep HB.out n _ _ h)
        obtain ⟨b', o', rfl, cs', hl', hcs', hRy⟩ := (G2.out k y hy).keep HB.out (fun _ _ h => RVal.keep HB.out n _ _ h)
        obtain ⟨ek, ez, et, d1, l1, c1, d2, l2, c2, d3, l3, c3, d4, l4, c4, rfl⟩ := hRx.seven
        obtain ⟨ek', ez', et', d1', l1', c1', d2', l2', c2', d3', l3', c3', d4', l4', c4', rfl⟩ := hRy.seven
        have A0 : wr.cell? ⟨b, o + k * 7, none⟩ = some (.int .i64 ek) := hcs 0 _ rfl
        have A1 : wr.cell? ⟨b, o + k * 7 + 1, none⟩ = some (.int .u64 ez) := by rw [Nat.add_assoc]; exact hcs 1 _ rfl
        have A2 : wr.cell? ⟨b, o + k * 7 + 2, none⟩ = some (.string et) := by rw [Nat.add_assoc]; exact hcs 2 _ rfl
        have A3 : wr.cell? ⟨b, o + k * 7 + 3, none⟩ = some (.slice d1 l1 c1) := by rw [Nat.add_assoc]; exact hcs 3 _ rfl
        have A4 : wr.cell? ⟨b, o + k * 7 + 4, none⟩ = some (.slice d2 l2 c2) := by rw [Nat.add_assoc]; exact hcs 4 _ rfl
        have A5 : wr.cell? ⟨b, o + k * 7 + 5, none⟩ = some (.slice d3 l3 c3) := by rw [Nat.add_assoc]; exact hcs 5 _ rfl
        have A6 : wr.cell? ⟨b, o + k * 7 + 6, none⟩ = some (.slice d4 l4 c4) := by rw [Nat.add_assoc]; exact hcs 6 _ rfl
        have LB : b' < wr.heap.size := World.block_lt_of_cell? _ _ (hcs' 0 _ rfl)
        have B0 : wr.cell? ⟨b', o' + k * 7, none⟩ = some (.int .i64 ek') := hcs' 0 _ rfl
        have B1 : wr.cell? ⟨b', o' + k * 7 + 1, none⟩ = some (.int .u64 ez') := by rw [Nat.add_assoc]; exact hcs' 1 _ rfl
        have B2 : wr.cell? ⟨b', o' + k * 7 + 2, none⟩ = some (.string et') := by rw [Nat.add_assoc]; exact hcs' 2 _ rfl
        have B3 : wr.cell? ⟨b', o' + k * 7 + 3, none⟩ = some (.slice d1' l1' c1') := by rw [Nat.add_assoc]; exact hcs' 3 _ rfl
        have B4 : wr.cell? ⟨b', o' + k * 7 + 4, none⟩ = some (.slice d2' l2' c2') := by rw [Nat.add_assoc]; exact hcs' 4 _ rfl
        have B5 : wr.cell? ⟨b', o' + k * 7 + 5, none⟩ = some (.slice d3' l3' c3') := by rw [Nat.add_assoc]; exact hcs' 5 _ rfl
        have B6 : wr.cell? ⟨b', o' + k * 7 + 6, none⟩ = some (.slice d4' l4' c4') := by rw [Nat.add_assoc]; exact hcs' 6 _ rfl
        have HRx := Lib.hid hRx
        have HRy := Lib.hid hRy
        clear hcs hcs'
        have HX := Lib.hid (And.intro hx hy)
        clear hx hy hRx hRy
        go_wp2_with fail
        refine calls_box2 ?_
        intro W hA hB hb
        refine calls_on (HC.out _ _ x y _ ⟨_, _, _, _, _, _, _, _, _, _, _, _, _, _, _, rfl, RVal.keep hb n _ _ HRx.out⟩ ⟨_, _, _, _, _, _, _, _, _, _, _, _, _, _, _, rfl, RVal.keep hb n _ _ HRy.out⟩) ?_
        intro w2 hb2
        have HB2 := Lib.hid (above HB.out (above hb hb2))
        have HK2 : Hid (R = orI ((cmpV n) x y) (cmpL (cmpV n) (xs.drop (k + 1)) (ys.drop (k + 1)))) := by
          have := HK.out
          rw [cmpL_drop (cmpV n) k xs ys (by rw [← HL.out]; exact hlt) (by rw [← HL'.out]; exact hlt') x y HX.out.1 HX.out.2] at this
          exact this
        clear hA hB hb hb2 LB A0 A1 A2 A3 A4 A5 A6 B0 B1 B2 B3 B4 B5 B6
        generalize (cmpV n) x y = C at *
        by_cases hC : C = 0
        · subst hC
          go_wp2_with fail
          go_roundw
          case rel => exact ⟨k + 1, by omega, by omega, by go_num, by rw [HK2.out]; exact orI_zero, HB2.out⟩
          case measure => simp [intOf]; omega
        · have hC' : (C != 0) = true := by simp [hC]
          have HCC := Lib.hid hC
          clear hC
          go_wp2_with fail
          go_ret
          exact ⟨ret_int (by rw [HK2.out, orI_ne HCC.out]), HB2.out⟩
      · obtain ⟨x, hx⟩ : ∃ x, xs[k]? = some x := ⟨_, List.getElem?_eq_getElem (by rw [← HL.out]; exact hlt)⟩
        obtain ⟨b, o, rfl, cs, hl, hcs, hRx⟩ := (G1.out k x hx).keep HB.out (fun _ _ h => RVal.keep HB.out n _ _ h)
        obtain ⟨ek, ez, et, d1, l1, c1, d2, l2, c2, d3, l3, c3, d4, l4, c4, rfl⟩ := hRx.seven
        have A0 : wr.cell? ⟨b, o + k * 7, none⟩ = some (.int .i64 ek) := hcs 0 _ rfl
        have A1 : wr.cell? ⟨b, o + k * 7 + 1, none⟩ = some (.int .u64 ez) := by rw [Nat.add_assoc]; exact hcs 1 _ rfl
        have A2 : wr.cell? ⟨b, o + k * 7 + 2, none⟩ = some (.string et) := by rw [Nat.add_assoc]; exact hcs 2 _ rfl
        have A3 : wr.cell? ⟨b, o + k * 7 + 3, none⟩ = some (.slice d1 l1 c1) := by rw [Nat.add_assoc]; exact hcs 3 _ rfl
        have A4 : wr.cell? ⟨b, o + k * 7 + 4, none⟩ = some (.slice d2 l2 c2) := by rw [Nat.add_assoc]; exact hcs 4 _ rfl
        have A5 : wr.cell? ⟨b, o + k * 7 + 5, none⟩ = some (.slice d3 l3 c3) := by rw [Nat.add_assoc]; exact hcs 5 _ rfl
        have A6 : wr.cell? ⟨b, o + k * 7 + 6, none⟩ = some (.slice d4 l4 c4) := by rw [Nat.add_assoc]; exact hcs 6 _ rfl
        clear hcs hx hRx
        have HG : Hid (R = 1) := Lib.hid (by rw [HK.out]; exact cmpL_more _ k xs ys (by rw [← HL.out]; exact hlt) (by rw [← HL'.out]; omega))
        go_wp2_with fail
        go_ret
        exact ⟨ret_int HG.out.symm, HB.out.alloc HB.out.size _⟩
    · have HG : Hid (R = if L < L' then -1 else 0) := Lib.hid (by rw [HK.out, cmpL_end _ k xs ys (by rw [← HL.out]; omega) (by rw [← HL'.out]; omega), HL.out, HL'.out])
      by_cases hll : L < L'
      · have hd : decide (L < L') = true := by simpa using hll
        go_wp2_with fail
        go_ret
        exact ⟨ret_int (by rw [HG.out, if_pos hll]), HB.out⟩
      · have hd : decide (L < L') = false := by simpa using hll
        go_wp2_with fail
        go_ret
        exact ⟨ret_int (by rw [HG.out, if_neg hll]), HB.out⟩
end Go.Proofs.YtlgpoapedgodoaaDoor

/- slices.CompareFunc over entries. -/
namespace Go.Proofs.YtlgpoapedgodoaaDoor
open Go.RowKit

set_option maxRecDepth 8000 in
set_option maxHeartbeats 2000000 in
theorem cfp_ok (n : Nat) (HC : Hid (OPair n)) (v1 v2 : Value) (xs ys : List (VT n × VT n)) (w : World) (h1 : RowAt 14 (RPair n) w v1 xs) (h2 : RowAt 14 (RPair n) w v2 ys) :
    Calls Tryd.prog 38 #[v1, v2, .func (.func 39) #[] #[]] w fun e w' => e = .returned (.int .i64 (cmpL (cmpP (cmpV n)) xs ys)) ∧ Below w.heap.size w w' := by
  obtain ⟨ao, c, rfl, hc, hm, g1⟩ := h1.opened
  obtain ⟨ao', c', rfl, hc', hm', g2⟩ := h2.opened
  obtain ⟨L, HL⟩ : ∃ L, Hid (L = xs.length) := ⟨_, Lib.hid rfl⟩
  obtain ⟨L', HL'⟩ : ∃ L, Hid (L = ys.length) := ⟨_, Lib.hid rfl⟩
  rw [← HL.out] at hc
  rw [← HL'.out] at hc'
  rw [← HL.out, ← HL'.out]
  obtain ⟨R, HR⟩ : ∃ R : Int, Hid (R = cmpL (cmpP (cmpV n)) xs ys) := ⟨_, Lib.hid rfl⟩
  rw [← HR.out]
  have G1 := Lib.hid g1
  have G2 := Lib.hid g2
  clear g1 g2 h1 h2
  unfold maxLen at hm hm'
  go_enter Tryd.func38, Tryd.ntmps38
  go_wp2_with fail
  go_loopw [7, 8, 9, 10, 13] (fun _ _ _ _ t wr => ∃ k : Nat, k ≤ L ∧ k ≤ L' ∧ t = .int .i64 k ∧ Hid (R = cmpL (cmpP (cmpV n)) (xs.drop k) (ys.drop k)) ∧ Below w.heap.size w wr) (fun _ _ _ _ t _ => L - (intOf t).toNat)
  case atStart => exact ⟨0, Nat.zero_le _, Nat.zero_le _, rfl, HR, Below.refl _ _⟩
  case round =>
    obtain ⟨k, hk, hk', rfl, HK, hb⟩ := hrel
    have HB := Lib.hid hb
    clear hb
    by_cases hlt : k < L
    · by_cases hlt' : k < L'
      · obtain ⟨x, hx⟩ : ∃ x, xs[k]? = some x := ⟨_, List.getElem?_eq_getElem (by rw [← HL.out]; exact hlt)⟩
        obtain ⟨y, hy⟩ : ∃ y, ys[k]? = some y := ⟨_, List.getElem?_eq_getElem (by rw [← HL'.out]; exact hlt')⟩
        obtain ⟨b, o, rfl, cs, hl, hcs, hRx⟩ := (G1.out k x hx).keep HB.out (fun _ _ h => RPair.keep HB.out h)
        obtain ⟨b', o', rfl, cs', hl', hcs', hRy⟩ := (G2.out k y hy).keep HB.out (fun _ _ h => RPair.keep HB.out h)
        obtain ⟨q1, q2, rfl, hRx1, hRx2⟩ := hRx
        obtain ⟨ekx, ezx, etx, d1x, l1x, c1x, d2x, l2x, c2x, d3x, l3x, c3x, d4x, l4x, c4x, rfl⟩ := hRx1.seven
        obtain ⟨eky, ezy, ety, d1y, l1y, c1y, d2y, l2y, c2y, d3y, l3y, c3y, d4y, l4y, c4y, rfl⟩ := hRx2.seven
        obtain ⟨q1', q2', rfl, hRy1, hRy2⟩ := hRy
        obtain ⟨ekx', ezx', etx', d1x', l1x', c1x', d2x', l2x', c2x', d3x', l3x', c3x', d4x', l4x', c4x', rfl⟩ := hRy1.seven
        obtain ⟨eky', ezy', ety', d1y', l1y', c1y', d2y', l2y', c2y', d3y', l3y', c3y', d4y', l4y', c4y', rfl⟩ := hRy2.seven
        have A0 : wr.cell? ⟨b, o + k * 14, none⟩ = some (.int .i64 ekx) := hcs 0 _ rfl
        have A1 : wr.cell? ⟨b, o + k * 14 + 1, none⟩ = some (.int .u64 ezx) := by rw [Nat.add_assoc]; exact hcs 1 _ rfl
        have A2 : wr.cell? ⟨b, o + k * 14 + 2, none⟩ = some (.string etx) := by rw [Nat.add_assoc]; exact hcs 2 _ rfl
        have A3 : wr.cell? ⟨b, o + k * 14 + 3, none⟩ = some (.slice d1x l1x c1x) := by rw [Nat.add_assoc]; exact hcs 3 _ rfl
        have A4 : wr.cell? ⟨b, o + k * 14 + 4, none⟩ = some (.slice d2x l2x c2x) := by rw [Nat.add_assoc]; exact hcs 4 _ rfl
        have A5 : wr.cell? ⟨b, o + k * 14 + 5, none⟩ = some (.slice d3x l3x c3x) := by rw [Nat.add_assoc]; exact hcs 5 _ rfl
        have A6 : wr.cell? ⟨b, o + k * 14 + 6, none⟩ = some (.slice d4x l4x c4x) := by rw [Nat.add_assoc]; exact hcs 6 _ rfl
        have A7 : wr.cell? ⟨b, o + k * 14 + 7, none⟩ = some (.int .i64 eky) := by rw [Nat.add_assoc]; exact hcs 7 _ rfl
        have A8 : wr.cell? ⟨b, o + k * 14 + 8, none⟩ = some (.int .u64 ezy) := by rw [Nat.add_assoc]; exact hcs 8 _ rfl
        have A9 : wr.cell? ⟨b, o + k * 14 + 9, none⟩ = some (.string ety) := by rw [Nat.add_assoc]; exact hcs 9 _ rfl
        have A10 : wr.cell? ⟨b, o + k * 14 + 10, none⟩ = some (.slice d1y l1y c1y) := by rw [Nat.add_assoc]; exact hcs 10 _ rfl
        have A11 : wr.cell? ⟨b, o + k * 14 + 11, none⟩ = some (.slice d2y l2y c2y) := by rw [Nat.add_assoc]; exact hcs 11 _ rfl
        have A12 : wr.cell? ⟨b, o + k * 14 + 12, none⟩ = some (.slice d3y l3y c3y) := by rw [Nat.add_assoc]; exact hcs 12 _ rfl
        have A13 : wr.cell? ⟨b, o + k * 14 + 13, none⟩ = some (.slice d4y l4y c4y) := by rw [Nat.add_assoc]; exact hcs 13 _ rfl
        have LB : b' < wr.heap.size := World.block_lt_of_cell? _ _ (hcs' 0 _ rfl)
        have B0 : wr.cell? ⟨b', o' + k * 14, none⟩ = some (.int .i64 ekx') := hcs' 0 _ rfl
        have B1 : wr.cell? ⟨b', o' + k * 14 + 1, none⟩ = some (.int .u64 ezx') := by rw [Nat.add_assoc]; exact hcs' 1 _ rfl
        have B2 : wr.cell? ⟨b', o' + k * 14 + 2, none⟩ = some (.string etx') := by rw [Nat.add_assoc]; exact hcs' 2 _ rfl
        have B3 : wr.cell? ⟨b', o' + k * 14 + 3, none⟩ = some (.slice d1x' l1x' c1x') := by rw [Nat.add_assoc]; exact hcs' 3 _ rfl
        have B4 : wr.cell? ⟨b', o' + k * 14 + 4, none⟩ = some (.slice d2x' l2x' c2x') := by rw [Nat.add_assoc]; exact hcs' 4 _ rfl
        have B5 : wr.cell? ⟨b', o' + k * 14 + 5, none⟩ = some (.slice d3x' l3x' c3x') := by rw [Nat.add_assoc]; exact hcs' 5 _ rfl
        have B6 : wr.cell? ⟨b', o' + k * 14 + 6, none⟩ = some (.slice d4x' l4x' c4x') := by rw [Nat.add_assoc]; exact hcs' 6 _ rfl
        have B7 : wr.cell? ⟨b', o' + k * 14 + 7, none⟩ = some (.int .i64 eky') := by rw [Nat.add_assoc]; exact hcs' 7 _ rfl
        have B8 : wr.cell? ⟨b', o' + k * 14 + 8, none⟩ = some (.int .u64 ezy') := by rw [Nat.add_assoc]; exact hcs' 8 _ rfl
        have B9 : wr.cell? ⟨b', o' + k * 14 + 9, none⟩ = some (.string ety') := by rw [Nat.add_assoc]; exact hcs' 9 _ rfl
        have B10 : wr.cell? ⟨b', o' + k * 14 + 10, none⟩ = some (.slice d1y' l1y' c1y') := by rw [Nat.add_assoc]; exact hcs' 10 _ rfl
        have B11 : wr.cell? ⟨b', o' + k * 14 + 11, none⟩ = some (.slice d2y' l2y' c2y') := by rw [Nat.add_assoc]; exact hcs' 11 _ rfl
        have B12 : wr.cell? ⟨b', o' + k * 14 + 12, none⟩ = some (.slice d3y' l3y' c3y') := by rw [Nat.add_assoc]; exact hcs' 12 _ rfl
        have B13 : wr.cell? ⟨b', o' + k * 14 + 13, none⟩ = some (.slice d4y' l4y' c4y') := by rw [Nat.add_assoc]; exact hcs' 13 _ rfl
        have HRx1 := Lib.hid hRx1
        have HRx2 := Lib.hid hRx2
        have HRy1 := Lib.hid hRy1
        have HRy2 := Lib.hid hRy2
        clear hcs hcs'
        have HX := Lib.hid (And.intro hx hy)
        clear hx hy hRx1 hRx2 hRy1 hRy2
        go_wp2_with fail
        refine calls_box2 ?_
        intro W hA hB hb
        refine calls_on (HC.out _ _ x y _ ⟨_, _, _, _, _, _, _, _, _, _, _, _, _, _, _, _, _, _, _, _, _, _, _, _, _, _, _, _, _, _, rfl, RVal.keep hb n _ _ HRx1.out, RVal.keep hb n _ _ HRx2.out⟩ ⟨_, _, _, _, _, _, _, _, _, _, _, _, _, _, _, _, _, _, _, _, _, _, _, _, _, _, _, _, _, _, rfl, RVal.keep hb n _ _ HRy1.out, RVal.keep hb n _ _ HRy2.out⟩) ?_
        intro w2 hb2
        have HB2 := Lib.hid (above HB.out (above hb hb2))
        have HK2 : Hid (R = orI ((cmpP (cmpV n)) x y) (cmpL (cmpP (cmpV n)) (xs.drop (k + 1)) (ys.drop (k + 1)))) := by
          have := HK.out
          rw [cmpL_drop (cmpP (cmpV n)) k xs ys (by rw [← HL.out]; exact hlt) (by rw [← HL'.out]; exact hlt') x y HX.out.1 HX.out.2] at this
          exact this
        clear hA hB hb hb2 LB A0 A1 A2 A3 A4 A5 A6 A7 A8 A9 A10 A11 A12 A13 B0 B1 B2 B3 B4 B5 B6 B7 B8 B9 B10 B11 B12 B13
        generalize (cmpP (cmpV n)) x y = C at *
        by_cases hC : C = 0
        · subst hC
          go_wp2_with fail
          go_roundw
          case rel => exact ⟨k + 1, by omega, by omega, by go_num, by rw [HK2.out]; exact orI_zero, HB2.out⟩
          case measure => simp [intOf]; omega
        · have hC' : (C != 0) = true := by simp [hC]
          have HCC := Lib.hid hC
          clear hC
          go_wp2_with fail
          go_ret
          exact ⟨ret_int (by rw [HK2.out, orI_ne HCC.out]), HB2.out⟩
      · obtain ⟨x, hx⟩ : ∃ x, xs[k]? = some x := ⟨_, List.getElem?_eq_getElem (by rw [← HL.out]; exact hlt)⟩
        obtain ⟨b, o, rfl, cs, hl, hcs, hRx⟩ := (G1.out k x hx).keep HB.out (fun _ _ h => RPair.keep HB.out h)
        obtain ⟨q1, q2, rfl, hRx1, hRx2⟩ := hRx
        obtain ⟨ekx, ezx, etx, d1x, l1x, c1x, d2x, l2x, c2x, d3x, l3x, c3x, d4x, l4x, c4x, rfl⟩ := hRx1.seven
        obtain ⟨eky, ezy, ety, d1y, l1y, c1y, d2y, l2y, c2y, d3y, l3y, c3y, d4y, l4y, c4y, rfl⟩ := hRx2.seven
        have A0 : wr.cell? ⟨b, o + k * 14, none⟩ = some (.int .i64 ekx) := hcs 0 _ rfl
        have A1 : wr.cell? ⟨b, o + k * 14 + 1, none⟩ = some (.int .u64 ezx) := by rw [Nat.add_assoc]; exact hcs 1 _ rfl
        have A2 : wr.cell? ⟨b, o + k * 14 + 2, none⟩ = some (.string etx) := by rw [Nat.add_assoc]; exact hcs 2 _ rfl
        have A3 : wr.cell? ⟨b, o + k * 14 + 3, none⟩ = some (.slice d1x l1x c1x) := by rw [Nat.add_assoc]; exact hcs 3 _ rfl
        have A4 : wr.cell? ⟨b, o + k * 14 + 4, none⟩ = some (.slice d2x l2x c2x) := by rw [Nat.add_assoc]; exact hcs 4 _ rfl
        have A5 : wr.cell? ⟨b, o + k * 14 + 5, none⟩ = some (.slice d3x l3x c3x) := by rw [Nat.add_assoc]; exact hcs 5 _ rfl
        have A6 : wr.cell? ⟨b, o + k * 14 + 6, none⟩ = some (.slice d4x l4x c4x) := by rw [Nat.add_assoc]; exact hcs 6 _ rfl
        have A7 : wr.cell? ⟨b, o + k * 14 + 7, none⟩ = some (.int .i64 eky) := by rw [Nat.add_assoc]; exact hcs 7 _ rfl
        have A8 : wr.cell? ⟨b, o + k * 14 + 8, none⟩ = some (.int .u64 ezy) := by rw [Nat.add_assoc]; exact hcs 8 _ rfl
        have A9 : wr.cell? ⟨b, o + k * 14 + 9, none⟩ = some (.string ety) := by rw [Nat.add_assoc]; exact hcs 9 _ rfl
        have A10 : wr.cell? ⟨b, o + k * 14 + 10, none⟩ = some (.slice d1y l1y c1y) := by rw [Nat.add_assoc]; exact hcs 10 _ rfl
        have A11 : wr.cell? ⟨b, o + k * 14 + 11, none⟩ = some (.slice d2y l2y c2y) := by rw [Nat.add_assoc]; exact hcs 11 _ rfl
        have A12 : wr.cell? ⟨b, o + k * 14 + 12, none⟩ = some (.slice d3y l3y c3y) := by rw [Nat.add_assoc]; exact hcs 12 _ rfl
        have A13 : wr.cell? ⟨b, o + k * 14 + 13, none⟩ = some (.slice d4y l4y c4y) := by rw [Nat.add_assoc]; exact hcs 13 _ rfl
        clear hcs hx hRx1 hRx2
        have HG : Hid (R = 1) := Lib.hid (by rw [HK.out]; exact cmpL_more _ k xs ys (by rw [← HL.out]; exact hlt) (by rw [← HL'.out]; omega))
        go_wp2_with fail
        go_ret
        exact ⟨ret_int HG.out.symm, HB.out.alloc HB.out.size _⟩
    · have HG : Hid (R = if L < L' then -1 else 0) := Lib.hid (by rw [HK.out, cmpL_end _ k xs ys (by rw [← HL.out]; omega) (by rw [← HL'.out]; omega), HL.out, HL'.out])
      by_cases hll : L < L'
      · have hd : decide (L < L') = true := by simpa using hll
        go_wp2_with fail
        go_ret
        exact ⟨ret_int (by rw [HG.out, if_pos hll]), HB.out⟩
      · have hd : decide (L < L') = false := by simpa using hll
        go_wp2_with fail
        go_ret
        exact ⟨ret_int (by rw [HG.out, if_neg hll]), HB.out⟩
end Go.Proofs.YtlgpoapedgodoaaDoor

/- slices.CompareFunc over slots. -/
namespace Go.Proofs.YtlgpoapedgodoaaDoor
open Go.RowKit

set_option maxRecDepth 8000 in
set_option maxHeartbeats 2000000 in
theorem cfs_ok (n : Nat) (HC : Hid (OSlot n)) (v1 v2 : Value) (xs ys : List (Int × VT n)) (w : World) (h1 : RowAt 8 (RSlot n) w v1 xs) (h2 : RowAt 8 (RSlot n) w v2 ys) :
    Calls Tryd.prog 41 #[v1, v2, .func (.func 42) #[] #[]] w fun e w' => e = .returned (.int .i64 (cmpL (cmpS (cmpV n)) xs ys)) ∧ Below w.heap.size w w' := by
  obtain ⟨ao, c, rfl, hc, hm, g1⟩ := h1.opened
  obtain ⟨ao', c', rfl, hc', hm', g2⟩ := h2.opened
  obtain ⟨L, HL⟩ : ∃ L, Hid (L = xs.length) := ⟨_, Lib.hid rfl⟩
  obtain ⟨L', HL'⟩ : ∃ L, Hid (L = ys.length) := ⟨_, Lib.hid rfl⟩
  rw [← HL.out] at hc
  rw [← HL'.out] at hc'
  rw [← HL.out, ← HL'.out]
  obtain ⟨R, HR⟩ : ∃ R : Int, Hid (R = cmpL (cmpS (cmpV n)) xs ys) := ⟨_, Lib.hid rfl⟩
  rw [← HR.out]
  have G1 := Lib.hid g1
  have G2 := Lib.hid g2
  clear g1 g2 h1 h2
  unfold maxLen at hm hm'
  go_enter Tryd.func41, Tryd.ntmps41
  go_wp2_with fail
  go_loopw [7, 8, 9, 10, 13] (fun _ _ _ _ t wr => ∃ k : Nat, k ≤ L ∧ k ≤ L' ∧ t = .int .i64 k ∧ Hid (R = cmpL (cmpS (cmpV n)) (xs.drop k) (ys.drop k)) ∧ Below w.heap.size w wr) (fun _ _ _ _ t _ => L - (intOf t).toNat)
  case atStart => exact ⟨0, Nat.zero_le _, Nat.zero_le _, rfl, HR, Below.refl _ _⟩
  case round =>
    obtain ⟨k, hk, hk', rfl, HK, hb⟩ := hrel
    have HB := Lib.hid hb
    clear hb
    by_cases hlt : k < L
    · by_cases hlt' : k < L'
      · obtain ⟨x, hx⟩ : ∃ x, xs[k]? = some x := ⟨_, List.getElem?_eq_getElem (by rw [← HL.out]; exact hlt)⟩
        obtain ⟨y, hy⟩ : ∃ y, ys[k]? = some y := ⟨_, List.getElem?_eq_getElem (by rw [← HL'.out]; exact hlt')⟩
        obtain ⟨b, o, rfl, cs, hl, hcs, hRx⟩ := (G1.out k x hx).keep HB.out (fun _ _ h => RSlot.keep HB.out h)
        obtain ⟨b', o', rfl, cs', hl', hcs', hRy⟩ := (G2.out k y hy).keep HB.out (fun _ _ h => RSlot.keep HB.out h)
        obtain ⟨q2, rfl, hRx1, hRx2⟩ := hRx
        obtain ⟨eky, ezy, ety, d1y, l1y, c1y, d2y, l2y, c2y, d3y, l3y, c3y, d4y, l4y, c4y, rfl⟩ := hRx2.seven
        obtain ⟨q2', rfl, hRy1, hRy2⟩ := hRy
        obtain ⟨eky', ezy', ety', d1y', l1y', c1y', d2y', l2y', c2y', d3y', l3y', c3y', d4y', l4y', c4y', rfl⟩ := hRy2.seven
        have A0 : wr.cell? ⟨b, o + k * 8, none⟩ = some (.int .i64 x.1) := hcs 0 _ rfl
        have A1 : wr.cell? ⟨b, o + k * 8 + 1, none⟩ = some (.int .i64 eky) := by rw [Nat.add_assoc]; exact hcs 1 _ rfl
        have A2 : wr.cell? ⟨b, o + k * 8 + 2, none⟩ = some (.int .u64 ezy) := by rw [Nat.add_assoc]; exact hcs 2 _ rfl
        have A3 : wr.cell? ⟨b, o + k * 8 + 3, none⟩ = some (.string ety) := by rw [Nat.add_assoc]; exact hcs 3 _ rfl
        have A4 : wr.cell? ⟨b, o + k * 8 + 4, none⟩ = some (.slice d1y l1y c1y) := by rw [Nat.add_assoc]; exact hcs 4 _ rfl
        have A5 : wr.cell? ⟨b, o + k * 8 + 5, none⟩ = some (.slice d2y l2y c2y) := by rw [Nat.add_assoc]; exact hcs 5 _ rfl
        have A6 : wr.cell? ⟨b, o + k * 8 + 6, none⟩ = some (.slice d3y l3y c3y) := by rw [Nat.add_assoc]; exact hcs 6 _ rfl
        have A7 : wr.cell? ⟨b, o + k * 8 + 7, none⟩ = some (.slice d4y l4y c4y) := by rw [Nat.add_assoc]; exact hcs 7 _ rfl
        have LB : b' < wr.heap.size := World.block_lt_of_cell? _ _ (hcs' 0 _ rfl)
        have B0 : wr.cell? ⟨b', o' + k * 8, none⟩ = some (.int .i64 y.1) := hcs' 0 _ rfl
        have B1 : wr.cell? ⟨b', o' + k * 8 + 1, none⟩ = some (.int .i64 eky') := by rw [Nat.add_assoc]; exact hcs' 1 _ rfl
        have B2 : wr.cell? ⟨b', o' + k * 8 + 2, none⟩ = some (.int .u64 ezy') := by rw [Nat.add_assoc]; exact hcs' 2 _ rfl
        have B3 : wr.cell? ⟨b', o' + k * 8 + 3, none⟩ = some (.string ety') := by rw [Nat.add_assoc]; exact hcs' 3 _ rfl
        have B4 : wr.cell? ⟨b', o' + k * 8 + 4, none⟩ = some (.slice d1y' l1y' c1y') := by rw [Nat.add_assoc]; exact hcs' 4 _ rfl
        have B5 : wr.cell? ⟨b', o' + k * 8 + 5, none⟩ = some (.slice d2y' l2y' c2y') := by rw [Nat.add_assoc]; exact hcs' 5 _ rfl
        have B6 : wr.cell? ⟨b', o' + k * 8 + 6, none⟩ = some (.slice d3y' l3y' c3y') := by rw [Nat.add_assoc]; exact hcs' 6 _ rfl
        have B7 : wr.cell? ⟨b', o' + k * 8 + 7, none⟩ = some (.slice d4y' l4y' c4y') := by rw [Nat.add_assoc]; exact hcs' 7 _ rfl
        have HRx1 := Lib.hid hRx1
        have HRx2 := Lib.hid hRx2
        have HRy1 := Lib.hid hRy1
        have HRy2 := Lib.hid hRy2
        clear hcs hcs'
        have HX := Lib.hid (And.intro hx hy)
        clear hx hy hRx1 hRx2 hRy1 hRy2
        go_wp2_with fail
        refine calls_box2 ?_
        intro W hA hB hb
        refine calls_on (HC.out _ _ x y _ ⟨_, _, _, _, _, _, _, _, _, _, _, _, _, _, _, rfl, HRx1.out, RVal.keep hb n _ _ HRx2.out⟩ ⟨_, _, _, _, _, _, _, _, _, _, _, _, _, _, _, rfl, HRy1.out, RVal.keep hb n _ _ HRy2.out⟩) ?_
        intro w2 hb2
        have HB2 := Lib.hid (above HB.out (above hb hb2))
        have HK2 : Hid (R = orI ((cmpS (cmpV n)) x y) (cmpL (cmpS (cmpV n)) (xs.drop (k + 1)) (ys.drop (k + 1)))) := by
          have := HK.out
          rw [cmpL_drop (cmpS (cmpV n)) k xs ys (by rw [← HL.out]; exact hlt) (by rw [← HL'.out]; exact hlt') x y HX.out.1 HX.out.2] at this
          exact this
        clear hA hB hb hb2 LB A0 A1 A2 A3 A4 A5 A6 A7 B0 B1 B2 B3 B4 B5 B6 B7
        generalize (cmpS (cmpV n)) x y = C at *
        by_cases hC : C = 0
        · subst hC
          go_wp2_with fail
          go_roundw
          case rel => exact ⟨k + 1, by omega, by omega, by go_num, by rw [HK2.out]; exact orI_zero, HB2.out⟩
          case measure => simp [intOf]; omega
        · have hC' : (C != 0) = true := by simp [hC]
          have HCC := Lib.hid hC
          clear hC
          go_wp2_with fail
          go_ret
          exact ⟨ret_int (by rw [HK2.out, orI_ne HCC.out]), HB2.out⟩
      · obtain ⟨x, hx⟩ : ∃ x, xs[k]? = some x := ⟨_, List.getElem?_eq_getElem (by rw [← HL.out]; exact hlt)⟩
        obtain ⟨b, o, rfl, cs, hl, hcs, hRx⟩ := (G1.out k x hx).keep HB.out (fun _ _ h => RSlot.keep HB.out h)
        obtain ⟨q2, rfl, hRx1, hRx2⟩ := hRx
        obtain ⟨eky, ezy, ety, d1y, l1y, c1y, d2y, l2y, c2y, d3y, l3y, c3y, d4y, l4y, c4y, rfl⟩ := hRx2.seven
        have A0 : wr.cell? ⟨b, o + k * 8, none⟩ = some (.int .i64 x.1) := hcs 0 _ rfl
        have A1 : wr.cell? ⟨b, o + k * 8 + 1, none⟩ = some (.int .i64 eky) := by rw [Nat.add_assoc]; exact hcs 1 _ rfl
        have A2 : wr.cell? ⟨b, o + k * 8 + 2, none⟩ = some (.int .u64 ezy) := by rw [Nat.add_assoc]; exact hcs 2 _ rfl
        have A3 : wr.cell? ⟨b, o + k * 8 + 3, none⟩ = some (.string ety) := by rw [Nat.add_assoc]; exact hcs 3 _ rfl
        have A4 : wr.cell? ⟨b, o + k * 8 + 4, none⟩ = some (.slice d1y l1y c1y) := by rw [Nat.add_assoc]; exact hcs 4 _ rfl
        have A5 : wr.cell? ⟨b, o + k * 8 + 5, none⟩ = some (.slice d2y l2y c2y) := by rw [Nat.add_assoc]; exact hcs 5 _ rfl
        have A6 : wr.cell? ⟨b, o + k * 8 + 6, none⟩ = some (.slice d3y l3y c3y) := by rw [Nat.add_assoc]; exact hcs 6 _ rfl
        have A7 : wr.cell? ⟨b, o + k * 8 + 7, none⟩ = some (.slice d4y l4y c4y) := by rw [Nat.add_assoc]; exact hcs 7 _ rfl
        clear hcs hx hRx1 hRx2
        have HG : Hid (R = 1) := Lib.hid (by rw [HK.out]; exact cmpL_more _ k xs ys (by rw [← HL.out]; exact hlt) (by rw [← HL'.out]; omega))
        go_wp2_with fail
        go_ret
        exact ⟨ret_int HG.out.symm, HB.out.alloc HB.out.size _⟩
    · have HG : Hid (R = if L < L' then -1 else 0) := Lib.hid (by rw [HK.out, cmpL_end _ k xs ys (by rw [← HL.out]; omega) (by rw [← HL'.out]; omega), HL.out, HL'.out])
      by_cases hll : L < L'
      · have hd : decide (L < L') = true := by simpa using hll
        go_wp2_with fail
        go_ret
        exact ⟨ret_int (by rw [HG.out, if_pos hll]), HB.out⟩
      · have hd : decide (L < L') = false := by simpa using hll
        go_wp2_with fail
        go_ret
        exact ⟨ret_int (by rw [HG.out, if_neg hll]), HB.out⟩
end Go.Proofs.YtlgpoapedgodoaaDoor

/- slices.CompareFunc over unknown fields. -/
namespace Go.Proofs.YtlgpoapedgodoaaDoor
open Go.RowKit

set_option maxRecDepth 8000 in
set_option maxHeartbeats 2000000 in
theorem cfr_ok (HC : Hid (ORaw)) (v1 v2 : Value) (xs ys : List (RawT)) (w : World) (h1 : RowAt 4 RRaw w v1 xs) (h2 : RowAt 4 RRaw w v2 ys) :
    Calls Tryd.prog 43 #[v1, v2, .func (.func 44) #[] #[]] w fun e w' => e = .returned (.int .i64 (cmpL cmpR xs ys)) ∧ Below w.heap.size w w' := by
  obtain ⟨ao, c, rfl, hc, hm, g1⟩ := h1.opened
  obtain ⟨ao', c', rfl, hc', hm', g2⟩ := h2.opened
  obtain ⟨L, HL⟩ : ∃ L, Hid (L = xs.length) := ⟨_, Lib.hid rfl⟩
  obtain ⟨L', HL'⟩ : ∃ L, Hid (L = ys.length) := ⟨_, Lib.hid rfl⟩
  rw [← HL.out] at hc
  rw [← HL'.out] at hc'
  rw [← HL.out, ← HL'.out]
  obtain ⟨R, HR⟩ : ∃ R : Int, Hid (R = cmpL cmpR xs ys) := ⟨_, Lib.hid rfl⟩
  rw [← HR.out]
  have G1 := Lib.hid g1
  have G2 := Lib.hid g2
  clear g1 g2 h1 h2
  unfold maxLen at hm hm'
  go_enter Tryd.func43, Tryd.ntmps43
  go_wp2_with fail
  go_loopw [7, 8, 9, 10, 13] (fun _ _ _ _ t wr => ∃ k : Nat, k ≤ L ∧ k ≤ L' ∧ t = .int .i64 k ∧ Hid (R = cmpL cmpR (xs.drop k) (ys.drop k)) ∧ Below w.heap.size w wr) (fun _ _ _ _ t _ => L - (intOf t).toNat)
  case atStart => exact ⟨0, Nat.zero_le _, Nat.zero_le _, rfl, HR, Below.refl _ _⟩
  case round =>
    obtain ⟨k, hk, hk', rfl, HK, hb⟩ := hrel
    have HB := Lib.hid hb
    clear hb
    by_cases hlt : k < L
    · by_cases hlt' : k < L'
      · obtain ⟨x, hx⟩ : ∃ x, xs[k]? = some x := ⟨_, List.getElem?_eq_getElem (by rw [← HL.out]; exact hlt)⟩
        obtain ⟨y, hy⟩ : ∃ y, ys[k]? = some y := ⟨_, List.getElem?_eq_getElem (by rw [← HL'.out]; exact hlt')⟩
        obtain ⟨b, o, rfl, cs, hl, hcs, hRx⟩ := (G1.out k x hx).keep HB.out (fun _ _ h => h)
        obtain ⟨b', o', rfl, cs', hl', hcs', hRy⟩ := (G2.out k y hy).keep HB.out (fun _ _ h => h)
        obtain ⟨rfl, hRx1⟩ := hRx
        obtain ⟨rfl, hRy1⟩ := hRy
        have A0 : wr.cell? ⟨b, o + k * 4, none⟩ = some (.int .i64 x.num) := hcs 0 _ rfl
        have A1 : wr.cell? ⟨b, o + k * 4 + 1, none⟩ = some (.int .i64 x.wire) := by rw [Nat.add_assoc]; exact hcs 1 _ rfl
        have A2 : wr.cell? ⟨b, o + k * 4 + 2, none⟩ = some (.int .u64 x.bits) := by rw [Nat.add_assoc]; exact hcs 2 _ rfl
        have A3 : wr.cell? ⟨b, o + k * 4 + 3, none⟩ = some (.string x.data) := by rw [Nat.add_assoc]; exact hcs 3 _ rfl
        have LB : b' < wr.heap.size := World.block_lt_of_cell? _ _ (hcs' 0 _ rfl)
        have B0 : wr.cell? ⟨b', o' + k * 4, none⟩ = some (.int .i64 y.num) := hcs' 0 _ rfl
        have B1 : wr.cell? ⟨b', o' + k * 4 + 1, none⟩ = some (.int .i64 y.wire) := by rw [Nat.add_assoc]; exact hcs' 1 _ rfl
        have B2 : wr.cell? ⟨b', o' + k * 4 + 2, none⟩ = some (.int .u64 y.bits) := by rw [Nat.add_assoc]; exact hcs' 2 _ rfl
        have B3 : wr.cell? ⟨b', o' + k * 4 + 3, none⟩ = some (.string y.data) := by rw [Nat.add_assoc]; exact hcs' 3 _ rfl
        have HRx1 := Lib.hid hRx1
        have HRy1 := Lib.hid hRy1
        clear hcs hcs'
        have HX := Lib.hid (And.intro hx hy)
        clear hx hy hRx1 hRy1
        go_wp2_with fail
        refine calls_box2 ?_
        intro W hA hB hb
        refine calls_on (HC.out _ _ x y _ ⟨rfl, HRx1.out⟩ ⟨rfl, HRy1.out⟩) ?_
        intro w2 hb2
        have HB2 := Lib.hid (above HB.out (above hb hb2))
        have HK2 : Hid (R = orI (cmpR x y) (cmpL cmpR (xs.drop (k + 1)) (ys.drop (k + 1)))) := by
          have := HK.out
          rw [cmpL_drop cmpR k xs ys (by rw [← HL.out]; exact hlt) (by rw [← HL'.out]; exact hlt') x y HX.out.1 HX.out.2] at this
          exact this
        clear hA hB hb hb2 LB A0 A1 A2 A3 B0 B1 B2 B3
        generalize cmpR x y = C at *
        by_cases hC : C = 0
        · subst hC
          go_wp2_with fail
          go_roundw
          case rel => exact ⟨k + 1, by omega, by omega, by go_num, by rw [HK2.out]; exact orI_zero, HB2.out⟩
          case measure => simp [intOf]; omega
        · have hC' : (C != 0) = true := by simp [hC]
          have HCC := Lib.hid hC
          clear hC
          go_wp2_with fail
          go_ret
          exact ⟨ret_int (by rw [HK2.out, orI_ne HCC.out]), HB2.out⟩
      · obtain ⟨x, hx⟩ : ∃ x, xs[k]? = some x := ⟨_, List.getElem?_eq_getElem (by rw [← HL.out]; exact hlt)⟩
        obtain ⟨b, o, rfl, cs, hl, hcs, hRx⟩ := (G1.out k x hx).keep HB.out (fun _ _ h => h)
        obtain ⟨rfl, hRx1⟩ := hRx
        have A0 : wr.cell? ⟨b, o + k * 4, none⟩ = some (.int .i64 x.num) := hcs 0 _ rfl
        have A1 : wr.cell? ⟨b, o + k * 4 + 1, none⟩ = some (.int .i64 x.wire) := by rw [Nat.add_assoc]; exact hcs 1 _ rfl
        have A2 : wr.cell? ⟨b, o + k * 4 + 2, none⟩ = some (.int .u64 x.bits) := by rw [Nat.add_assoc]; exact hcs 2 _ rfl
        have A3 : wr.cell? ⟨b, o + k * 4 + 3, none⟩ = some (.string x.data) := by rw [Nat.add_assoc]; exact hcs 3 _ rfl
        clear hcs hx hRx1
        have HG : Hid (R = 1) := Lib.hid (by rw [HK.out]; exact cmpL_more _ k xs ys (by rw [← HL.out]; exact hlt) (by rw [← HL'.out]; omega))
        go_wp2_with fail
        go_ret
        exact ⟨ret_int HG.out.symm, HB.out.alloc HB.out.size _⟩
    · have HG : Hid (R = if L < L' then -1 else 0) := Lib.hid (by rw [HK.out, cmpL_end _ k xs ys (by rw [← HL.out]; omega) (by rw [← HL'.out]; omega), HL.out, HL'.out])
      by_cases hll : L < L'
      · have hd : decide (L < L') = true := by simpa using hll
        go_wp2_with fail
        go_ret
        exact ⟨ret_int (by rw [HG.out, if_pos hll]), HB.out⟩
      · have hd : decide (L < L') = false := by simpa using hll
        go_wp2_with fail
        go_ret
        exact ⟨ret_int (by rw [HG.out, if_neg hll]), HB.out⟩
end Go.Proofs.YtlgpoapedgodoaaDoor

/- order.Cmp, kind by kind. -/
namespace Go.Proofs.YtlgpoapedgodoaaDoor
open Go.RowKit

@[go_sem] theorem as_o_o (v : Value) (w : World) : (Instr.typeAssert (.iface 58 v) 20 58 true).run Tryd.prog w = .ok (.tuple #[v, .bool true]) w := by kernel_rfl
@[go_sem] theorem as_o_l (v : Value) (w : World) : (Instr.typeAssert (.iface 58 v) 20 59 true).run Tryd.prog w = .ok (.tuple #[.slice none 0 0, .bool false]) w := by kernel_rfl
@[go_sem] theorem as_o_p (v : Value) (w : World) : (Instr.typeAssert (.iface 58 v) 20 61 true).run Tryd.prog w = .ok (.tuple #[.slice none 0 0, .bool false]) w := by kernel_rfl
@[go_sem] theorem as_o_m (v : Value) (w : World) : (Instr.typeAssert (.iface 58 v) 20 65 true).run Tryd.prog w = .ok (.tuple #[.agg #[.slice none 0 0, .slice none 0 0], .bool false]) w := by kernel_rfl
@[go_sem] theorem asf_o (v : Value) (w : World) : (Instr.typeAssert (.iface 58 v) 20 58 false).run Tryd.prog w = .ok v w := by kernel_rfl
@[go_sem] theorem as_n_o (w : World) : (Instr.typeAssert .nilIface 20 58 true).run Tryd.prog w = .ok (.tuple #[.agg #[.int .i64 0, .int .u64 0, .string ⟨#[]⟩, .slice none 0 0, .slice none 0 0, .slice none 0 0, .slice none 0 0], .bool false]) w := by kernel_rfl
@[go_sem] theorem as_l_o (v : Value) (w : World) : (Instr.typeAssert (.iface 59 v) 20 58 true).run Tryd.prog w = .ok (.tuple #[.agg #[.int .i64 0, .int .u64 0, .string ⟨#[]⟩, .slice none 0 0, .slice none 0 0, .slice none 0 0, .slice none 0 0], .bool false]) w := by kernel_rfl
@[go_sem] theorem as_l_l (v : Value) (w : World) : (Instr.typeAssert (.iface 59 v) 20 59 true).run Tryd.prog w = .ok (.tuple #[v, .bool true]) w := by kernel_rfl
@[go_sem] theorem as_l_p (v : Value) (w : World) : (Instr.typeAssert (.iface 59 v) 20 61 true).run Tryd.prog w = .ok (.tuple #[.slice none 0 0, .bool false]) w := by kernel_rfl
@[go_sem] theorem as_l_m (v : Value) (w : World) : (Instr.typeAssert (.iface 59 v) 20 65 true).run Tryd.prog w = .ok (.tuple #[.agg #[.slice none 0 0, .slice none 0 0], .bool false]) w := by kernel_rfl
@[go_sem] theorem asf_l (v : Value) (w : World) : (Instr.typeAssert (.iface 59 v) 20 59 false).run Tryd.prog w = .ok v w := by kernel_rfl
@[go_sem] theorem as_n_l (w : World) : (Instr.typeAssert .nilIface 20 59 true).run Tryd.prog w = .ok (.tuple #[.slice none 0 0, .bool false]) w := by kernel_rfl
@[go_sem] theorem as_p_o (v : Value) (w : World) : (Instr.typeAssert (.iface 61 v) 20 58 true).run Tryd.prog w = .ok (.tuple #[.agg #[.int .i64 0, .int .u64 0, .string ⟨#[]⟩, .slice none 0 0, .slice none 0 0, .slice none 0 0, .slice none 0 0], .bool false]) w := by kernel_rfl
@[go_sem] theorem as_p_l (v : Value) (w : World) : (Instr.typeAssert (.iface 61 v) 20 59 true).run Tryd.prog w = .ok (.tuple #[.slice none 0 0, .bool false]) w := by kernel_rfl
@[go_sem] theorem as_p_p (v : Value) (w : World) : (Instr.typeAssert (.iface 61 v) 20 61 true).run Tryd.prog w = .ok (.tuple #[v, .bool true]) w := by kernel_rfl
@[go_sem] theorem as_p_m (v : Value) (w : World) : (Instr.typeAssert (.iface 61 v) 20 65 true).run Tryd.prog w = .ok (.tuple #[.agg #[.slice none 0 0, .slice none 0 0], .bool false]) w := by kernel_rfl
@[go_sem] theorem asf_p (v : Value) (w : World) : (Instr.typeAssert (.iface 61 v) 20 61 false).run Tryd.prog w = .ok v w := by kernel_rfl
@[go_sem] theorem as_n_p (w : World) : (Instr.typeAssert .nilIface 20 61 true).run Tryd.prog w = .ok (.tuple #[.slice none 0 0, .bool false]) w := by kernel_rfl
@[go_sem] theorem as_m_o (v : Value) (w : World) : (Instr.typeAssert (.iface 65 v) 20 58 true).run Tryd.prog w = .ok (.tuple #[.agg #[.int .i64 0, .int .u64 0, .string ⟨#[]⟩, .slice none 0 0, .slice none 0 0, .slice none 0 0, .slice none 0 0], .bool false]) w := by kernel_rfl
@[go_sem] theorem as_m_l (v : Value) (w : World) : (Instr.typeAssert (.iface 65 v) 20 59 true).run Tryd.prog w = .ok (.tuple #[.slice none 0 0, .bool false]) w := by kernel_rfl
@[go_sem] theorem as_m_p (v : Value) (w : World) : (Instr.typeAssert (.iface 65 v) 20 61 true).run Tryd.prog w = .ok (.tuple #[.slice none 0 0, .bool false]) w := by kernel_rfl
@[go_sem] theorem as_m_m (v : Value) (w : World) : (Instr.typeAssert (.iface 65 v) 20 65 true).run Tryd.prog w = .ok (.tuple #[v, .bool true]) w := by kernel_rfl
@[go_sem] theorem asf_m (v : Value) (w : World) : (Instr.typeAssert (.iface 65 v) 20 65 false).run Tryd.prog w = .ok v w := by kernel_rfl
@[go_sem] theorem as_n_m (w : World) : (Instr.typeAssert .nilIface 20 65 true).run Tryd.prog w = .ok (.tuple #[.agg #[.slice none 0 0, .slice none 0 0], .bool false]) w := by kernel_rfl

set_option maxRecDepth 8000 in
set_option maxHeartbeats 2000000 in
theorem ocmp_ne (ek ek' : Int) (ez ez' : Int) (et et' : ByteArray) (l1 l2 l3 l4 c1 c2 c3 c4 l1' l2' l3' l4' c1' c2' c3' c4' : Nat) (d1 d2 d3 d4 d1' d2' d3' d4' : Option Addr) (w : World) (h : (ek != ek') = true) :
    Calls Tryd.prog 13 #[.agg #[.int .i64 ek, .int .u64 ez, .string et, .slice d1 l1 c1, .slice d2 l2 c2, .slice d3 l3 c3, .slice d4 l4 c4], .agg #[.int .i64 ek', .int .u64 ez', .string et', .slice d1' l1' c1', .slice d2' l2' c2', .slice d3' l3' c3', .slice d4' l4' c4']] w fun e w' => e = .returned (.int .i64 (cmpI ek ek')) ∧ Below w.heap.size w w' := by
  go_enter Tryd.func13, Tryd.ntmps13
  go_wp2_with fail
  refine calls_box2 ?_
  intro W hA hB hb
  have HB := Lib.hid hb
  have HAB := Lib.hid (And.intro hA hB)
  clear hb hA hB
  refine calls_same (cmpI_ok _ _ _) ?_
  go_wp2_with fail
  go_ret
  exact ⟨rfl, HB.out⟩

set_option maxRecDepth 8000 in
set_option maxHeartbeats 2000000 in
theorem ocmp_s (ek : Int) (ez ez' : Int) (et et' : ByteArray) (l1 l2 l3 l4 c1 c2 c3 c4 l1' l2' l3' l4' c1' c2' c3' c4' : Nat) (d1 d2 d3 d4 d1' d2' d3' d4' : Option Addr) (w : World) (h : decide (1 ≤ ek ∧ ek ≤ 9) = true) (HZ : Hid (word ez ∧ word ez')) :
    Calls Tryd.prog 13 #[.agg #[.int .i64 ek, .int .u64 ez, .string et, .slice d1 l1 c1, .slice d2 l2 c2, .slice d3 l3 c3, .slice d4 l4 c4], .agg #[.int .i64 ek, .int .u64 ez', .string et', .slice d1' l1' c1', .slice d2' l2' c2', .slice d3' l3' c3', .slice d4' l4' c4']] w fun e w' => e = .returned (.int .i64 (scalF ek ez et ek ez' et')) ∧ Below w.heap.size w w' := by
  go_enter Tryd.func13, Tryd.ntmps13
  go_wp2_with fail
  refine calls_box2 ?_
  intro W hA hB hb
  have HB := Lib.hid hb
  have HAB := Lib.hid (And.intro hA hB)
  clear hb hA hB
  refine calls_on (cont_s _ _ _ _ _ _ _ _ _ _ _ _ _ _ _ h _) ?_
  intro w2 hb2
  have HB2 := Lib.hid hb2
  clear hb2
  have hA2 := blk_keep HB2.out HAB.out.1
  obtain ⟨a0, a1, a2, a3, a4, a5, a6⟩ := cells7 hA2
  clear hA2
  go_wp2_with fail
  clear a0 a1 a2 a3 a4 a5 a6
  refine calls_on (cont_s _ _ _ _ _ _ _ _ _ _ _ _ _ _ _ h _) ?_
  intro w3 hb3
  have HB3 := Lib.hid (above HB2.out hb3)
  clear hb3 HB2
  have hA3 := blk_keep HB3.out HAB.out.1
  have hB3 := blk_keep HB3.out HAB.out.2
  obtain ⟨a0, a1, a2, a3, a4, a5, a6⟩ := cells7 hA3
  obtain ⟨b0, b1, b2, b3, b4, b5, b6⟩ := cells7 hB3
  have hsz : w.heap.size + 1 < w3.heap.size := blk_lt hB3
  clear hA3 hB3
  go_wp2_with fail
  refine calls_box1 ?_
  intro W4 _ hb4
  have HB4 := Lib.hid (above HB3.out hb4)
  clear hb4
  refine calls_on (scal_eq _ _ _ _ _ _ _ _ _ _ _ _ _ _ HZ.out.1 HZ.out.2 _) ?_
  intro w5 hb5
  have HB5 := Lib.hid (above HB.out (above HB4.out hb5))
  clear hb5 a0 a1 a2 a3 a4 a5 a6 b0 b1 b2 b3 b4 b5 b6
  go_wp2_with fail
  go_ret
  exact ⟨rfl, HB5.out⟩

set_option maxRecDepth 8000 in
set_option maxHeartbeats 2000000 in
theorem ocmp_l (ez ez' : Int) (et et' : ByteArray) (l1 l2 l3 l4 c1 c2 c3 c4 l1' l2' l3' l4' c1' c2' c3' c4' : Nat) (d1 d2 d3 d4 d1' d2' d3' d4' : Option Addr) (w : World) (R : Int) (K : Hid (∀ w' : World, Below w.heap.size w w' → Calls Tryd.prog 37 #[.slice d1 l1 c1, .slice d1' l1' c1', .func (.func 13) #[] #[]] w' fun e w2 => e = .returned (.int .i64 R) ∧ Below w'.heap.size w' w2)) :
    Calls Tryd.prog 13 #[.agg #[.int .i64 11, .int .u64 ez, .string et, .slice d1 l1 c1, .slice d2 l2 c2, .slice d3 l3 c3, .slice d4 l4 c4], .agg #[.int .i64 11, .int .u64 ez', .string et', .slice d1' l1' c1', .slice d2' l2' c2', .slice d3' l3' c3', .slice d4' l4' c4']] w fun e w' => e = .returned (.int .i64 (R)) ∧ Below w.heap.size w w' := by
  go_enter Tryd.func13, Tryd.ntmps13
  go_wp2_with fail
  refine calls_box2 ?_
  intro W hA hB hb
  have HB := Lib.hid hb
  have HAB := Lib.hid (And.intro hA hB)
  clear hb hA hB
  refine calls_on (cont_l _ _ _ _ _ _ _ _ _ _ _ _ _ _ _) ?_
  intro w2 hb2
  have HB2 := Lib.hid hb2
  clear hb2
  have hA2 := blk_keep HB2.out HAB.out.1
  obtain ⟨a0, a1, a2, a3, a4, a5, a6⟩ := cells7 hA2
  clear hA2
  go_wp2_with fail
  clear a0 a1 a2 a3 a4 a5 a6
  refine calls_on (cont_l _ _ _ _ _ _ _ _ _ _ _ _ _ _ _) ?_
  intro w3 hb3
  have HB3 := Lib.hid (above HB2.out hb3)
  clear hb3 HB2
  have hA3 := blk_keep HB3.out HAB.out.1
  have hB3 := blk_keep HB3.out HAB.out.2
  obtain ⟨a0, a1, a2, a3, a4, a5, a6⟩ := cells7 hA3
  obtain ⟨b0, b1, b2, b3, b4, b5, b6⟩ := cells7 hB3
  have hsz : w.heap.size + 1 < w3.heap.size := blk_lt hB3
  clear hA3 hB3
  go_wp2_with fail
  refine calls_on (K.out _ (above HB.out HB3.out)) ?_
  intro w5 hb5
  have HB5 := Lib.hid (above HB.out (above HB3.out hb5))
  clear hb5 a0 a1 a2 a3 a4 a5 a6 b0 b1 b2 b3 b4 b5 b6
  go_wp2_with fail
  go_ret
  exact ⟨rfl, HB5.out⟩

set_option maxRecDepth 8000 in
set_option maxHeartbeats 2000000 in
theorem ocmp_p (ez ez' : Int) (et et' : ByteArray) (l1 l2 l3 l4 c1 c2 c3 c4 l1' l2' l3' l4' c1' c2' c3' c4' : Nat) (d1 d2 d3 d4 d1' d2' d3' d4' : Option Addr) (w : World) (R : Int) (K : Hid (∀ w' : World, Below w.heap.size w w' → Calls Tryd.prog 38 #[.slice d2 l2 c2, .slice d2' l2' c2', .func (.func 39) #[] #[]] w' fun e w2 => e = .returned (.int .i64 R) ∧ Below w'.heap.size w' w2)) :
    Calls Tryd.prog 13 #[.agg #[.int .i64 12, .int .u64 ez, .string et, .slice d1 l1 c1, .slice d2 l2 c2, .slice d3 l3 c3, .slice d4 l4 c4], .agg #[.int .i64 12, .int .u64 ez', .string et', .slice d1' l1' c1', .slice d2' l2' c2', .slice d3' l3' c3', .slice d4' l4' c4']] w fun e w' => e = .returned (.int .i64 (R)) ∧ Below w.heap.size w w' := by
  go_enter Tryd.func13, Tryd.ntmps13
  go_wp2_with fail
  refine calls_box2 ?_
  intro W hA hB hb
  have HB := Lib.hid hb
  have HAB := Lib.hid (And.intro hA hB)
  clear hb hA hB
  refine calls_on (cont_p _ _ _ _ _ _ _ _ _ _ _ _ _ _ _) ?_
  intro w2 hb2
  have HB2 := Lib.hid hb2
  clear hb2
  have hA2 := blk_keep HB2.out HAB.out.1
  obtain ⟨a0, a1, a2, a3, a4, a5, a6⟩ := cells7 hA2
  clear hA2
  go_wp2_with fail
  clear a0 a1 a2 a3 a4 a5 a6
  refine calls_on (cont_p _ _ _ _ _ _ _ _ _ _ _ _ _ _ _) ?_
  intro w3 hb3
  have HB3 := Lib.hid (above HB2.out hb3)
  clear hb3 HB2
  have hA3 := blk_keep HB3.out HAB.out.1
  have hB3 := blk_keep HB3.out HAB.out.2
  obtain ⟨a0, a1, a2, a3, a4, a5, a6⟩ := cells7 hA3
  obtain ⟨b0, b1, b2, b3, b4, b5, b6⟩ := cells7 hB3
  have hsz : w.heap.size + 1 < w3.heap.size := blk_lt hB3
  clear hA3 hB3
  go_wp2_with fail
  refine calls_on (K.out _ (above HB.out HB3.out)) ?_
  intro w5 hb5
  have HB5 := Lib.hid (above HB.out (above HB3.out hb5))
  clear hb5 a0 a1 a2 a3 a4 a5 a6 b0 b1 b2 b3 b4 b5 b6
  go_wp2_with fail
  go_ret
  exact ⟨rfl, HB5.out⟩

set_option maxRecDepth 8000 in
set_option maxHeartbeats 2000000 in
theorem ocmp_m (ez ez' : Int) (et et' : ByteArray) (l1 l2 l3 l4 c1 c2 c3 c4 l1' l2' l3' l4' c1' c2' c3' c4' : Nat) (d1 d2 d3 d4 d1' d2' d3' d4' : Option Addr) (w : World) (R S : Int) (K1 : Hid (∀ w' : World, Below w.heap.size w w' → Calls Tryd.prog 41 #[.slice d3 l3 c3, .slice d3' l3' c3', .func (.func 42) #[] #[]] w' fun e w2 => e = .returned (.int .i64 R) ∧ Below w'.heap.size w' w2)) (K2 : Hid (∀ w' : World, Below w.heap.size w w' → Calls Tryd.prog 43 #[.slice d4 l4 c4, .slice d4' l4' c4', .func (.func 44) #[] #[]] w' fun e w2 => e = .returned (.int .i64 S) ∧ Below w'.heap.size w' w2)) :
    Calls Tryd.prog 13 #[.agg #[.int .i64 10, .int .u64 ez, .string et, .slice d1 l1 c1, .slice d2 l2 c2, .slice d3 l3 c3, .slice d4 l4 c4], .agg #[.int .i64 10, .int .u64 ez', .string et', .slice d1' l1' c1', .slice d2' l2' c2', .slice d3' l3' c3', .slice d4' l4' c4']] w fun e w' => e = .returned (.int .i64 (orI R S)) ∧ Below w.heap.size w w' := by
  go_enter Tryd.func13, Tryd.ntmps13
  go_wp2_with fail
  refine calls_box2 ?_
  intro W hA hB hb
  have HB := Lib.hid hb
  have HAB := Lib.hid (And.intro hA hB)
  clear hb hA hB
  refine calls_on (cont_m _ _ _ _ _ _ _ _ _ _ _ _ _ _ _) ?_
  intro w2 hb2
  have HB2 := Lib.hid hb2
  clear hb2
  have hA2 := blk_keep HB2.out HAB.out.1
  obtain ⟨a0, a1, a2, a3, a4, a5, a6⟩ := cells7 hA2
  clear hA2
  go_wp2_with fail
  clear a0 a1 a2 a3 a4 a5 a6
  refine calls_on (cont_m _ _ _ _ _ _ _ _ _ _ _ _ _ _ _) ?_
  intro w3 hb3
  have HB3 := Lib.hid (above HB2.out hb3)
  clear hb3 HB2
  have hA3 := blk_keep HB3.out HAB.out.1
  have hB3 := blk_keep HB3.out HAB.out.2
  obtain ⟨a0, a1, a2, a3, a4, a5, a6⟩ := cells7 hA3
  obtain ⟨b0, b1, b2, b3, b4, b5, b6⟩ := cells7 hB3
  have hsz : w.heap.size + 1 < w3.heap.size := blk_lt hB3
  clear hA3 hB3
  go_wp2_with fail
  clear a0 a1 a2 a3 a4 a5 a6 b0 b1 b2 b3 b4 b5 b6
  refine wp_box2 ?_
  intro W4 hA4 hB4 hb4
  obtain ⟨a0, a1⟩ := up2 hA4
  obtain ⟨b0, b1⟩ := up2 hB4
  have HB4 := Lib.hid (above HB.out (above HB3.out hb4))
  clear hA4 hB4 hb4 hsz
  refine wp_region_up_tail 10 (by kernel_rfl) (by kernel_rfl) ?_
  simp only [List.take_succ_cons, List.take_zero, List.drop_succ_cons, List.drop_zero]
  repeat (go_big_quiet_step (first | (go_at_call 41; with_reducible exact calls_up (K1.out _ (above HB4.out (InClass.h _)))) | (go_at_call 43; with_reducible exact calls_up (K2.out _ (above HB4.out (InClass.h _))))))
  refine wpQuiet_nil ?_
  rintro _ ⟨s1, rfl⟩
  clear a0 a1 b0 b1
  go_wp2_with fail
  refine calls_same (or2_ok _ _ _ _ (blk_cell (box1_facts _ _ _).1 0 rfl) (blk_cell (box1_facts _ _ _).1 1 rfl)) ?_
  go_wp2_with fail
  go_ret
  exact ⟨rfl, (above HB4.out s1.h).alloc (above HB4.out s1.h).size _⟩

set_option maxRecDepth 8000 in
set_option maxHeartbeats 2000000 in
theorem ocmp_n (ek : Int) (ez ez' : Int) (et et' : ByteArray) (l1 l2 l3 l4 c1 c2 c3 c4 l1' l2' l3' l4' c1' c2' c3' c4' : Nat) (d1 d2 d3 d4 d1' d2' d3' d4' : Option Addr) (w : World) (h : decide (1 ≤ ek ∧ ek ≤ 9) = false) (h1 : (ek == 11) = false) (h2 : (ek == 12) = false) (h3 : (ek == 10) = false) :
    Calls Tryd.prog 13 #[.agg #[.int .i64 ek, .int .u64 ez, .string et, .slice d1 l1 c1, .slice d2 l2 c2, .slice d3 l3 c3, .slice d4 l4 c4], .agg #[.int .i64 ek, .int .u64 ez', .string et', .slice d1' l1' c1', .slice d2' l2' c2', .slice d3' l3' c3', .slice d4' l4' c4']] w fun e w' => e = .returned (.int .i64 (0)) ∧ Below w.heap.size w w' := by
  go_enter Tryd.func13, Tryd.ntmps13
  go_wp2_with fail
  refine calls_box2 ?_
  intro W hA hB hb
  have HB := Lib.hid hb
  have HAB := Lib.hid (And.intro hA hB)
  clear hb hA hB
  refine calls_on (cont_n _ _ _ _ _ _ _ _ _ _ _ _ _ _ _ h h1 h2 h3 _) ?_
  intro w2 hb2
  have HB2 := Lib.hid hb2
  clear hb2
  have hA2 := blk_keep HB2.out HAB.out.1
  obtain ⟨a0, a1, a2, a3, a4, a5, a6⟩ := cells7 hA2
  clear hA2
  go_wp2_with fail
  clear a0 a1 a2 a3 a4 a5 a6
  refine calls_on (cont_n _ _ _ _ _ _ _ _ _ _ _ _ _ _ _ h h1 h2 h3 _) ?_
  intro w3 hb3
  have HB3 := Lib.hid (above HB2.out hb3)
  clear hb3 HB2
  have hA3 := blk_keep HB3.out HAB.out.1
  have hB3 := blk_keep HB3.out HAB.out.2
  obtain ⟨a0, a1, a2, a3, a4, a5, a6⟩ := cells7 hA3
  obtain ⟨b0, b1, b2, b3, b4, b5, b6⟩ := cells7 hB3
  have hsz : w.heap.size + 1 < w3.heap.size := blk_lt hB3
  clear hA3 hB3
  go_wp2_with fail
  go_ret
  exact ⟨rfl, above HB.out HB3.out⟩

theorem ocmp_succ (n : Nat) (H : OCmp n) : OCmp (n + 1) := by
  have HC := Lib.hid H
  clear H
  rintro v v' x y w ⟨ek, ez, et, d1, l1, c1, d2, l2, c2, d3, l3, c3, d4, l4, c4, rfl, g⟩ ⟨ek', ez', et', d1', l1', c1', d2', l2', c2', d3', l3', c3', d4', l4', c4', rfl, g'⟩
  obtain ⟨l, p, s, r, hcs, hbd, r1, r2, r3, r4⟩ := g
  obtain ⟨l', p', s', r', hcs', hbd', r1', r2', r3', r4'⟩ := g'
  simp only [List.cons.injEq, Value.int.injEq, Value.string.injEq, true_and, and_true] at hcs hcs'
  obtain ⟨e1, e2, e3, rfl, rfl, rfl, rfl⟩ := hcs
  obtain ⟨e1', e2', e3', rfl, rfl, rfl, rfl⟩ := hcs'
  show Calls _ _ _ _ fun e w' => e = .returned (.int .i64 (cmpN (cmpV n) x y)) ∧ _
  have hz : word ez := by unfold word; rw [e2]; omega
  have hz' : word ez' := by unfold word; rw [e2']; omega
  unfold cmpN
  rw [← e1, ← e1']
  by_cases hk : ek = ek'
  · subst hk
    rw [if_neg (by simp)]
    by_cases h1 : 1 ≤ ek ∧ ek ≤ 9
    · rw [if_pos h1, ← e2, ← e3, ← e2', ← e3']
      have := ocmp_s ek ez ez' et et' l1 l2 l3 l4 c1 c2 c3 c4 l1' l2' l3' l4' c1' c2' c3' c4' d1 d2 d3 d4 d1' d2' d3' d4' w (decide_eq_true h1) (Lib.hid ⟨hz, hz'⟩)
      rw [show scalF ek ez et ek ez' et' = scalC ek ez et ez' et' by simp [scalF]] at this
      exact this
    · rw [if_neg h1]
      by_cases h2 : ek = 11
      · subst h2
        rw [if_pos rfl]
        exact ocmp_l _ _ _ _ _ _ _ _ _ _ _ _ _ _ _ _ _ _ _ _ _ _ _ _ _ _ _ _ w _ (Lib.hid fun w' hb => cfl_ok n HC _ _ _ _ w' (r1.keep hb (fun _ _ h => RVal.keep hb n _ _ h)) (r1'.keep hb (fun _ _ h => RVal.keep hb n _ _ h)))
      · rw [if_neg h2]
        by_cases h3 : ek = 12
        · subst h3
          rw [if_pos rfl]
          exact ocmp_p _ _ _ _ _ _ _ _ _ _ _ _ _ _ _ _ _ _ _ _ _ _ _ _ _ _ _ _ w _ (Lib.hid fun w' hb => cfp_ok n (Lib.hid (opair_ok n HC)) _ _ _ _ w' (r2.keep hb (fun _ _ h => RPair.keep hb h)) (r2'.keep hb (fun _ _ h => RPair.keep hb h)))
        · rw [if_neg h3]
          by_cases h4 : ek = 10
          · subst h4
            rw [if_pos rfl]
            exact ocmp_m _ _ _ _ _ _ _ _ _ _ _ _ _ _ _ _ _ _ _ _ _ _ _ _ _ _ _ _ w _ _
              (Lib.hid fun w' hb => cfs_ok n (Lib.hid (oslot_ok n HC)) _ _ _ _ w' (r3.keep hb (fun _ _ h => RSlot.keep hb h)) (r3'.keep hb (fun _ _ h => RSlot.keep hb h)))
              (Lib.hid fun w' hb => cfr_ok (Lib.hid oraw_ok) _ _ _ _ w' (r4.keep hb (fun _ _ h => h)) (r4'.keep hb (fun _ _ h => h)))
          · rw [if_neg h4]
            exact ocmp_n ek _ _ _ _ _ _ _ _ _ _ _ _ _ _ _ _ _ _ _ _ _ _ _ _ _ _ _ _ w (decide_eq_false h1) (by simp [h2]) (by simp [h3]) (by simp [h4])
  · rw [if_pos hk]
    exact ocmp_ne ek ek' _ _ _ _ _ _ _ _ _ _ _ _ _ _ _ _ _ _ _ _ _ _ _ _ _ _ _ _ w (by simp [hk])

/-- **order.Cmp, at every number of levels.** -/
theorem ocmp_all : ∀ n : Nat, OCmp n
  | 0 => by
    rintro v v' x y w ⟨ek, ez, et, d1, l1, c1, d2, l2, c2, d3, l3, c3, d4, l4, c4, rfl, g⟩ _
    exact g.elim
  | n + 1 => ocmp_succ n (ocmp_all n)
end Go.Proofs.YtlgpoapedgodoaaDoor

/- awake: what the statements ask beside. -/
namespace Go.Proofs.YtlgpoapedgodoaaDoor
open Go.RowKit
set_option linter.unusedVariables false
set_option linter.unusedSimpArgs false

theorem heap_alloc_at (w : World) (o : Obj) (n : Nat) : (w.alloc o).heap[n]? = if n = w.heap.size then some o else w.heap[n]? := by
  show (w.heap.push o)[n]? = _
  rw [Array.getElem?_push]
theorem heap_drew_at (w : World) (n : Nat) : (w.drew).heap[n]? = w.heap[n]? := rfl

/-- What the literals of the two lists leave in memory. -/
def ALit (g h n : Nat) (w : World) : Prop :=
  w.heap[g]? = some (.cells #[.int .i64 11, .int .u64 0, .string ⟨#[]⟩, .slice (some ⟨h, 0, none⟩) n n, .slice none 0 0, .slice none 0 0, .slice none 0 0] 28 (0, 0))
def ACut (w : World) (s3 s4 s8 s12 : Value) (wx : World) : Prop :=
  ∃ g3 g4 h3 h4 : Nat, s3 = .pointer (some ⟨g3, 0, none⟩) ∧ s4 = .pointer (some ⟨g4, 0, none⟩) ∧ s8 = .slice (some ⟨h3, 0, none⟩) 1 1 ∧ s12 = .slice (some ⟨h4, 0, none⟩) 2 2 ∧ ALit g3 h3 1 wx ∧ ALit g4 h4 2 wx ∧
    wx.heap[h3]? = some (.cells #[.int .i64 2, .int .u64 1, .string ⟨#[]⟩, .slice none 0 0, .slice none 0 0, .slice none 0 0, .slice none 0 0] 28 (0, 0)) ∧
    wx.heap[h4]? = some (.cells #[.int .i64 2, .int .u64 1, .string ⟨#[]⟩, .slice none 0 0, .slice none 0 0, .slice none 0 0, .slice none 0 0, .int .i64 2, .int .u64 2, .string ⟨#[]⟩, .slice none 0 0, .slice none 0 0, .slice none 0 0, .slice none 0 0] 28 (0, 0)) ∧
    Below w.heap.size w wx

/-- A literal as a tree. -/
def lit1 (z : Int) : VT 1 := ({ kind := 2, bits := z, text := ⟨#[]⟩, list := [], pairs := [], slots := [], raws := [] } : VS (VT 0))
def lit2 (l : List (VT 1)) : VT 2 := ({ kind := 11, bits := 0, text := ⟨#[]⟩, list := l, pairs := [], slots := [], raws := [] } : VS (VT 1))

theorem row_nil {α : Type} (k : Nat) (R : World → List Value → α → Prop) (w : World) : RowAt k R w (.slice none 0 0) ([] : List α) :=
  ⟨none, 0, rfl, Nat.le_refl _, ⟨Nat.zero_le _, Nat.zero_le _⟩, fun _ => rfl, fun a ha => by cases ha⟩
theorem lit1_reads (z : Int) (h0 : 0 ≤ z) (h1 : z ≤ 18446744073709551615) (w : World) : RVal 1 w [.int .i64 2, .int .u64 z, .string ⟨#[]⟩, .slice none 0 0, .slice none 0 0, .slice none 0 0, .slice none 0 0] (lit1 z) :=
  ⟨_, _, _, _, rfl, ⟨by show (-9223372036854775808 : Int) ≤ 2; decide, by show (2 : Int) ≤ 9223372036854775807; decide, h0, h1, Nat.zero_le _⟩, row_nil _ _ _, row_nil _ _ _, row_nil _ _ _, row_nil _ _ _⟩
theorem lit2_reads (l : List (VT 1)) (h n : Nat) (w : World) (hn : n = l.length) (hl : l.length ≤ 10) (hr : ∀ (i : Nat) x, l[i]? = some x → ∃ cs : List Value, cs.length = 7 ∧ (∀ (j : Nat) u, cs[j]? = some u → w.cell? ⟨h, 0 + (i * 7 + j), none⟩ = some u) ∧ RVal 1 w cs x) :
    RVal 2 w [.int .i64 11, .int .u64 0, .string ⟨#[]⟩, .slice (some ⟨h, 0, none⟩) n n, .slice none 0 0, .slice none 0 0, .slice none 0 0] (lit2 l) := by
  subst hn
  refine ⟨_, _, _, _, rfl, ⟨by show (-9223372036854775808 : Int) ≤ 11; decide, by show (11 : Int) ≤ 9223372036854775807; decide, by show (0 : Int) ≤ 0; decide, by show (0 : Int) ≤ 18446744073709551615; decide, Nat.zero_le _⟩, ?_, row_nil _ _ _, row_nil _ _ _, row_nil _ _ _⟩
  refine ⟨some ⟨h, 0, none⟩, l.length, rfl, Nat.le_refl _, ⟨by unfold maxLen; omega, by show l.length ≤ _; omega⟩, (fun x => by cases x), fun a ha => ?_⟩
  cases ha
  exact .inr ⟨h, 0, rfl, hr⟩

theorem awake_cmp (g3 g4 h3 h4 : Nat) (w : World) (hh3 : w.heap[h3]? = some (.cells #[.int .i64 2, .int .u64 1, .string ⟨#[]⟩, .slice none 0 0, .slice none 0 0, .slice none 0 0, .slice none 0 0] 28 (0, 0)))
    (hh4 : w.heap[h4]? = some (.cells #[.int .i64 2, .int .u64 1, .string ⟨#[]⟩, .slice none 0 0, .slice none 0 0, .slice none 0 0, .slice none 0 0, .int .i64 2, .int .u64 2, .string ⟨#[]⟩, .slice none 0 0, .slice none 0 0, .slice none 0 0, .slice none 0 0] 28 (0, 0))) :
    Calls Tryd.prog 13 #[.agg #[.int .i64 11, .int .u64 0, .string ⟨#[]⟩, .slice (some ⟨h3, 0, none⟩) 1 1, .slice none 0 0, .slice none 0 0, .slice none 0 0], .agg #[.int .i64 11, .int .u64 0, .string ⟨#[]⟩, .slice (some ⟨h4, 0, none⟩) 2 2, .slice none 0 0, .slice none 0 0, .slice none 0 0]] w
      fun e w' => e = .returned (.int .i64 (-1)) ∧ Below w.heap.size w w' := by
  have key : cmpV 2 (lit2 [lit1 1]) (lit2 [lit1 1, lit1 2]) = -1 := by decide +kernel
  rw [← key]
  refine ocmp_all 2 _ _ _ _ w ⟨_, _, _, _, _, _, _, _, _, _, _, _, _, _, _, rfl, lit2_reads [lit1 1] h3 1 w rfl (by decide) (fun i x hi => ?_)⟩ ⟨_, _, _, _, _, _, _, _, _, _, _, _, _, _, _, rfl, lit2_reads [lit1 1, lit1 2] h4 2 w rfl (by decide) (fun i x hi => ?_)⟩
  · match i, hi with
    | 0, hi =>
      simp at hi; subst hi
      refine ⟨_, rfl, fun j u hj => ?_, lit1_reads 1 (by decide) (by decide) w⟩
      exact blk_cell hh3 _ (by rw [← Array.getElem?_toList]; simpa using hj)
  · match i, hi with
    | 0, hi =>
      simp at hi; subst hi
      refine ⟨_, rfl, fun j u hj => ?_, lit1_reads 1 (by decide) (by decide) w⟩
      refine blk_cell hh4 _ ?_
      rw [← Array.getElem?_toList]
      have hj7 : j < 7 := (List.getElem?_eq_some_iff.1 hj).1
      simp only [Nat.zero_mul, Nat.zero_add]
      match j, hj7, hj with
      | 0, _, hj => exact hj
      | 1, _, hj => exact hj
      | 2, _, hj => exact hj
      | 3, _, hj => exact hj
      | 4, _, hj => exact hj
      | 5, _, hj => exact hj
      | 6, _, hj => exact hj
    | 1, hi =>
      simp at hi; subst hi
      refine ⟨_, rfl, fun j u hj => ?_, lit1_reads 2 (by decide) (by decide) w⟩
      refine blk_cell hh4 _ ?_
      rw [← Array.getElem?_toList]
      have hj7 : j < 7 := (List.getElem?_eq_some_iff.1 hj).1
      match j, hj7, hj with
      | 0, _, hj => exact hj
      | 1, _, hj => exact hj
      | 2, _, hj => exact hj
      | 3, _, hj => exact hj
      | 4, _, hj => exact hj
      | 5, _, hj => exact hj
      | 6, _, hj => exact hj

theorem awake_key (m : Int) (w : World) (hm : w.cell? ⟨0, 0, none⟩ = some (.int .i64 m)) :
    Calls Tryd.prog 10 #[.agg #[.int .i64 7, .int .u64 0, .string ⟨#[97, 0]⟩, .slice none 0 0, .slice none 0 0, .slice none 0 0, .slice none 0 0]] w
      fun e w' => e = .returned (.string ⟨#[7, 97, 0, 255, 0, 0]⟩) ∧ Below w.heap.size w w' := by
  have h := key_ok 7 0 ⟨#[97, 0]⟩ 0 0 0 0 0 0 0 0 none none none none ⟨by decide, by decide⟩ (by decide) (by decide) (by decide) (by decide) m w hm
  have e : keyT 7 0 ⟨#[97, 0]⟩ (noneB 0 0 0 0) = ⟨#[7, 97, 0, 255, 0, 0]⟩ := by decide +kernel
  rw [e] at h
  exact h

set_option maxRecDepth 8000 in
set_option maxHeartbeats 8000000 in
theorem awake_ok (m : Int) (w : World) (hm : w.cell? ⟨0, 0, none⟩ = some (.int .i64 m)) :
    Calls Tryd.prog 12 #[] w fun e w' => e = .returned (.bool true) ∧ Below w.heap.size w w' := by
  have HM := Lib.hid hm
  clear hm
  go_enter Tryd.func12, Tryd.ntmps12
  go_upto_region 2 with fail
  go_cut [3, 4, 8, 12] (fun s3 s4 s8 s12 wx => ACut w s3 s4 s8 s12 wx)
  case first =>
    go_region
    all_goals
      go_wp2_with fail
      go_meet
      refine ⟨_, _, _, _, rfl, rfl, rfl, rfl, ?_, ?_, ?_, ?_, by go_grown⟩
      · unfold ALit; simp only [heap_alloc_at, heap_drew_at, World.size_alloc]; repeat (first | rw [if_pos trivial] | rw [if_neg (by omega)])
      · unfold ALit; simp only [heap_alloc_at, heap_drew_at, World.size_alloc]; repeat (first | rw [if_pos trivial] | rw [if_neg (by omega)])
      · simp only [heap_alloc_at, heap_drew_at, World.size_alloc]; repeat (first | rw [if_pos trivial] | rw [if_neg (by omega)])
      · simp only [heap_alloc_at, heap_drew_at, World.size_alloc]; repeat (first | rw [if_pos trivial] | rw [if_neg (by omega)])
  case rest =>
    obtain ⟨g3, g4, h3, h4, rfl, rfl, rfl, rfl, hg3, hg4, hh3, hh4, hb⟩ := hcut
    obtain ⟨a0, a1, a2, a3, a4, a5, a6⟩ := cells7 hg3
    obtain ⟨b0, b1, b2, b3, b4, b5, b6⟩ := cells7 hg4
    have HB := Lib.hid hb
    have KC := awake_cmp g3 g4 h3 h4 wc hh3 hh4
    have HKC := Lib.hid KC
    clear hb KC hh3 hh4 hg3 hg4
    go_wp2_with fail
    refine calls_on HKC.out ?_
    intro w2 hb2
    have HB2 := Lib.hid (above HB.out hb2)
    clear hb2 a0 a1 a2 a3 a4 a5 a6 b0 b1 b2 b3 b4 b5 b6
    go_wp2_with fail
    refine calls_on (awake_key m w2 (held HB2.out HM.out)) ?_
    intro w3 hb3
    have HB3 := Lib.hid (above HB2.out hb3)
    clear hb3
    go_wp2_with fail
    go_ret
    exact ⟨rfl, HB3.out⟩
end Go.Proofs.YtlgpoapedgodoaaDoor

/- What the top of a value's reading gives. -/
namespace Go.Proofs.YtlgpoapedgodoaaDoor
open Go.RowKit

theorem RVal.top {n : Nat} {w : World} {k z : Int} {t : ByteArray} {l1 l2 l3 l4 c1 c2 c3 c4 : Nat} {d1 d2 d3 d4 : Option Addr} {x : VT (n + 1)}
    (h : RVal (n + 1) w [.int .i64 k, .int .u64 z, .string t, .slice d1 l1 c1, .slice d2 l2 c2, .slice d3 l3 c3, .slice d4 l4 c4] x) :
    VS.kind x = k ∧ VS.bits x = z ∧ VS.text x = t ∧ word z ∧ t.size ≤ 140737488351232 ∧ l1 ≤ 140737488351232 ∧ l2 ≤ 140737488351232 ∧ l3 ≤ 140737488351232 ∧ l4 ≤ 140737488351232 := by
  obtain ⟨l, p, s, r, hcs, hbd, r1, r2, r3, r4⟩ := h
  simp only [List.cons.injEq, Value.int.injEq, Value.string.injEq, true_and, and_true] at hcs
  obtain ⟨e1, e2, e3, rfl, rfl, rfl, rfl⟩ := hcs
  have len : ∀ {α : Type} {k : Nat} {R : World → List Value → α → Prop} {d : Option Addr} {l c : Nat} {xs : List α}, RowAt k R w (.slice d l c) xs → l ≤ 140737488351232 := by
    intro α k R d l c xs h
    obtain ⟨ao, c', hv, _, hm, _⟩ := h
    simp only [Value.slice.injEq] at hv
    rw [hv.2.1]; exact hm.2
  refine ⟨e1.symm, e2.symm, e3.symm, ?_, by rw [e3]; exact hbd.2.2.2.2, len r1, len r2, len r3, len r4⟩
  unfold word; rw [e2]; omega

end Go.Proofs.YtlgpoapedgodoaaDoor

/- The reference's Key in one contract; OrderKeys. -/
namespace Go.Proofs.YtlgpoapedgodoaaDoor
open Go.RowKit
set_option linter.unusedVariables false

theorem enc_nums (k : Int) (h : 1 ≤ k ∧ k ≤ 9) : Utf8.encode k = strOfNums [k] := by
  have : k = 1 ∨ k = 2 ∨ k = 3 ∨ k = 4 ∨ k = 5 ∨ k = 6 ∨ k = 7 ∨ k = 8 ∨ k = 9 := by omega
  rcases this with rfl | rfl | rfl | rfl | rfl | rfl | rfl | rfl | rfl <;> decide

theorem nums_bytes (l : List UInt8) : (l.map fun b => (b.toNat : Int)).map (fun n => UInt8.ofNat n.toNat) = l := by
  rw [List.map_map]
  conv => rhs; rw [← List.map_id l]
  apply List.map_congr_left
  intro b _
  simp

theorem text_nums (k : Int) (h : 1 ≤ k ∧ k ≤ 9) (l : List UInt8) : strOfNums ([k] ++ escN l ++ [0, 0]) = Utf8.encode k ++ ⟨(escT l).toArray⟩ ++ ⟨#[0, 0]⟩ := by
  rw [enc_nums k h]
  apply ByteArray.ext
  have e := nums_bytes (escT l)
  unfold escN strOfNums
  simp only [List.map_append, e, ByteArray.data_append]
  simp

theorem rkey_ok (k z : Int) (t : ByteArray) (l1 l2 l3 l4 c1 c2 c3 c4 : Nat) (d1 d2 d3 d4 : Option Addr) (hz : word z) (ht : t.size ≤ 140737488351232) (w : World) :
    Calls Tryd.prog 11 #[.agg #[.int .i64 k, .int .u64 z, .string t, .slice d1 l1 c1, .slice d2 l2 c2, .slice d3 l3 c3, .slice d4 l4 c4]] w
      fun e w' => e = .returned (.string (keyT k z t (noneB l1 l2 l3 l4))) ∧ Below w.heap.size w w' := by
  have KF := fun w : World => rfits_ok k k z t l1 l2 l3 l4 c1 c2 c3 c4 d1 d2 d3 d4 w ht
  have KT := fun w : World => texts16_ok k w
  unfold RFitsAt at KF
  unfold keyT
  cases hf : fitsB k k z t (noneB l1 l2 l3 l4)
  · rw [hf] at KF
    rw [if_neg (by simp)]
    exact rkey_no k z t l1 l2 l3 l4 c1 c2 c3 c4 d1 d2 d3 d4 w (Lib.hid KF)
  · rw [hf] at KF
    rw [if_pos rfl]
    have hs : t.size ≤ 4096 := by
      unfold fitsB at hf
      simp only [Bool.and_eq_true, decide_eq_true_eq] at hf
      exact hf.1.2
    have hr : 1 ≤ k ∧ k ≤ 9 := by
      unfold fitsB at hf
      simp only [Bool.and_eq_true, decide_eq_true_eq] at hf
      exact hf.1.1.1.1.1
    by_cases h78 : k = 7 ∨ k = 8
    · rw [if_pos h78, ← text_nums k hr]
      rw [show decide (k = 7 ∨ k = 8) = true from decide_eq_true h78] at KT
      rcases h78 with rfl | rfl
      · exact rkey_text7 z t l1 l2 l3 l4 c1 c2 c3 c4 d1 d2 d3 d4 w (Lib.hid KF) (Lib.hid KT) hs
      · exact rkey_text8 z t l1 l2 l3 l4 c1 c2 c3 c4 d1 d2 d3 d4 w (Lib.hid KF) (Lib.hid KT) hs
    · rw [show decide (k = 7 ∨ k = 8) = false from decide_eq_false h78] at KT
      rw [if_neg h78, enc_nums k hr]
      have hw := normZ_word k z hz
      exact rkey_num k z (normZ k z) (rankK k (normZ k z)) t l1 l2 l3 l4 c1 c2 c3 c4 d1 d2 d3 d4 w (Lib.hid KF) (Lib.hid KT) hr.1 hr.2 (eightB (rankK k (normZ k z))) (by unfold eightB; rw [revB_size, strOfNums_size]; rfl)
        (Lib.hid fun w => rnorm_ok k z t l1 l2 l3 l4 c1 c2 c3 c4 d1 d2 d3 d4 hz w) (Lib.hid fun w => rank16_ok k (normZ k z) t _ _ _ _ hw w) (Lib.hid fun w => eight_ok _ (rankK_word k _ hw) w)

set_option maxRecDepth 8000 in
set_option maxHeartbeats 2000000 in
theorem keys_ok (n : Nat) (v : Value) (x : VT n) (m : Int) (w : World) (h : IsV n w v x) (hm : w.cell? ⟨0, 0, none⟩ = some (.int .i64 m)) :
    Calls Tryd.prog 3 #[v] w fun e w' => e = .returned (.bool true) ∧ Below w.heap.size w w' := by
  obtain ⟨ek, ez, et, d1, l1, c1, d2, l2, c2, d3, l3, c3, d4, l4, c4, rfl, g⟩ := h
  cases n with
  | zero => exact g.elim
  | succ n =>
  obtain ⟨_, _, _, wz, st, h1, h2, h3, h4⟩ := g.top
  have HM := Lib.hid hm
  clear hm g
  obtain ⟨X, HX⟩ : ∃ X, Hid (X = keyT ek ez et (noneB l1 l2 l3 l4)) := ⟨_, Lib.hid rfl⟩
  have K1 : Hid (∀ w' : World, Below w.heap.size w w' → Calls Tryd.prog 10 #[.agg #[.int .i64 ek, .int .u64 ez, .string et, .slice d1 l1 c1, .slice d2 l2 c2, .slice d3 l3 c3, .slice d4 l4 c4]] w' fun e w2 => e = .returned (.string X) ∧ Below w'.heap.size w' w2) := by
    intro w' hb; rw [HX.out]; exact key_ok ek ez et l1 l2 l3 l4 c1 c2 c3 c4 d1 d2 d3 d4 wz h1 h2 h3 h4 m w' (held hb HM.out)
  have K2 : Hid (∀ w' : World, Below w.heap.size w w' → Calls Tryd.prog 11 #[.agg #[.int .i64 ek, .int .u64 ez, .string et, .slice d1 l1 c1, .slice d2 l2 c2, .slice d3 l3 c3, .slice d4 l4 c4]] w' fun e w2 => e = .returned (.string X) ∧ Below w'.heap.size w' w2) := by
    intro w' _; rw [HX.out]; exact rkey_ok ek ez et l1 l2 l3 l4 c1 c2 c3 c4 d1 d2 d3 d4 wz st w'
  have K3 : Hid (∀ w' : World, Below w.heap.size w w' → Calls Tryd.prog 12 #[] w' fun e w2 => e = .returned (.bool true) ∧ Below w'.heap.size w' w2) :=
    Lib.hid fun w' hb => awake_ok m w' (held hb HM.out)
  have e1 : (X.toList == X.toList) = true := by simp
  clear wz st h1 h2 h3 h4
  go_enter Tryd.func3, Tryd.ntmps3
  go_wp2_with fail
  refine wp_box1 ?_
  intro W hA hb
  obtain ⟨a0, a1, a2, a3, a4, a5, a6⟩ := up7 hA
  have HB := Lib.hid hb
  clear hA hb
  refine wp_region_up (by kernel_rfl) (by kernel_rfl) ?_
  repeat (go_big_quiet_step (first | (go_at_call 10; with_reducible exact calls_up (K1.out _ (above HB.out (InClass.h _)))) | (go_at_call 11; with_reducible exact calls_up (K2.out _ (above HB.out (InClass.h _)))) | (go_at_call 12; with_reducible exact calls_up (K3.out _ (above HB.out (InClass.h _))))))
  refine wpQuiet_nil ?_
  rintro _ ⟨s1, rfl⟩
  clear a0 a1 a2 a3 a4 a5 a6
  go_wp2_with fail
  go_ret
  exact ⟨rfl, above HB.out s1.h⟩
end Go.Proofs.YtlgpoapedgodoaaDoor

/- What Unkey reads has the key that was read. -/
namespace Go.Proofs.YtlgpoapedgodoaaDoor
open Go.RowKit
set_option linter.unusedVariables false

theorem unT_back : ∀ (n : Nat) (l acc : List UInt8) (p : Nat), l.length ≤ n → (unT l acc p).2.2 = 0 →
    ∃ m : List UInt8, (unT l acc p).1 = acc ++ m ∧ escT m ++ [0, 0] = l.take ((unT l acc p).2.1 - p) ∧ p ≤ (unT l acc p).2.1 ∧ (unT l acc p).2.1 - p ≤ l.length := by
  intro n
  induction n with
  | zero => intro l acc p h e; cases l with
    | nil => simp [unT] at e
    | cons b l => simp at h
  | succ n ih => intro l acc p h; cases l with
    | nil => intro e; simp [unT] at e
    | cons b l =>
      unfold unT
      simp only [List.length_cons] at h ⊢
      by_cases hb : b = 0
      · subst hb
        simp only [ne_eq, not_true_eq_false, if_false]
        cases l with
        | nil => intro e; simp at e
        | cons c l' =>
          simp only [List.length_cons] at h ⊢
          by_cases hc : c = 0
          · subst hc
            simp only [if_true]
            intro _
            refine ⟨[], by simp, ?_, by omega, by omega⟩
            rw [show p + 2 - p = 2 by omega]
            rfl
          · rw [if_neg hc]
            by_cases hf : c = 255
            · subst hf
              simp only [if_true]
              intro e
              obtain ⟨m, e1, e2, e3, e4⟩ := ih l' (acc ++ [0]) (p + 2) (by omega) e
              refine ⟨0 :: m, by rw [e1]; simp, ?_, by omega, by omega⟩
              rw [show (unT l' (acc ++ [0]) (p + 2)).2.1 - p = (unT l' (acc ++ [0]) (p + 2)).2.1 - (p + 2) + 1 + 1 by omega]
              rw [List.take_succ_cons, List.take_succ_cons, ← e2]
              simp [escT]
            · rw [if_neg hf]
              intro e; simp at e
      · simp only [ne_eq, hb, not_false_eq_true, if_true]
        intro e
        obtain ⟨m, e1, e2, e3, e4⟩ := ih l (acc ++ [b]) (p + 1) (by omega) e
        refine ⟨b :: m, by rw [e1]; simp, ?_, by omega, by omega⟩
        rw [show (unT l (acc ++ [b]) (p + 1)).2.1 - p = (unT l (acc ++ [b]) (p + 1)).2.1 - (p + 1) + 1 by omega]
        rw [List.take_succ_cons, ← e2]
        simp [escT, hb]

theorem rank_unrank (k u : Int) (h : word u) : rankK k (unrankK k u) = u := by
  obtain ⟨a, b⟩ := h
  unfold rankK unrankK flipZ
  by_cases h23 : k = 2 ∨ k = 3
  · simp only [if_pos h23]
    split <;> split <;> omega
  · simp only [if_neg h23]
    by_cases h6 : k = 6
    · simp only [if_pos h6]
      split <;> split <;> omega
    · simp only [if_neg h6]

theorem le_be (s : ByteArray) (h9 : 9 ≤ s.size) : (revB (strOfNums (leZ (beZ s)))).data.toList = (s.data.toList.drop 1).take 8 := by
  obtain ⟨⟨l⟩⟩ := s
  match l, h9 with
  | b0 :: b1 :: b2 :: b3 :: b4 :: b5 :: b6 :: b7 :: b8 :: l, _ =>
    rw [be_list]
    have e : ∀ u : Int, (revB (strOfNums (leZ u))).data.toList = [UInt8.ofNat (u / 72057594037927936 % 256).toNat, UInt8.ofNat (u / 281474976710656 % 256).toNat, UInt8.ofNat (u / 1099511627776 % 256).toNat, UInt8.ofNat (u / 4294967296 % 256).toNat, UInt8.ofNat (u / 16777216 % 256).toNat, UInt8.ofNat (u / 65536 % 256).toNat, UInt8.ofNat (u / 256 % 256).toNat, UInt8.ofNat (u % 256).toNat] := fun u => rfl
    rw [e]
    have b : ∀ x : UInt8, x.toNat < 256 := fun x => UInt8.toNat_lt x
    have c1 := b b1; have c2 := b b2; have c3 := b b3; have c4 := b b4; have c5 := b b5; have c6 := b b6; have c7 := b b7; have c8 := b b8
    have g : ∀ (x : UInt8) (y : Int), y = (x.toNat : Int) → UInt8.ofNat y.toNat = x := fun x y hy => by subst hy; simp
    show _ = [b1, b2, b3, b4, b5, b6, b7, b8]
    rw [g b1 _ (by omega), g b2 _ (by omega), g b3 _ (by omega), g b4 _ (by omega), g b5 _ (by omega), g b6 _ (by omega), g b7 _ (by omega), g b8 _ (by omega)]

theorem cut_list (b : UInt8) (l : List UInt8) (n : Nat) : (ByteArray.extract ⟨⟨b :: l⟩⟩ 0 (n + 1)).data.toList = b :: l.take n := by
  rw [ByteArray.data_extract]
  simp [List.extract]

theorem one_byte (b : UInt8) (h : 1 ≤ (b.toNat : Int) ∧ (b.toNat : Int) ≤ 9) : (Utf8.encode (b.toNat : Int)).data.toList = [b] := by
  rw [enc_nums _ h]
  simp [strOfNums]

theorem unkeyF_cons (b : UInt8) (l : List UInt8) : unkeyF ⟨⟨b :: l⟩⟩ =
    if 1 ≤ (b.toNat : Int) ∧ (b.toNat : Int) ≤ 9 then
      if (b.toNat : Int) = 7 ∨ (b.toNat : Int) = 8 then untF b.toNat (unT l [] 1) else
      if l.length + 1 < 9 then .no 4 else unnF b.toNat (unrankK b.toNat (beZ ⟨⟨b :: l⟩⟩))
    else .no 5 := by
  unfold unkeyF
  rw [if_neg (by simp [ByteArray.size])]
  rfl

theorem unk_key (s : ByteArray) (he : (unkeyF s).e = 0) : ∃ n : Nat, (unkeyF s).n = (n : Int) ∧ n ≤ s.size ∧ keyT (unkeyF s).k (unkeyF s).z (unkeyF s).t true = s.extract 0 n ∧ word (unkeyF s).z := by
  revert he
  obtain ⟨⟨l⟩⟩ := s
  cases l with
  | nil => intro he; simp [unkeyF, Unk.no, ByteArray.size] at he
  | cons b l =>
    rw [unkeyF_cons]
    by_cases hr : 1 ≤ (b.toNat : Int) ∧ (b.toNat : Int) ≤ 9
    case neg => rw [if_neg hr]; intro he; simp [Unk.no] at he
    rw [if_pos hr]
    by_cases h78 : (b.toNat : Int) = 7 ∨ (b.toNat : Int) = 8
    · rw [if_pos h78]
      unfold untF
      by_cases hE : (unT l [] 1).2.2 = 0
      case neg => rw [if_pos hE]; intro he; exact absurd he hE
      rw [if_neg (by simpa using hE)]
      split
      case isFalse => intro he; simp [Unk.no] at he
      rename_i hf
      intro _
      obtain ⟨m, e1, e2, e3, e4⟩ := unT_back _ l [] 1 (Nat.le_refl _) hE
      refine ⟨(unT l [] 1).2.1, rfl, ?_, ?_, ⟨by show (0 : Int) ≤ 0; omega, by show (0 : Int) < _; omega⟩⟩
      · show _ ≤ (b :: l).length
        simp only [List.length_cons]; omega
      · show keyT (b.toNat : Int) 0 ⟨(unT l [] 1).1.toArray⟩ true = _
        unfold keyT
        rw [if_pos hf, if_pos h78]
        apply ByteArray.ext
        apply Array.ext'
        obtain ⟨N, hN⟩ : ∃ N, (unT l [] 1).2.1 = N + 1 := ⟨(unT l [] 1).2.1 - 1, by omega⟩
        rw [hN] at e2 ⊢
        rw [cut_list, ByteArray.data_append, ByteArray.data_append, Array.toList_append, Array.toList_append, one_byte b hr]
        rw [show N + 1 - 1 = N by omega] at e2
        rw [← e2, e1]
        simp
    · rw [if_neg h78]
      by_cases h9 : l.length + 1 < 9
      · rw [if_pos h9]; intro he; simp [Unk.no] at he
      rw [if_neg h9]
      unfold unnF
      split
      case isFalse => intro he; simp [Unk.no] at he
      rename_i hf
      obtain ⟨hf, hy⟩ := hf
      intro _
      have hu : word (beZ ⟨⟨b :: l⟩⟩) := takeZ_word _
      refine ⟨9, rfl, ?_, ?_, unrankK_word _ _ hu⟩
      · show 9 ≤ (b :: l).length
        simp only [List.length_cons]; omega
      · show keyT (b.toNat : Int) (unrankK b.toNat (beZ ⟨⟨b :: l⟩⟩)) ⟨#[]⟩ true = _
        unfold keyT
        rw [if_pos hf, if_neg h78, hy, rank_unrank _ _ hu]
        apply ByteArray.ext
        apply Array.ext'
        rw [cut_list b l 8, ByteArray.data_append, Array.toList_append, one_byte b hr, le_be _ (by show 9 ≤ (b :: l).length; simp only [List.length_cons]; omega)]
        rfl
end Go.Proofs.YtlgpoapedgodoaaDoor

/- A key is read back: what Unkey says of a key with anything behind it, and of a key cut short. -/
namespace Go.Proofs.YtlgpoapedgodoaaDoor
open Go.RowKit
set_option linter.unusedVariables false

theorem unT_esc : ∀ (l b acc : List UInt8) (p : Nat), unT (escT l ++ 0 :: 0 :: b) acc p = (acc ++ l, p + (escT l).length + 2, 0)
  | [], b, acc, p => by simp [escT, unT]
  | x :: l, b, acc, p => by
    by_cases hx : x = 0
    · subst hx
      have : escT (0 :: l) = 0 :: 255 :: escT l := by simp [escT]
      rw [this]
      show unT (0 :: 255 :: (escT l ++ 0 :: 0 :: b)) acc p = _
      rw [unT]
      simp only [ne_eq, not_true_eq_false, if_false]
      rw [if_neg (by decide), if_pos (by decide), unT_esc l b (acc ++ [0]) (p + 2)]
      simp [Prod.ext_iff]; omega
    · have : escT (x :: l) = x :: escT l := by simp [escT, hx]
      rw [this]
      show unT (x :: (escT l ++ 0 :: 0 :: b)) acc p = _
      rw [unT.eq_def]
      simp only [ne_eq, hx, not_false_eq_true, if_true]
      rw [unT_esc l b (acc ++ [x]) (p + 1)]
      simp [Prod.ext_iff]; omega

theorem unT_cut : ∀ (l acc : List UInt8) (p : Nat), unT (escT l ++ [0]) acc p = ([], 0, 4)
  | [], acc, p => by simp [escT, unT]
  | x :: l, acc, p => by
    by_cases hx : x = 0
    · subst hx
      have : escT (0 :: l) = 0 :: 255 :: escT l := by simp [escT]
      rw [this]
      show unT (0 :: 255 :: (escT l ++ [0])) acc p = _
      rw [unT]
      simp only [ne_eq, not_true_eq_false, if_false]
      rw [if_neg (by decide), if_pos (by decide), unT_cut l (acc ++ [0]) (p + 2)]
    · have : escT (x :: l) = x :: escT l := by simp [escT, hx]
      rw [this]
      show unT (x :: (escT l ++ [0])) acc p = _
      rw [unT.eq_def]
      simp only [ne_eq, hx, not_false_eq_true, if_true]
      rw [unT_cut l (acc ++ [x]) (p + 1)]

theorem unrank_rank (k z : Int) (h : word z) : unrankK k (rankK k z) = z := by
  obtain ⟨a, b⟩ := h
  unfold rankK unrankK flipZ
  by_cases h23 : k = 2 ∨ k = 3
  · simp only [if_pos h23]
    split <;> split <;> omega
  · simp only [if_neg h23]
    by_cases h6 : k = 6
    · simp only [if_pos h6]
      split <;> split <;> omega
    · simp only [if_neg h6]

theorem normZ_twice (k z : Int) : normZ k (normZ k z) = normZ k z := by
  unfold normZ
  split
  · split <;> rfl
  · rfl

theorem be_le (u : Int) (h : word u) (b0 : UInt8) (l : List UInt8) : beZ ⟨⟨b0 :: ((revB (strOfNums (leZ u))).data.toList ++ l)⟩⟩ = u := by
  obtain ⟨h0, h1⟩ := h
  have e : (revB (strOfNums (leZ u))).data.toList = [UInt8.ofNat (u / 72057594037927936 % 256).toNat, UInt8.ofNat (u / 281474976710656 % 256).toNat, UInt8.ofNat (u / 1099511627776 % 256).toNat, UInt8.ofNat (u / 4294967296 % 256).toNat, UInt8.ofNat (u / 16777216 % 256).toNat, UInt8.ofNat (u / 65536 % 256).toNat, UInt8.ofNat (u / 256 % 256).toNat, UInt8.ofNat (u % 256).toNat] := rfl
  rw [e]
  show beZ ⟨⟨b0 :: _ :: _ :: _ :: _ :: _ :: _ :: _ :: _ :: l⟩⟩ = u
  rw [be_list]
  have g : ∀ y : Int, 0 ≤ y → y < 256 → ((UInt8.ofNat y.toNat).toNat : Int) = y := fun y a b => by
    rw [UInt8.toNat_ofNat']; omega
  rw [g _ (by omega) (by omega), g _ (by omega) (by omega), g _ (by omega) (by omega), g _ (by omega) (by omega), g _ (by omega) (by omega), g _ (by omega) (by omega), g _ (by omega) (by omega), g _ (by omega) (by omega)]
  omega

theorem one_of (k : Int) (h : 1 ≤ k ∧ k ≤ 9) : ∃ b : UInt8, (b.toNat : Int) = k ∧ Utf8.encode k = ⟨#[b]⟩ := by
  refine ⟨UInt8.ofNat k.toNat, by rw [UInt8.toNat_ofNat']; omega, ?_⟩
  rw [enc_nums k h]
  rfl

/-- What a key is. -/
theorem key_shape (k z : Int) (t : ByteArray) (hz : word z) (hf : fitsB k k z t true = true) :
    ∃ (b : UInt8) (l : List UInt8), (b.toNat : Int) = k ∧ 1 ≤ k ∧ k ≤ 9 ∧ keyT k z t true = ⟨⟨b :: l⟩⟩ ∧
      (((k = 7 ∨ k = 8) ∧ z = 0 ∧ l = escT t.data.toList ++ [0, 0]) ∨ (¬ (k = 7 ∨ k = 8) ∧ t = ⟨#[]⟩ ∧ l = (revB (strOfNums (leZ (rankK k (normZ k z))))).data.toList)) := by
  have hf' := hf
  unfold fitsB leanB at hf'
  simp only [Bool.and_eq_true, decide_eq_true_eq, true_and, Bool.true_and] at hf'
  obtain ⟨⟨⟨⟨⟨hr, _⟩, hl⟩, _⟩, hs⟩, _⟩ := hf'
  obtain ⟨b, hb, he⟩ := one_of k hr
  unfold keyT
  rw [if_pos hf, he]
  by_cases h78 : k = 7 ∨ k = 8
  · rw [if_pos h78] at hl ⊢
    refine ⟨b, escT t.data.toList ++ [0, 0], hb, hr.1, hr.2, ?_, .inl ⟨h78, of_decide_eq_true hl, rfl⟩⟩
    apply ByteArray.ext
    apply Array.ext'
    rw [ByteArray.data_append, ByteArray.data_append, Array.toList_append, Array.toList_append]
    simp
  · rw [if_neg h78] at hl ⊢
    refine ⟨b, _, hb, hr.1, hr.2, ?_, .inr ⟨h78, ?_, rfl⟩⟩
    · apply ByteArray.ext
      apply Array.ext'
      rw [ByteArray.data_append, Array.toList_append]
      simp
    · have := of_decide_eq_true hl
      apply ByteArray.ext
      apply Array.eq_empty_of_size_eq_zero
      exact this

theorem rev_len (u : Int) : (revB (strOfNums (leZ u))).data.toList.length = 8 := by
  have : (revB (strOfNums (leZ u))).size = 8 := by rw [revB_size, strOfNums_size]; rfl
  rw [Array.length_toList]; exact this

theorem key_size (k z : Int) (t : ByteArray) (hz : word z) (hf : fitsB k k z t true = true) : 3 ≤ (keyT k z t true).size ∧ (keyT k z t true).size ≤ 8195 := by
  obtain ⟨b, l, hb, hk1, hk9, e, h⟩ := key_shape k z t hz hf
  rw [e]
  show 3 ≤ (b :: l).length ∧ (b :: l).length ≤ 8195
  simp only [List.length_cons]
  rcases h with ⟨_, _, rfl⟩ | ⟨_, _, rfl⟩
  · have h1 := escT_length t.data.toList
    have h2 := List.count_le_length (a := (0 : UInt8)) (l := t.data.toList)
    have h3 : t.data.toList.length = t.size := Array.length_toList
    have h4 : t.size ≤ 4096 := by
      unfold fitsB at hf
      simp only [Bool.and_eq_true, decide_eq_true_eq] at hf
      exact hf.1.2
    simp only [List.length_append, List.length_cons, List.length_nil]
    omega
  · rw [rev_len]; omega

theorem mk_append (l r : List UInt8) (c : ByteArray) : (⟨⟨l⟩⟩ : ByteArray) ++ c = ⟨⟨l ++ c.data.toList⟩⟩ := by
  apply ByteArray.ext
  apply Array.ext'
  rw [ByteArray.data_append, Array.toList_append]

theorem back_all (k z : Int) (t c : ByteArray) (hz : word z) (hf : fitsB k k z t true = true) :
    unkeyF (keyT k z t true ++ c) = ⟨k, normZ k z, t, ((keyT k z t true).size : Nat), 0⟩ := by
  obtain ⟨b, l, hb, hk1, hk9, e, h⟩ := key_shape k z t hz hf
  rw [e, mk_append _ []]
  show unkeyF ⟨⟨b :: (l ++ c.data.toList)⟩⟩ = ⟨k, normZ k z, t, (((b :: l).length : Nat) : Int), 0⟩
  rw [unkeyF_cons, hb, if_pos ⟨hk1, hk9⟩]
  rcases h with ⟨h78, rfl, rfl⟩ | ⟨h78, rfl, rfl⟩
  · rw [if_pos h78, show escT t.data.toList ++ [0, 0] ++ c.data.toList = escT t.data.toList ++ 0 :: 0 :: c.data.toList by simp, unT_esc]
    unfold untF
    rw [if_neg (by simp)]
    have et : (⟨(([] : List UInt8) ++ t.data.toList).toArray⟩ : ByteArray) = t := by apply ByteArray.ext; apply Array.ext'; simp
    simp only [et]
    rw [if_pos hf, normZ_no k 0 (by omega)]
    congr 1
    simp only [List.length_cons, List.length_append, List.length_nil]
    omega
  · rw [if_neg h78, if_neg (by rw [List.length_append, rev_len]; omega), be_le _ (rankK_word k _ (normZ_word k z hz)), unrank_rank k _ (normZ_word k z hz)]
    unfold unnF
    have hf2 : fitsB k k (normZ k z) ⟨#[]⟩ true = true := by
      by_cases h6 : k = 6
      · subst h6
        revert hf
        unfold fitsB leanB withinB
        simp
      · rw [normZ_no k z h6]; exact hf
    rw [if_pos ⟨hf2, normZ_twice k z⟩]
    congr 1

theorem back_cut (k z : Int) (t : ByteArray) (hz : word z) (hf : fitsB k k z t true = true) :
    unkeyF ((keyT k z t true).extract 0 ((keyT k z t true).size - 1)) = .no 4 := by
  obtain ⟨b, l, hb, hk1, hk9, e, h⟩ := key_shape k z t hz hf
  rw [e]
  have hs : (ByteArray.mk ⟨b :: l⟩).size = l.length + 1 := rfl
  rw [hs, Nat.add_sub_cancel]
  obtain ⟨N, hN⟩ : ∃ N, l.length = N + 1 := by
    rcases h with ⟨_, _, rfl⟩ | ⟨_, _, rfl⟩
    · exact ⟨(escT t.data.toList).length + 1, by simp⟩
    · exact ⟨7, rev_len _⟩
  have hx : ByteArray.extract ⟨⟨b :: l⟩⟩ 0 l.length = ⟨⟨b :: l.take (l.length - 1)⟩⟩ := by
    apply ByteArray.ext
    apply Array.ext'
    rw [hN, cut_list, Nat.add_sub_cancel]
  rw [hx, unkeyF_cons, hb, if_pos ⟨hk1, hk9⟩]
  rcases h with ⟨h78, rfl, rfl⟩ | ⟨h78, rfl, rfl⟩
  · rw [if_pos h78]
    have : (escT t.data.toList ++ [0, 0]).take ((escT t.data.toList ++ [0, 0]).length - 1) = escT t.data.toList ++ [0] := by
      have e1 : (escT t.data.toList ++ [0, 0]).length - 1 = (escT t.data.toList ++ [(0 : UInt8)]).length := by simp
      rw [e1, show escT t.data.toList ++ [0, 0] = (escT t.data.toList ++ [0]) ++ [0] by simp, List.take_left]
    rw [this, unT_cut]
    unfold untF
    rw [if_pos (by simp)]
  · rw [if_neg h78, if_pos (by rw [List.length_take, rev_len]; omega)]
end Go.Proofs.YtlgpoapedgodoaaDoor
