/- The reference's comparing of entries. -/
import Derived.Test.YtlgpoapedgodoaaDoorRraw
namespace Go.Proofs.YtlgpoapedgodoaaDoor
open Go.RowKit

set_option maxRecDepth 8000 in
set_option maxHeartbeats 2000000 in
theorem rpairs_ok (n : Nat) (HC : Hid (RCmp n)) (v1 v2 : Value) (xs ys : List (VT n × VT n)) (w : World) (h1 : RowAt 14 (RPair n) w v1 xs) (h2 : RowAt 14 (RPair n) w v2 ys) :
    Calls Tryd.prog 51 #[v1, v2] w fun e w' => e = .returned (.int .i64 (cmpL (cmpP (cmpV n)) xs ys)) ∧ Below w.heap.size w w' := by
  obtain ⟨ao, c, rfl, hc, hm, g1⟩ := h1.opened
  obtain ⟨ao', c', rfl, hc', hm', g2⟩ := h2.opened
  obtain ⟨L, HL⟩ : ∃ L, Hid (L = xs.length) := ⟨_, Lib.hid rfl⟩
  obtain ⟨L', HL'⟩ : ∃ L, Hid (L = ys.length) := ⟨_, Lib.hid rfl⟩
  rw [← HL.out] at hc
  rw [← HL'.out] at hc'
  rw [← HL.out, ← HL'.out]
  obtain ⟨R, HR⟩ : ∃ R : Int, Hid (R = cmpL (cmpP (cmpV n)) xs ys) := ⟨_, Lib.hid rfl⟩
  rw [← HR.out]
  have G1 := Lib.hid g1
  have G2 := Lib.hid g2
  clear g1 g2 h1 h2
  unfold maxLen at hm hm'
  go_enter Tryd.func51, Tryd.ntmps51
  go_wp2_with fail
  go_loopw [5, 6, 7] (fun t _ _ wr => ∃ k : Nat, k ≤ L ∧ k ≤ L' ∧ t = .int .i64 k ∧ Hid (R = cmpL (cmpP (cmpV n)) (xs.drop k) (ys.drop k)) ∧ Below w.heap.size w wr) (fun t _ _ _ => L - (intOf t).toNat)
  case atStart => exact ⟨0, Nat.zero_le _, Nat.zero_le _, rfl, HR, Below.refl _ _⟩
  case round =>
    obtain ⟨k, hk, hk', rfl, HK, hb⟩ := hrel
    have HB := Lib.hid hb
    clear hb
    by_cases hlt : k < L
    · by_cases hlt' : k < L'
      · obtain ⟨x, hx⟩ : ∃ x, xs[k]? = some x := ⟨_, List.getElem?_eq_getElem (by rw [← HL.out]; exact hlt)⟩
        obtain ⟨y, hy⟩ : ∃ y, ys[k]? = some y := ⟨_, List.getElem?_eq_getElem (by rw [← HL'.out]; exact hlt')⟩
        obtain ⟨b, o, rfl, cs, hl, hcs, hRx⟩ := (G1.out k x hx).keep HB.out (fun _ _ h => RPair.keep HB.out h)
        obtain ⟨b', o', rfl, cs', hl', hcs', hRy⟩ := (G2.out k y hy).keep HB.out (fun _ _ h => RPair.keep HB.out h)
        obtain ⟨q1, q2, rfl, hRx1, hRx2⟩ := hRx
        obtain ⟨ekx, ezx, etx, d1x, l1x, c1x, d2x, l2x, c2x, d3x, l3x, c3x, d4x, l4x, c4x, rfl⟩ := hRx1.seven
        obtain ⟨eky, ezy, ety, d1y, l1y, c1y, d2y, l2y, c2y, d3y, l3y, c3y, d4y, l4y, c4y, rfl⟩ := hRx2.seven
        obtain ⟨q1', q2', rfl, hRy1, hRy2⟩ := hRy
        obtain ⟨ekx', ezx', etx', d1x', l1x', c1x', d2x', l2x', c2x', d3x', l3x', c3x', d4x', l4x', c4x', rfl⟩ := hRy1.seven
        obtain ⟨eky', ezy', ety', d1y', l1y', c1y', d2y', l2y', c2y', d3y', l3y', c3y', d4y', l4y', c4y', rfl⟩ := hRy2.seven
        have A : wr.cell? ⟨b, o + k * 14, none⟩ = some (.int .i64 ekx) ∧ wr.cell? ⟨b, o + k * 14 + 1, none⟩ = some (.int .u64 ezx) ∧ wr.cell? ⟨b, o + k * 14 + 2, none⟩ = some (.string etx) ∧ wr.cell? ⟨b, o + k * 14 + 3, none⟩ = some (.slice d1x l1x c1x) ∧ wr.cell? ⟨b, o + k * 14 + 4, none⟩ = some (.slice d2x l2x c2x) ∧ wr.cell? ⟨b, o + k * 14 + 5, none⟩ = some (.slice d3x l3x c3x) ∧ wr.cell? ⟨b, o + k * 14 + 6, none⟩ = some (.slice d4x l4x c4x) ∧ wr.cell? ⟨b, o + k * 14 + 7, none⟩ = some (.int .i64 eky) ∧ wr.cell? ⟨b, o + k * 14 + 7 + 1, none⟩ = some (.int .u64 ezy) ∧ wr.cell? ⟨b, o + k * 14 + 7 + 2, none⟩ = some (.string ety) ∧ wr.cell? ⟨b, o + k * 14 + 7 + 3, none⟩ = some (.slice d1y l1y c1y) ∧ wr.cell? ⟨b, o + k * 14 + 7 + 4, none⟩ = some (.slice d2y l2y c2y) ∧ wr.cell? ⟨b, o + k * 14 + 7 + 5, none⟩ = some (.slice d3y l3y c3y) ∧ wr.cell? ⟨b, o + k * 14 + 7 + 6, none⟩ = some (.slice d4y l4y c4y) :=
          ⟨hcs 0 _ rfl, by simp only [Nat.add_assoc]; exact hcs 1 _ rfl, by simp only [Nat.add_assoc]; exact hcs 2 _ rfl, by simp only [Nat.add_assoc]; exact hcs 3 _ rfl, by simp only [Nat.add_assoc]; exact hcs 4 _ rfl, by simp only [Nat.add_assoc]; exact hcs 5 _ rfl, by simp only [Nat.add_assoc]; exact hcs 6 _ rfl, by simp only [Nat.add_assoc]; exact hcs 7 _ rfl, by simp only [Nat.add_assoc]; exact hcs 8 _ rfl, by simp only [Nat.add_assoc]; exact hcs 9 _ rfl, by simp only [Nat.add_assoc]; exact hcs 10 _ rfl, by simp only [Nat.add_assoc]; exact hcs 11 _ rfl, by simp only [Nat.add_assoc]; exact hcs 12 _ rfl, by simp only [Nat.add_assoc]; exact hcs 13 _ rfl⟩
        have B : wr.cell? ⟨b', o' + k * 14, none⟩ = some (.int .i64 ekx') ∧ wr.cell? ⟨b', o' + k * 14 + 1, none⟩ = some (.int .u64 ezx') ∧ wr.cell? ⟨b', o' + k * 14 + 2, none⟩ = some (.string etx') ∧ wr.cell? ⟨b', o' + k * 14 + 3, none⟩ = some (.slice d1x' l1x' c1x') ∧ wr.cell? ⟨b', o' + k * 14 + 4, none⟩ = some (.slice d2x' l2x' c2x') ∧ wr.cell? ⟨b', o' + k * 14 + 5, none⟩ = some (.slice d3x' l3x' c3x') ∧ wr.cell? ⟨b', o' + k * 14 + 6, none⟩ = some (.slice d4x' l4x' c4x') ∧ wr.cell? ⟨b', o' + k * 14 + 7, none⟩ = some (.int .i64 eky') ∧ wr.cell? ⟨b', o' + k * 14 + 7 + 1, none⟩ = some (.int .u64 ezy') ∧ wr.cell? ⟨b', o' + k * 14 + 7 + 2, none⟩ = some (.string ety') ∧ wr.cell? ⟨b', o' + k * 14 + 7 + 3, none⟩ = some (.slice d1y' l1y' c1y') ∧ wr.cell? ⟨b', o' + k * 14 + 7 + 4, none⟩ = some (.slice d2y' l2y' c2y') ∧ wr.cell? ⟨b', o' + k * 14 + 7 + 5, none⟩ = some (.slice d3y' l3y' c3y') ∧ wr.cell? ⟨b', o' + k * 14 + 7 + 6, none⟩ = some (.slice d4y' l4y' c4y') :=
          ⟨hcs' 0 _ rfl, by simp only [Nat.add_assoc]; exact hcs' 1 _ rfl, by simp only [Nat.add_assoc]; exact hcs' 2 _ rfl, by simp only [Nat.add_assoc]; exact hcs' 3 _ rfl, by simp only [Nat.add_assoc]; exact hcs' 4 _ rfl, by simp only [Nat.add_assoc]; exact hcs' 5 _ rfl, by simp only [Nat.add_assoc]; exact hcs' 6 _ rfl, by simp only [Nat.add_assoc]; exact hcs' 7 _ rfl, by simp only [Nat.add_assoc]; exact hcs' 8 _ rfl, by simp only [Nat.add_assoc]; exact hcs' 9 _ rfl, by simp only [Nat.add_assoc]; exact hcs' 10 _ rfl, by simp only [Nat.add_assoc]; exact hcs' 11 _ rfl, by simp only [Nat.add_assoc]; exact hcs' 12 _ rfl, by simp only [Nat.add_assoc]; exact hcs' 13 _ rfl⟩
        have HRx1 := Lib.hid hRx1
        have HRx2 := Lib.hid hRx2
        have HRy1 := Lib.hid hRy1
        have HRy2 := Lib.hid hRy2
        have HA := Lib.hid A
        have HBB := Lib.hid B
        have HX := Lib.hid (And.intro hx hy)
        clear A B hcs hcs' hx hy hRx1 hRx2 hRy1 hRy2
        have i0 : (0 : Int) ≤ (k : Int) := by omega
        have i1 : (k : Int) < (L : Int) := by omega
        have i2 : (k : Int) < (L' : Int) := by omega
        obtain ⟨D0, HD0⟩ : ∃ D : Int, Hid (D = cmpV n x.1 y.1) := ⟨_, Lib.hid rfl⟩
        have K0 : Hid (∀ w' : World, Below wr.heap.size wr w' → Calls Tryd.prog 15 #[.agg #[.int .i64 ekx, .int .u64 ezx, .string etx, .slice d1x l1x c1x, .slice d2x l2x c2x, .slice d3x l3x c3x, .slice d4x l4x c4x], .agg #[.int .i64 ekx', .int .u64 ezx', .string etx', .slice d1x' l1x' c1x', .slice d2x' l2x' c2x', .slice d3x' l3x' c3x', .slice d4x' l4x' c4x']] w' fun e w2 => e = .returned (.int .i64 D0) ∧ Below w'.heap.size w' w2) := by
          intro w' hb
          rw [HD0.out]
          exact HC.out _ _ x.1 y.1 _ ⟨_, _, _, _, _, _, _, _, _, _, _, _, _, _, _, rfl, RVal.keep hb n _ _ HRx1.out⟩ ⟨_, _, _, _, _, _, _, _, _, _, _, _, _, _, _, rfl, RVal.keep hb n _ _ HRy1.out⟩
        obtain ⟨D1, HD1⟩ : ∃ D : Int, Hid (D = cmpV n x.2 y.2) := ⟨_, Lib.hid rfl⟩
        have K1 : Hid (∀ w' : World, Below wr.heap.size wr w' → Calls Tryd.prog 15 #[.agg #[.int .i64 eky, .int .u64 ezy, .string ety, .slice d1y l1y c1y, .slice d2y l2y c2y, .slice d3y l3y c3y, .slice d4y l4y c4y], .agg #[.int .i64 eky', .int .u64 ezy', .string ety', .slice d1y' l1y' c1y', .slice d2y' l2y' c2y', .slice d3y' l3y' c3y', .slice d4y' l4y' c4y']] w' fun e w2 => e = .returned (.int .i64 D1) ∧ Below w'.heap.size w' w2) := by
          intro w' hb
          rw [HD1.out]
          exact HC.out _ _ x.2 y.2 _ ⟨_, _, _, _, _, _, _, _, _, _, _, _, _, _, _, rfl, RVal.keep hb n _ _ HRx2.out⟩ ⟨_, _, _, _, _, _, _, _, _, _, _, _, _, _, _, rfl, RVal.keep hb n _ _ HRy2.out⟩
        have HK2 : Hid (R = orI (orI D0 D1) (cmpL (cmpP (cmpV n)) (xs.drop (k + 1)) (ys.drop (k + 1)))) := by
          have := HK.out
          rw [cmpL_drop (cmpP (cmpV n)) k xs ys (by rw [← HL.out]; exact hlt) (by rw [← HL'.out]; exact hlt') x y HX.out.1 HX.out.2] at this
          rw [HD0.out, HD1.out]
          exact this
        go_wp2_with fail
        have a0 : ∀ s : Up wr, s.w.cell? ⟨b, o + k * 14, none⟩ = some (.int .i64 ekx) := fun s => held (s.h) HA.out.1
        have a1 : ∀ s : Up wr, s.w.cell? ⟨b, o + k * 14 + 1, none⟩ = some (.int .u64 ezx) := fun s => held (s.h) HA.out.2.1
        have a2 : ∀ s : Up wr, s.w.cell? ⟨b, o + k * 14 + 2, none⟩ = some (.string etx) := fun s => held (s.h) HA.out.2.2.1
        have a3 : ∀ s : Up wr, s.w.cell? ⟨b, o + k * 14 + 3, none⟩ = some (.slice d1x l1x c1x) := fun s => held (s.h) HA.out.2.2.2.1
        have a4 : ∀ s : Up wr, s.w.cell? ⟨b, o + k * 14 + 4, none⟩ = some (.slice d2x l2x c2x) := fun s => held (s.h) HA.out.2.2.2.2.1
        have a5 : ∀ s : Up wr, s.w.cell? ⟨b, o + k * 14 + 5, none⟩ = some (.slice d3x l3x c3x) := fun s => held (s.h) HA.out.2.2.2.2.2.1
        have a6 : ∀ s : Up wr, s.w.cell? ⟨b, o + k * 14 + 6, none⟩ = some (.slice d4x l4x c4x) := fun s => held (s.h) HA.out.2.2.2.2.2.2.1
        have b0 : ∀ s : Up wr, s.w.cell? ⟨b', o' + k * 14, none⟩ = some (.int .i64 ekx') := fun s => held (s.h) HBB.out.1
        have b1 : ∀ s : Up wr, s.w.cell? ⟨b', o' + k * 14 + 1, none⟩ = some (.int .u64 ezx') := fun s => held (s.h) HBB.out.2.1
        have b2 : ∀ s : Up wr, s.w.cell? ⟨b', o' + k * 14 + 2, none⟩ = some (.string etx') := fun s => held (s.h) HBB.out.2.2.1
        have b3 : ∀ s : Up wr, s.w.cell? ⟨b', o' + k * 14 + 3, none⟩ = some (.slice d1x' l1x' c1x') := fun s => held (s.h) HBB.out.2.2.2.1
        have b4 : ∀ s : Up wr, s.w.cell? ⟨b', o' + k * 14 + 4, none⟩ = some (.slice d2x' l2x' c2x') := fun s => held (s.h) HBB.out.2.2.2.2.1
        have b5 : ∀ s : Up wr, s.w.cell? ⟨b', o' + k * 14 + 5, none⟩ = some (.slice d3x' l3x' c3x') := fun s => held (s.h) HBB.out.2.2.2.2.2.1
        have b6 : ∀ s : Up wr, s.w.cell? ⟨b', o' + k * 14 + 6, none⟩ = some (.slice d4x' l4x' c4x') := fun s => held (s.h) HBB.out.2.2.2.2.2.2.1
        refine wp_region_up (by kernel_rfl) (by kernel_rfl) ?_
        repeat (go_big_quiet_step ((go_at_call 15; with_reducible exact calls_up (K0.out _ ((InClass.h _))))))
        refine wpQuiet_nil ?_
        rintro _ ⟨s0, rfl⟩
        clear a0 b0 a1 b1 a2 b2 a3 b3 a4 b4 a5 b5 a6 b6
        by_cases hD0 : D0 = 0
        · subst hD0
          go_wp2_with fail
          have a7 : ∀ s : Up s0.w, s.w.cell? ⟨b, o + k * 14 + 7, none⟩ = some (.int .i64 eky) := fun s => held (above s0.h s.h) HA.out.2.2.2.2.2.2.2.1
          have a8 : ∀ s : Up s0.w, s.w.cell? ⟨b, o + k * 14 + 7 + 1, none⟩ = some (.int .u64 ezy) := fun s => held (above s0.h s.h) HA.out.2.2.2.2.2.2.2.2.1
          have a9 : ∀ s : Up s0.w, s.w.cell? ⟨b, o + k * 14 + 7 + 2, none⟩ = some (.string ety) := fun s => held (above s0.h s.h) HA.out.2.2.2.2.2.2.2.2.2.1
          have a10 : ∀ s : Up s0.w, s.w.cell? ⟨b, o + k * 14 + 7 + 3, none⟩ = some (.slice d1y l1y c1y) := fun s => held (above s0.h s.h) HA.out.2.2.2.2.2.2.2.2.2.2.1
          have a11 : ∀ s : Up s0.w, s.w.cell? ⟨b, o + k * 14 + 7 + 4, none⟩ = some (.slice d2y l2y c2y) := fun s => held (above s0.h s.h) HA.out.2.2.2.2.2.2.2.2.2.2.2.1
          have a12 : ∀ s : Up s0.w, s.w.cell? ⟨b, o + k * 14 + 7 + 5, none⟩ = some (.slice d3y l3y c3y) := fun s => held (above s0.h s.h) HA.out.2.2.2.2.2.2.2.2.2.2.2.2.1
          have a13 : ∀ s : Up s0.w, s.w.cell? ⟨b, o + k * 14 + 7 + 6, none⟩ = some (.slice d4y l4y c4y) := fun s => held (above s0.h s.h) HA.out.2.2.2.2.2.2.2.2.2.2.2.2.2
          have b7 : ∀ s : Up s0.w, s.w.cell? ⟨b', o' + k * 14 + 7, none⟩ = some (.int .i64 eky') := fun s => held (above s0.h s.h) HBB.out.2.2.2.2.2.2.2.1
          have b8 : ∀ s : Up s0.w, s.w.cell? ⟨b', o' + k * 14 + 7 + 1, none⟩ = some (.int .u64 ezy') := fun s => held (above s0.h s.h) HBB.out.2.2.2.2.2.2.2.2.1
          have b9 : ∀ s : Up s0.w, s.w.cell? ⟨b', o' + k * 14 + 7 + 2, none⟩ = some (.string ety') := fun s => held (above s0.h s.h) HBB.out.2.2.2.2.2.2.2.2.2.1
          have b10 : ∀ s : Up s0.w, s.w.cell? ⟨b', o' + k * 14 + 7 + 3, none⟩ = some (.slice d1y' l1y' c1y') := fun s => held (above s0.h s.h) HBB.out.2.2.2.2.2.2.2.2.2.2.1
          have b11 : ∀ s : Up s0.w, s.w.cell? ⟨b', o' + k * 14 + 7 + 4, none⟩ = some (.slice d2y' l2y' c2y') := fun s => held (above s0.h s.h) HBB.out.2.2.2.2.2.2.2.2.2.2.2.1
          have b12 : ∀ s : Up s0.w, s.w.cell? ⟨b', o' + k * 14 + 7 + 5, none⟩ = some (.slice d3y' l3y' c3y') := fun s => held (above s0.h s.h) HBB.out.2.2.2.2.2.2.2.2.2.2.2.2.1
          have b13 : ∀ s : Up s0.w, s.w.cell? ⟨b', o' + k * 14 + 7 + 6, none⟩ = some (.slice d4y' l4y' c4y') := fun s => held (above s0.h s.h) HBB.out.2.2.2.2.2.2.2.2.2.2.2.2.2
          refine wp_region_up (by kernel_rfl) (by kernel_rfl) ?_
          repeat (go_big_quiet_step ((go_at_call 15; with_reducible exact calls_up (K1.out _ (above s0.h (InClass.h _))))))
          refine wpQuiet_nil ?_
          rintro _ ⟨s1, rfl⟩
          clear a7 b7 a8 b8 a9 b9 a10 b10 a11 b11 a12 b12 a13 b13
          by_cases hD1 : D1 = 0
          · subst hD1
            have HB2 := Lib.hid (above (above HB.out s0.h) s1.h)
            clear i0 i1 i2
            go_wp2_with fail
            go_roundw
            case rel => exact ⟨k + 1, by omega, by omega, by go_num, Lib.hid (by rw [HK2.out]; simp only [orI_zero]), HB2.out⟩
            case measure => simp [intOf]; omega
          · have hC' : (D1 != 0) = true := by simp [hD1]
            have HCC := Lib.hid hD1
            have HB2 := Lib.hid (above (above HB.out s0.h) s1.h)
            clear hD1 i0 i1 i2
            go_wp2_with fail
            go_ret
            exact ⟨ret_int (by rw [HK2.out, orI_zero, orI_ne HCC.out]), HB2.out⟩
        · have hC' : (D0 != 0) = true := by simp [hD0]
          have HCC := Lib.hid hD0
          have HB2 := Lib.hid (above HB.out s0.h)
          clear hD0 i0 i1 i2
          go_wp2_with fail
          go_ret
          exact ⟨ret_int (by rw [HK2.out, orI_ne HCC.out, orI_ne HCC.out]), HB2.out⟩
      · have HG : Hid (R = 1) := Lib.hid (by rw [HK.out]; exact cmpL_more _ k xs ys (by rw [← HL.out]; exact hlt) (by rw [← HL'.out]; omega))
        have hgt : (L' : Int) < (L : Int) := by omega
        have HN : Hid (∀ w' : World, Calls Tryd.prog 49 #[.int .i64 L, .int .i64 L'] w' fun e w2 => e = .returned (.int .i64 1) ∧ w2 = w') := by
          intro w'
          rw [show (1 : Int) = cmpI L L' by unfold cmpI; rw [if_neg (by omega), if_pos (by omega)]]
          exact number_ok _ _ _
        go_wp2_with fail
        refine calls_same (HN.out _) ?_
        go_wp2_with fail
        go_ret
        exact ⟨ret_int HG.out.symm, HB.out⟩
    · have HG : Hid (R = cmpI L L') := Lib.hid (by
        rw [HK.out, cmpL_end _ k xs ys (by rw [← HL.out]; omega) (by rw [← HL'.out]; omega), ← HL.out, ← HL'.out]
        unfold cmpI
        by_cases h : L < L'
        · rw [if_pos h, if_pos (by omega)]
        · rw [if_neg h, if_neg (by omega), if_neg (by omega)])
      have HN : Hid (∀ w' : World, Calls Tryd.prog 49 #[.int .i64 L, .int .i64 L'] w' fun e w2 => e = .returned (.int .i64 R) ∧ w2 = w') := by
        intro w'
        rw [HG.out]
        exact number_ok _ _ _
      go_wp2_with fail
      refine calls_same (HN.out _) ?_
      go_wp2_with fail
      go_ret
      exact ⟨rfl, HB.out⟩
end Go.Proofs.YtlgpoapedgodoaaDoor
