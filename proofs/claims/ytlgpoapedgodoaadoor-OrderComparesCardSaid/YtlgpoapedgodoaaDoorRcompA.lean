/- The reference's comparing of lists of values. -/
import Derived.Test.YtlgpoapedgodoaaDoorRraw
namespace Go.Proofs.YtlgpoapedgodoaaDoor
open Go.RowKit

set_option maxRecDepth 8000 in
set_option maxHeartbeats 2000000 in
theorem rlists_ok (n : Nat) (HC : Hid (RCmp n)) (v1 v2 : Value) (xs ys : List (VT n)) (w : World) (h1 : RowAt 7 (RVal n) w v1 xs) (h2 : RowAt 7 (RVal n) w v2 ys) :
    Calls Tryd.prog 50 #[v1, v2] w fun e w' => e = .returned (.int .i64 (cmpL (cmpV n) xs ys)) ∧ Below w.heap.size w w' := by
  obtain ⟨ao, c, rfl, hc, hm, g1⟩ := h1.opened
  obtain ⟨ao', c', rfl, hc', hm', g2⟩ := h2.opened
  obtain ⟨L, HL⟩ : ∃ L, Hid (L = xs.length) := ⟨_, Lib.hid rfl⟩
  obtain ⟨L', HL'⟩ : ∃ L, Hid (L = ys.length) := ⟨_, Lib.hid rfl⟩
  rw [← HL.out] at hc
  rw [← HL'.out] at hc'
  rw [← HL.out, ← HL'.out]
  obtain ⟨R, HR⟩ : ∃ R : Int, Hid (R = cmpL (cmpV n) xs ys) := ⟨_, Lib.hid rfl⟩
  rw [← HR.out]
  have G1 := Lib.hid g1
  have G2 := Lib.hid g2
  clear g1 g2 h1 h2
  unfold maxLen at hm hm'
  go_enter Tryd.func50, Tryd.ntmps50
  go_wp2_with fail
  go_loopw [5, 6] (fun t _ wr => ∃ k : Nat, k ≤ L ∧ k ≤ L' ∧ t = .int .i64 k ∧ Hid (R = cmpL (cmpV n) (xs.drop k) (ys.drop k)) ∧ Below w.heap.size w wr) (fun t _ _ => L - (intOf t).toNat)
  case atStart => exact ⟨0, Nat.zero_le _, Nat.zero_le _, rfl, HR, Below.refl _ _⟩
  case round =>
    obtain ⟨k, hk, hk', rfl, HK, hb⟩ := hrel
    have HB := Lib.hid hb
    clear hb
    by_cases hlt : k < L
    · by_cases hlt' : k < L'
      · obtain ⟨x, hx⟩ : ∃ x, xs[k]? = some x := ⟨_, List.getElem?_eq_getElem (by rw [← HL.out]; exact hlt)⟩
        obtain ⟨y, hy⟩ : ∃ y, ys[k]? = some y := ⟨_, List.getElem?_eq_getElem (by rw [← HL'.out]; exact hlt')⟩
        obtain ⟨b, o, rfl, cs, hl, hcs, hRx⟩ := (G1.out k x hx).keep HB.out (fun _ _ h => RVal.keep HB.out n _ _ h)
        obtain ⟨b', o', rfl, cs', hl', hcs', hRy⟩ := (G2.out k y hy).keep HB.out (fun _ _ h => RVal.keep HB.out n _ _ h)
        obtain ⟨ek, ez, et, d1, l1, c1, d2, l2, c2, d3, l3, c3, d4, l4, c4, rfl⟩ := hRx.seven
        obtain ⟨ek', ez', et', d1', l1', c1', d2', l2', c2', d3', l3', c3', d4', l4', c4', rfl⟩ := hRy.seven
        have A : wr.cell? ⟨b, o + k * 7, none⟩ = some (.int .i64 ek) ∧ wr.cell? ⟨b, o + k * 7 + 1, none⟩ = some (.int .u64 ez) ∧ wr.cell? ⟨b, o + k * 7 + 2, none⟩ = some (.string et) ∧ wr.cell? ⟨b, o + k * 7 + 3, none⟩ = some (.slice d1 l1 c1) ∧ wr.cell? ⟨b, o + k * 7 + 4, none⟩ = some (.slice d2 l2 c2) ∧ wr.cell? ⟨b, o + k * 7 + 5, none⟩ = some (.slice d3 l3 c3) ∧ wr.cell? ⟨b, o + k * 7 + 6, none⟩ = some (.slice d4 l4 c4) :=
          ⟨hcs 0 _ rfl, by simp only [Nat.add_assoc]; exact hcs 1 _ rfl, by simp only [Nat.add_assoc]; exact hcs 2 _ rfl, by simp only [Nat.add_assoc]; exact hcs 3 _ rfl, by simp only [Nat.add_assoc]; exact hcs 4 _ rfl, by simp only [Nat.add_assoc]; exact hcs 5 _ rfl, by simp only [Nat.add_assoc]; exact hcs 6 _ rfl⟩
        have B : wr.cell? ⟨b', o' + k * 7, none⟩ = some (.int .i64 ek') ∧ wr.cell? ⟨b', o' + k * 7 + 1, none⟩ = some (.int .u64 ez') ∧ wr.cell? ⟨b', o' + k * 7 + 2, none⟩ = some (.string et') ∧ wr.cell? ⟨b', o' + k * 7 + 3, none⟩ = some (.slice d1' l1' c1') ∧ wr.cell? ⟨b', o' + k * 7 + 4, none⟩ = some (.slice d2' l2' c2') ∧ wr.cell? ⟨b', o' + k * 7 + 5, none⟩ = some (.slice d3' l3' c3') ∧ wr.cell? ⟨b', o' + k * 7 + 6, none⟩ = some (.slice d4' l4' c4') :=
          ⟨hcs' 0 _ rfl, by simp only [Nat.add_assoc]; exact hcs' 1 _ rfl, by simp only [Nat.add_assoc]; exact hcs' 2 _ rfl, by simp only [Nat.add_assoc]; exact hcs' 3 _ rfl, by simp only [Nat.add_assoc]; exact hcs' 4 _ rfl, by simp only [Nat.add_assoc]; exact hcs' 5 _ rfl, by simp only [Nat.add_assoc]; exact hcs' 6 _ rfl⟩
        have HRx := Lib.hid hRx
        have HRy := Lib.hid hRy
        have HA := Lib.hid A
        have HBB := Lib.hid B
        have HX := Lib.hid (And.intro hx hy)
        clear A B hcs hcs' hx hy hRx hRy
        have i0 : (0 : Int) ≤ (k : Int) := by omega
        have i1 : (k : Int) < (L : Int) := by omega
        have i2 : (k : Int) < (L' : Int) := by omega
        obtain ⟨D0, HD0⟩ : ∃ D : Int, Hid (D = cmpV n x y) := ⟨_, Lib.hid rfl⟩
        have K0 : Hid (∀ w' : World, Below wr.heap.size wr w' → Calls Tryd.prog 15 #[.agg #[.int .i64 ek, .int .u64 ez, .string et, .slice d1 l1 c1, .slice d2 l2 c2, .slice d3 l3 c3, .slice d4 l4 c4], .agg #[.int .i64 ek', .int .u64 ez', .string et', .slice d1' l1' c1', .slice d2' l2' c2', .slice d3' l3' c3', .slice d4' l4' c4']] w' fun e w2 => e = .returned (.int .i64 D0) ∧ Below w'.heap.size w' w2) := by
          intro w' hb
          rw [HD0.out]
          exact HC.out _ _ x y _ ⟨_, _, _, _, _, _, _, _, _, _, _, _, _, _, _, rfl, RVal.keep hb n _ _ HRx.out⟩ ⟨_, _, _, _, _, _, _, _, _, _, _, _, _, _, _, rfl, RVal.keep hb n _ _ HRy.out⟩
        have HK2 : Hid (R = orI (D0) (cmpL (cmpV n) (xs.drop (k + 1)) (ys.drop (k + 1)))) := by
          have := HK.out
          rw [cmpL_drop (cmpV n) k xs ys (by rw [← HL.out]; exact hlt) (by rw [← HL'.out]; exact hlt') x y HX.out.1 HX.out.2] at this
          rw [HD0.out]
          exact this
        go_wp2_with fail
        have a0 : ∀ s : Up wr, s.w.cell? ⟨b, o + k * 7, none⟩ = some (.int .i64 ek) := fun s => held (s.h) HA.out.1
        have a1 : ∀ s : Up wr, s.w.cell? ⟨b, o + k * 7 + 1, none⟩ = some (.int .u64 ez) := fun s => held (s.h) HA.out.2.1
        have a2 : ∀ s : Up wr, s.w.cell? ⟨b, o + k * 7 + 2, none⟩ = some (.string et) := fun s => held (s.h) HA.out.2.2.1
        have a3 : ∀ s : Up wr, s.w.cell? ⟨b, o + k * 7 + 3, none⟩ = some (.slice d1 l1 c1) := fun s => held (s.h) HA.out.2.2.2.1
        have a4 : ∀ s : Up wr, s.w.cell? ⟨b, o + k * 7 + 4, none⟩ = some (.slice d2 l2 c2) := fun s => held (s.h) HA.out.2.2.2.2.1
        have a5 : ∀ s : Up wr, s.w.cell? ⟨b, o + k * 7 + 5, none⟩ = some (.slice d3 l3 c3) := fun s => held (s.h) HA.out.2.2.2.2.2.1
        have a6 : ∀ s : Up wr, s.w.cell? ⟨b, o + k * 7 + 6, none⟩ = some (.slice d4 l4 c4) := fun s => held (s.h) HA.out.2.2.2.2.2.2
        have b0 : ∀ s : Up wr, s.w.cell? ⟨b', o' + k * 7, none⟩ = some (.int .i64 ek') := fun s => held (s.h) HBB.out.1
        have b1 : ∀ s : Up wr, s.w.cell? ⟨b', o' + k * 7 + 1, none⟩ = some (.int .u64 ez') := fun s => held (s.h) HBB.out.2.1
        have b2 : ∀ s : Up wr, s.w.cell? ⟨b', o' + k * 7 + 2, none⟩ = some (.string et') := fun s => held (s.h) HBB.out.2.2.1
        have b3 : ∀ s : Up wr, s.w.cell? ⟨b', o' + k * 7 + 3, none⟩ = some (.slice d1' l1' c1') := fun s => held (s.h) HBB.out.2.2.2.1
        have b4 : ∀ s : Up wr, s.w.cell? ⟨b', o' + k * 7 + 4, none⟩ = some (.slice d2' l2' c2') := fun s => held (s.h) HBB.out.2.2.2.2.1
        have b5 : ∀ s : Up wr, s.w.cell? ⟨b', o' + k * 7 + 5, none⟩ = some (.slice d3' l3' c3') := fun s => held (s.h) HBB.out.2.2.2.2.2.1
        have b6 : ∀ s : Up wr, s.w.cell? ⟨b', o' + k * 7 + 6, none⟩ = some (.slice d4' l4' c4') := fun s => held (s.h) HBB.out.2.2.2.2.2.2
        refine wp_region_up (by kernel_rfl) (by kernel_rfl) ?_
        repeat (go_big_quiet_step ((go_at_call 15; with_reducible exact calls_up (K0.out _ ((InClass.h _))))))
        refine wpQuiet_nil ?_
        rintro _ ⟨s0, rfl⟩
        clear a0 b0 a1 b1 a2 b2 a3 b3 a4 b4 a5 b5 a6 b6
        by_cases hD0 : D0 = 0
        · subst hD0
          have HB2 := Lib.hid (above HB.out s0.h)
          clear i0 i1 i2
          go_wp2_with fail
          go_roundw
          case rel => exact ⟨k + 1, by omega, by omega, by go_num, Lib.hid (by rw [HK2.out]; simp only [orI_zero]), HB2.out⟩
          case measure => simp [intOf]; omega
        · have hC' : (D0 != 0) = true := by simp [hD0]
          have HCC := Lib.hid hD0
          have HB2 := Lib.hid (above HB.out s0.h)
          clear hD0 i0 i1 i2
          go_wp2_with fail
          go_ret
          exact ⟨ret_int (by rw [HK2.out, orI_ne HCC.out]), HB2.out⟩
      · have HG : Hid (R = 1) := Lib.hid (by rw [HK.out]; exact cmpL_more _ k xs ys (by rw [← HL.out]; exact hlt) (by rw [← HL'.out]; omega))
        have hgt : (L' : Int) < (L : Int) := by omega
        have HN : Hid (∀ w' : World, Calls Tryd.prog 49 #[.int .i64 L, .int .i64 L'] w' fun e w2 => e = .returned (.int .i64 1) ∧ w2 = w') := by
          intro w'
          rw [show (1 : Int) = cmpI L L' by unfold cmpI; rw [if_neg (by omega), if_pos (by omega)]]
          exact number_ok _ _ _
        go_wp2_with fail
        refine calls_same (HN.out _) ?_
        go_wp2_with fail
        go_ret
        exact ⟨ret_int HG.out.symm, HB.out⟩
    · have HG : Hid (R = cmpI L L') := Lib.hid (by
        rw [HK.out, cmpL_end _ k xs ys (by rw [← HL.out]; omega) (by rw [← HL'.out]; omega), ← HL.out, ← HL'.out]
        unfold cmpI
        by_cases h : L < L'
        · rw [if_pos h, if_pos (by omega)]
        · rw [if_neg h, if_neg (by omega), if_neg (by omega)])
      have HN : Hid (∀ w' : World, Calls Tryd.prog 49 #[.int .i64 L, .int .i64 L'] w' fun e w2 => e = .returned (.int .i64 R) ∧ w2 = w') := by
        intro w'
        rw [HG.out]
        exact number_ok _ _ _
      go_wp2_with fail
      refine calls_same (HN.out _) ?_
      go_wp2_with fail
      go_ret
      exact ⟨rfl, HB.out⟩
end Go.Proofs.YtlgpoapedgodoaaDoor
