/- The reference's Cmp, kind by kind. -/
import Derived.Test.YtlgpoapedgodoaaDoorRcompA
import Derived.Test.YtlgpoapedgodoaaDoorRcompB
import Derived.Test.YtlgpoapedgodoaaDoorRcompC
import Derived.Test.YtlgpoapedgodoaaDoorRcompD
namespace Go.Proofs.YtlgpoapedgodoaaDoor
open Go.RowKit


set_option maxRecDepth 8000 in
set_option maxHeartbeats 2000000 in
theorem rcmp_ne (ek ek' : Int) (ez ez' : Int) (et et' : ByteArray) (l1 l2 l3 l4 c1 c2 c3 c4 l1' l2' l3' l4' c1' c2' c3' c4' : Nat) (d1 d2 d3 d4 d1' d2' d3' d4' : Option Addr) (w : World) (h : (ek != ek') = true) :
    Calls Tryd.prog 15 #[.agg #[.int .i64 ek, .int .u64 ez, .string et, .slice d1 l1 c1, .slice d2 l2 c2, .slice d3 l3 c3, .slice d4 l4 c4], .agg #[.int .i64 ek', .int .u64 ez', .string et', .slice d1' l1' c1', .slice d2' l2' c2', .slice d3' l3' c3', .slice d4' l4' c4']] w fun e w' => e = .returned (.int .i64 (cmpI ek ek')) ∧ Below w.heap.size w w' := by
  go_enter Tryd.func15, Tryd.ntmps15
  go_wp2_with fail
  refine calls_box2 ?_
  intro W hA hB hb
  have HB := Lib.hid hb
  clear hb hA hB
  refine calls_same (number_ok _ _ _) ?_
  go_wp2_with fail
  go_ret
  exact ⟨rfl, HB.out⟩

set_option maxRecDepth 8000 in
set_option maxHeartbeats 2000000 in
theorem rcmp_l (ez ez' : Int) (et et' : ByteArray) (l1 l2 l3 l4 c1 c2 c3 c4 l1' l2' l3' l4' c1' c2' c3' c4' : Nat) (d1 d2 d3 d4 d1' d2' d3' d4' : Option Addr) (w : World) (R : Int) (K : Hid (∀ w' : World, Below w.heap.size w w' → Calls Tryd.prog 50 #[.slice d1 l1 c1, .slice d1' l1' c1'] w' fun e w2 => e = .returned (.int .i64 R) ∧ Below w'.heap.size w' w2)) :
    Calls Tryd.prog 15 #[.agg #[.int .i64 11, .int .u64 ez, .string et, .slice d1 l1 c1, .slice d2 l2 c2, .slice d3 l3 c3, .slice d4 l4 c4], .agg #[.int .i64 11, .int .u64 ez', .string et', .slice d1' l1' c1', .slice d2' l2' c2', .slice d3' l3' c3', .slice d4' l4' c4']] w fun e w' => e = .returned (.int .i64 (R)) ∧ Below w.heap.size w w' := by
  go_enter Tryd.func15, Tryd.ntmps15
  go_wp2_with fail
  refine calls_box2 ?_
  intro W hA hB hb
  have HB := Lib.hid hb
  clear hb hA hB
  refine calls_on (K.out _ HB.out) ?_
  intro w5 hb5
  have HB5 := Lib.hid (above HB.out hb5)
  clear hb5
  go_wp2_with fail
  go_ret
  exact ⟨rfl, HB5.out⟩

set_option maxRecDepth 8000 in
set_option maxHeartbeats 2000000 in
theorem rcmp_p (ez ez' : Int) (et et' : ByteArray) (l1 l2 l3 l4 c1 c2 c3 c4 l1' l2' l3' l4' c1' c2' c3' c4' : Nat) (d1 d2 d3 d4 d1' d2' d3' d4' : Option Addr) (w : World) (R : Int) (K : Hid (∀ w' : World, Below w.heap.size w w' → Calls Tryd.prog 51 #[.slice d2 l2 c2, .slice d2' l2' c2'] w' fun e w2 => e = .returned (.int .i64 R) ∧ Below w'.heap.size w' w2)) :
    Calls Tryd.prog 15 #[.agg #[.int .i64 12, .int .u64 ez, .string et, .slice d1 l1 c1, .slice d2 l2 c2, .slice d3 l3 c3, .slice d4 l4 c4], .agg #[.int .i64 12, .int .u64 ez', .string et', .slice d1' l1' c1', .slice d2' l2' c2', .slice d3' l3' c3', .slice d4' l4' c4']] w fun e w' => e = .returned (.int .i64 (R)) ∧ Below w.heap.size w w' := by
  go_enter Tryd.func15, Tryd.ntmps15
  go_wp2_with fail
  refine calls_box2 ?_
  intro W hA hB hb
  have HB := Lib.hid hb
  clear hb hA hB
  refine calls_on (K.out _ HB.out) ?_
  intro w5 hb5
  have HB5 := Lib.hid (above HB.out hb5)
  clear hb5
  go_wp2_with fail
  go_ret
  exact ⟨rfl, HB5.out⟩

set_option maxRecDepth 8000 in
set_option maxHeartbeats 2000000 in
theorem rcmp_m1 (ez ez' : Int) (et et' : ByteArray) (l1 l2 l3 l4 c1 c2 c3 c4 l1' l2' l3' l4' c1' c2' c3' c4' : Nat) (d1 d2 d3 d4 d1' d2' d3' d4' : Option Addr) (w : World) (R : Int) (h : (R != 0) = true) (K1 : Hid (∀ w' : World, Below w.heap.size w w' → Calls Tryd.prog 52 #[.slice d3 l3 c3, .slice d3' l3' c3'] w' fun e w2 => e = .returned (.int .i64 R) ∧ Below w'.heap.size w' w2)) :
    Calls Tryd.prog 15 #[.agg #[.int .i64 10, .int .u64 ez, .string et, .slice d1 l1 c1, .slice d2 l2 c2, .slice d3 l3 c3, .slice d4 l4 c4], .agg #[.int .i64 10, .int .u64 ez', .string et', .slice d1' l1' c1', .slice d2' l2' c2', .slice d3' l3' c3', .slice d4' l4' c4']] w fun e w' => e = .returned (.int .i64 (R)) ∧ Below w.heap.size w w' := by
  go_enter Tryd.func15, Tryd.ntmps15
  go_wp2_with fail
  refine calls_box2 ?_
  intro W hA hB hb
  have HB := Lib.hid hb
  clear hb hA hB
  refine calls_on (K1.out _ HB.out) ?_
  intro w5 hb5
  have HB5 := Lib.hid (above HB.out hb5)
  clear hb5
  go_wp2_with fail
  go_ret
  exact ⟨rfl, HB5.out⟩

set_option maxRecDepth 8000 in
set_option maxHeartbeats 2000000 in
theorem rcmp_m2 (ez ez' : Int) (et et' : ByteArray) (l1 l2 l3 l4 c1 c2 c3 c4 l1' l2' l3' l4' c1' c2' c3' c4' : Nat) (d1 d2 d3 d4 d1' d2' d3' d4' : Option Addr) (w : World) (S : Int) (K1 : Hid (∀ w' : World, Below w.heap.size w w' → Calls Tryd.prog 52 #[.slice d3 l3 c3, .slice d3' l3' c3'] w' fun e w2 => e = .returned (.int .i64 0) ∧ Below w'.heap.size w' w2)) (K2 : Hid (∀ w' : World, Below w.heap.size w w' → Calls Tryd.prog 53 #[.slice d4 l4 c4, .slice d4' l4' c4'] w' fun e w2 => e = .returned (.int .i64 S) ∧ Below w'.heap.size w' w2)) :
    Calls Tryd.prog 15 #[.agg #[.int .i64 10, .int .u64 ez, .string et, .slice d1 l1 c1, .slice d2 l2 c2, .slice d3 l3 c3, .slice d4 l4 c4], .agg #[.int .i64 10, .int .u64 ez', .string et', .slice d1' l1' c1', .slice d2' l2' c2', .slice d3' l3' c3', .slice d4' l4' c4']] w fun e w' => e = .returned (.int .i64 (S)) ∧ Below w.heap.size w w' := by
  go_enter Tryd.func15, Tryd.ntmps15
  go_wp2_with fail
  refine calls_box2 ?_
  intro W hA hB hb
  have HB := Lib.hid hb
  have HAB := Lib.hid (And.intro hA hB)
  clear hb hA hB
  refine calls_on (K1.out _ HB.out) ?_
  intro w5 hb5
  have HB5 := Lib.hid (above HB.out hb5)
  have hA3 := blk_keep hb5 HAB.out.1
  have hB3 := blk_keep hb5 HAB.out.2
  obtain ⟨a0, a1, a2, a3, a4, a5, a6⟩ := cells7 hA3
  obtain ⟨b0, b1, b2, b3, b4, b5, b6⟩ := cells7 hB3
  clear hb5 hA3 hB3
  go_wp2_with fail
  clear a0 a1 a2 a3 a4 a5 a6 b0 b1 b2 b3 b4 b5 b6
  refine calls_on (K2.out _ HB5.out) ?_
  intro w6 hb6
  have HB6 := Lib.hid (above HB5.out hb6)
  clear hb6
  go_wp2_with fail
  go_ret
  exact ⟨rfl, HB6.out⟩

set_option maxRecDepth 8000 in
set_option maxHeartbeats 2000000 in
theorem rcmp_s (ek : Int) (ez ez' : Int) (et et' : ByteArray) (l1 l2 l3 l4 c1 c2 c3 c4 l1' l2' l3' l4' c1' c2' c3' c4' : Nat) (d1 d2 d3 d4 d1' d2' d3' d4' : Option Addr) (w : World) (h1 : (ek == 11) = false) (h2 : (ek == 12) = false) (h3 : (ek == 10) = false) (HZ : Hid (word ez ∧ word ez')) :
    Calls Tryd.prog 15 #[.agg #[.int .i64 ek, .int .u64 ez, .string et, .slice d1 l1 c1, .slice d2 l2 c2, .slice d3 l3 c3, .slice d4 l4 c4], .agg #[.int .i64 ek, .int .u64 ez', .string et', .slice d1' l1' c1', .slice d2' l2' c2', .slice d3' l3' c3', .slice d4' l4' c4']] w fun e w' => e = .returned (.int .i64 (scalF ek ez et ek ez' et')) ∧ Below w.heap.size w w' := by
  go_enter Tryd.func15, Tryd.ntmps15
  go_wp2_with fail
  refine calls_box2 ?_
  intro W hA hB hb
  have HB := Lib.hid hb
  clear hb hA hB
  refine calls_on (rscal_eq _ _ _ _ _ _ _ _ _ _ _ _ _ _ HZ.out.1 HZ.out.2 _) ?_
  intro w5 hb5
  have HB5 := Lib.hid (above HB.out hb5)
  clear hb5
  go_wp2_with fail
  go_ret
  exact ⟨rfl, HB5.out⟩

theorem rcmp_succ (n : Nat) (H : RCmp n) : RCmp (n + 1) := by
  have HC := Lib.hid H
  clear H
  rintro v v' x y w ⟨ek, ez, et, d1, l1, c1, d2, l2, c2, d3, l3, c3, d4, l4, c4, rfl, g⟩ ⟨ek', ez', et', d1', l1', c1', d2', l2', c2', d3', l3', c3', d4', l4', c4', rfl, g'⟩
  obtain ⟨l, p, s, r, hcs, hbd, r1, r2, r3, r4⟩ := g
  obtain ⟨l', p', s', r', hcs', hbd', r1', r2', r3', r4'⟩ := g'
  simp only [List.cons.injEq, Value.int.injEq, Value.string.injEq, true_and, and_true] at hcs hcs'
  obtain ⟨e1, e2, e3, rfl, rfl, rfl, rfl⟩ := hcs
  obtain ⟨e1', e2', e3', rfl, rfl, rfl, rfl⟩ := hcs'
  show Calls _ _ _ _ fun e w' => e = .returned (.int .i64 (cmpN (cmpV n) x y)) ∧ _
  have hz : word ez := by unfold word; rw [e2]; omega
  have hz' : word ez' := by unfold word; rw [e2']; omega
  unfold cmpN
  rw [← e1, ← e1']
  by_cases hk : ek = ek'
  · subst hk
    rw [if_neg (by simp)]
    by_cases h2 : ek = 11
    · subst h2
      rw [if_neg (by omega), if_pos rfl]
      exact rcmp_l _ _ _ _ _ _ _ _ _ _ _ _ _ _ _ _ _ _ _ _ _ _ _ _ _ _ _ _ w _ (Lib.hid fun w' hb => rlists_ok n HC _ _ _ _ w' (r1.keep hb (fun _ _ h => RVal.keep hb n _ _ h)) (r1'.keep hb (fun _ _ h => RVal.keep hb n _ _ h)))
    · by_cases h3 : ek = 12
      · subst h3
        rw [if_neg (by omega), if_neg h2, if_pos rfl]
        exact rcmp_p _ _ _ _ _ _ _ _ _ _ _ _ _ _ _ _ _ _ _ _ _ _ _ _ _ _ _ _ w _ (Lib.hid fun w' hb => rpairs_ok n HC _ _ _ _ w' (r2.keep hb (fun _ _ h => RPair.keep hb h)) (r2'.keep hb (fun _ _ h => RPair.keep hb h)))
      · by_cases h4 : ek = 10
        · subst h4
          rw [if_neg (by omega), if_neg h2, if_neg h3, if_pos rfl]
          have K1 : Hid (∀ w' : World, Below w.heap.size w w' → Calls Tryd.prog 52 #[.slice d3 l3 c3, .slice d3' l3' c3'] w' fun e w2 => e = .returned (.int .i64 (cmpL (cmpS (cmpV n)) (VS.slots x) (VS.slots y))) ∧ Below w'.heap.size w' w2) :=
            Lib.hid fun w' hb => rslots_ok n HC _ _ _ _ w' (r3.keep hb (fun _ _ h => RSlot.keep hb h)) (r3'.keep hb (fun _ _ h => RSlot.keep hb h))
          by_cases h0 : cmpL (cmpS (cmpV n)) (VS.slots x) (VS.slots y) = 0
          · rw [h0] at K1 ⊢
            rw [orI_zero]
            exact rcmp_m2 _ _ _ _ _ _ _ _ _ _ _ _ _ _ _ _ _ _ _ _ _ _ _ _ _ _ _ _ w _ K1 (Lib.hid fun w' hb => rraws_ok _ _ _ _ w' (r4.keep hb (fun _ _ h => h)) (r4'.keep hb (fun _ _ h => h)))
          · rw [orI_ne h0]
            exact rcmp_m1 _ _ _ _ _ _ _ _ _ _ _ _ _ _ _ _ _ _ _ _ _ _ _ _ _ _ _ _ w _ (by simp [h0]) K1
        · have := rcmp_s ek ez ez' et et' l1 l2 l3 l4 c1 c2 c3 c4 l1' l2' l3' l4' c1' c2' c3' c4' d1 d2 d3 d4 d1' d2' d3' d4' w (by simp [h2]) (by simp [h3]) (by simp [h4]) (Lib.hid ⟨hz, hz'⟩)
          rw [show scalF ek ez et ek ez' et' = (if 1 ≤ ek ∧ ek ≤ 9 then scalC ek (VS.bits x) (VS.text x) (VS.bits y) (VS.text y) else if ek = 11 then cmpL (cmpV n) (VS.list x) (VS.list y) else if ek = 12 then cmpL (cmpP (cmpV n)) (VS.pairs x) (VS.pairs y) else if ek = 10 then orI (cmpL (cmpS (cmpV n)) (VS.slots x) (VS.slots y)) (cmpL cmpR (VS.raws x) (VS.raws y)) else 0) by
            rw [← e2, ← e3, ← e2', ← e3']
            by_cases h1 : 1 ≤ ek ∧ ek ≤ 9
            · rw [if_pos h1]; simp [scalF]
            · rw [if_neg h1, if_neg h2, if_neg h3, if_neg h4]; simp [scalF, scalC, h1]] at this
          exact this
  · rw [if_pos hk]
    exact rcmp_ne ek ek' _ _ _ _ _ _ _ _ _ _ _ _ _ _ _ _ _ _ _ _ _ _ _ _ _ _ _ _ w (by simp [hk])

/-- **The reference's Cmp, at every number of levels.** -/
theorem rcmp_all : ∀ n : Nat, RCmp n
  | 0 => by
    rintro v v' x y w ⟨ek, ez, et, d1, l1, c1, d2, l2, c2, d3, l3, c3, d4, l4, c4, rfl, g⟩ _
    exact g.elim
  | n + 1 => rcmp_succ n (rcmp_all n)
end Go.Proofs.YtlgpoapedgodoaaDoor
