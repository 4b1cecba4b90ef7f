/- RetryBounded: the walk. -/
import Derived.Test.YtmihbfknhflfiaaRetryFacts
import Derived.Test.YtmihbfknhflfiaaRetryCalls
import Derived.Test.YtmihbfknhflfiaaRetryInner
namespace Go.Proofs.Ytmihbfknhflfiaa
open Go.RowKit

set_option maxHeartbeats 2000000 in
theorem bounded_no (a b c d t m g : Int) (v : Value) (n : Nat) (safe : Bool) (w : World) (hq : ReadsQ w v n) (hno : ¬ (okP a b c d ∧ okB t m g ∧ n ≤ 40)) :
    Calls Try.prog 8 #[.agg #[.int .i64 a, .int .i64 b, .int .i64 c, .int .i64 d], .agg #[.int .i64 t, .int .i64 m, .int .i64 g], v, .bool safe] w fun e w' => e = .returned (.bool true) ∧ Below w.heap.size w w' := by
  have hW := PB.made a b c d t m g w
  have hB := made_below a b c d t m g w
  have HW := Lib.hid hW; clear hW
  obtain ⟨ao, cc, rfl, hn, _⟩ := hq
  by_cases hp : okP a b c d
  case neg =>
    go_enter Try.func8, Try.ntmps8
    go_wp2_with fail
    refine (rcheck_no _ _ _ _ _ hp).mono ?_
    rintro e w1 ⟨rfl, hb1⟩
    go_wp2_with fail
    go_ret
    exact ⟨rfl, hB.trans (hb1.mono (by simp; omega))⟩
  by_cases hq : okB t m g
  case neg =>
    go_enter Try.func8, Try.ntmps8
    go_wp2_with fail
    refine (rcheck_ok _ _ _ _ _ hp).mono ?_
    rintro e w1 ⟨rfl, hb1⟩
    have HP1 := HW.out.keep hb1
    have hB1 := hB.trans (hb1.mono (by simp; omega))
    obtain ⟨_, ⟨t0, t1, t2⟩, hs⟩ := HP1
    go_wp2_with fail
    refine (rcheckb_no _ _ _ _ hq).mono ?_
    rintro e w2 ⟨rfl, hb2⟩
    go_wp2_with fail
    go_ret
    exact ⟨rfl, hB1.trans (hb2.mono (by omega))⟩
  have hn40 : 40 < (n : Int) := by
    by_cases h : n ≤ 40
    · exact absurd ⟨hp, hq, h⟩ hno
    · omega
  clear hno
  go_enter Try.func8, Try.ntmps8
  go_wp2_with fail
  refine (rcheck_ok _ _ _ _ _ hp).mono ?_
  rintro e w1 ⟨rfl, hb1⟩
  have HP1 := HW.out.keep hb1
  have hB1 := hB.trans (hb1.mono (by simp; omega))
  obtain ⟨_, ⟨t0, t1, t2⟩, hs⟩ := HP1
  go_wp2_with fail
  refine (rcheckb_ok _ _ _ _ hq).mono ?_
  rintro e w2 ⟨rfl, hb2⟩
  go_wp2_with fail
  go_ret
  exact ⟨rfl, hB1.trans (hb2.mono (by omega))⟩

/-- The relation of the outer loop. -/
def BLoop (K n : Nat) (a b c d m g : Int) (w : World) (tv i : Value) (wr : World) : Prop :=
  ∃ (k : Nat) (lt tk : Int), k ≤ n ∧ i = .int .i64 k ∧ tv = .int .i64 tk ∧ okB lt m g ∧ lt ≤ tk ∧ tk ≤ 1000000 + 1000 * (k : Int) ∧ BMem w.heap.size K a b c d lt m g wr ∧ Below w.heap.size w wr

set_option maxRecDepth 100000 in
set_option maxHeartbeats 4000000 in
theorem bounded_yes (a b c d t m g : Int) (v : Value) (n : Nat) (safe : Bool) (w : World) (hq : ReadsQ w v n) (hp : okP a b c d) (hb : okB t m g) (hn40 : n ≤ 40) :
    Calls Try.prog 8 #[.agg #[.int .i64 a, .int .i64 b, .int .i64 c, .int .i64 d], .agg #[.int .i64 t, .int .i64 m, .int .i64 g], v, .bool safe] w fun e w' => e = .returned (.bool true) ∧ Below w.heap.size w w' := by
  have hW := PB.made a b c d t m g w
  have hB := made_below a b c d t m g w
  have HQ : Hid (ReadsQ w v n) := hq
  have HW := Lib.hid hW; clear hW
  obtain ⟨ao, cc, rfl, hz1, hz2⟩ := hq
  clear hz1 hz2
  go_enter Try.func8, Try.ntmps8
  go_wp2_with fail
  refine (rcheck_ok _ _ _ _ _ hp).mono ?_
  rintro e w1 ⟨rfl, hb1⟩
  have HP1 := Lib.hid (HW.out.keep hb1)
  have hB1 := hB.trans (hb1.mono (by simp; omega))
  obtain ⟨hz1, ⟨t0, t1, t2⟩, hs⟩ := HP1.out
  clear hz1
  clear HW hB hb1
  go_wp2_with fail
  refine (rcheckb_ok _ _ _ _ hb).mono ?_
  rintro e w2 ⟨rfl, hb2⟩
  have HP2 := Lib.hid (HP1.out.keep hb2)
  have hB2 := hB1.trans (hb2.mono (by omega))
  clear t0 t1 t2 hs HP1 hB1 hb2
  obtain ⟨⟨p0, p1, p2, p3⟩, ⟨t0, t1, t2⟩, hs⟩ := HP2.out
  have l1 : w.heap.size + 1 < w2.heap.size := by omega
  go_wp2_with fail
  go_region
  go_wp2_with fail
  have hM : BMem w.heap.size w2.heap.size a b c d t m g ((w2.alloc (.cells #[.int .i64 t, .int .i64 m, .int .i64 g] 25)).drew) := by
    refine ⟨⟨?_, ?_, ?_, ?_⟩, blk_new' _ _ rfl, by omega⟩
    · exact (World.cell?_alloc_past _ _ _ (by omega)).trans p0
    · exact (World.cell?_alloc_past _ _ _ (by omega)).trans p1
    · exact (World.cell?_alloc_past _ _ _ (by omega)).trans p2
    · exact (World.cell?_alloc_past _ _ _ (by omega)).trans p3
  have hBs : Below w.heap.size w ((w2.alloc (.cells #[.int .i64 t, .int .i64 m, .int .i64 g] 25)).drew) := (hB2.alloc (by omega) _).drew
  obtain ⟨K, hK⟩ : ∃ K, w2.heap.size = K := ⟨_, rfl⟩
  obtain ⟨W3, hW3⟩ : ∃ W3, (w2.alloc (.cells #[.int .i64 t, .int .i64 m, .int .i64 g] 25)).drew = W3 := ⟨_, rfl⟩
  rw [hW3] at hM hBs ⊢
  rw [hK] at hM ⊢
  clear hW3 hK p0 p1 p2 p3 t0 t1 t2 hs l1 HP2 hB2
  have hn40' : (n : Int) ≤ 40 := by omega
  go_loopw [9, 11] (fun tv i wr => BLoop K n a b c d m g w tv i wr) (fun _ i _ => n - (intOf i).toNat)
  case atStart => exact ⟨0, t, t, Nat.zero_le _, rfl, rfl, hb, Int.le_refl _, by have := hb.1; have := hb.2.2.1; omega, hM, hBs⟩
  case round =>
    obtain ⟨k, lt, tk, hk, rfl, rfl, hlb, hlt, htk, hM2, hBr⟩ := hrel
    clear hM hBs
    by_cases hkn : k < n
    case neg =>
      go_wp2_with fail
      refine (awake_any _).mono ?_
      rintro e w4 ⟨rfl, hb4⟩
      go_wp2_with fail
      go_ret
      exact ⟨rfl, hBr.trans (hb4.mono hBr.size)⟩
    obtain ⟨ao', c', hv, hn64, hr⟩ := HQ.out
    simp only [Value.slice.injEq] at hv
    obtain ⟨rfl, hz1, rfl⟩ := hv
    clear hz1
    rcases hr with h0 | ⟨qb, qo, rfl, hcell⟩
    · omega
    obtain ⟨x, y, z, hx0, hy0, hz0⟩ := hcell k hkn
    have hqb := World.block_lt_of_cell? w _ hx0
    have hx : wr.cell? ⟨qb, qo + k * 3, none⟩ = some (.int .i64 x) := (hBr.cell hqb).trans hx0
    have hy : wr.cell? ⟨qb, qo + k * 3 + 1, none⟩ = some (.int .i64 y) := (hBr.cell (p := ⟨qb, qo + k * 3 + 1, none⟩) hqb).trans hy0
    have hz : wr.cell? ⟨qb, qo + k * 3 + 2, none⟩ = some (.int .i64 z) := (hBr.cell (p := ⟨qb, qo + k * 3 + 2, none⟩) hqb).trans hz0
    have kp : ∀ w : World, Calls Try.prog 23 #[.agg #[.int .i64 a, .int .i64 b, .int .i64 c, .int .i64 d], .agg #[.int .i64 lt, .int .i64 m, .int .i64 g], .int .i64 x, .int .i64 y, .int .i64 z, .bool safe] w
      (PlanPost m g (planOf a b c d lt m g x y z safe).1 (planOf a b c d lt m g x y z safe).2 w) := fun w => plan_any a b c d lt m g x y z safe w
    have hgood := planOf_good (now := x) (dl := y) (code := z) (safe := safe) hp hlb
    obtain ⟨L, hL⟩ : ∃ L, (planOf a b c d lt m g x y z safe).1 = L := ⟨_, rfl⟩
    obtain ⟨fi, hf⟩ : ∃ f, (planOf a b c d lt m g x y z safe).2 = f := ⟨_, rfl⟩
    rw [hL, hf] at kp hgood
    have KP := Lib.hid kp
    have HG := Lib.hid hgood
    clear kp hgood hL hf hx0 hy0 hz0 hcell hqb
    have HM := Lib.hid hM2
    obtain ⟨⟨p0, p1, p2, p3⟩, hKb, hBK⟩ := hM2
    have t0 := blk_cell hKb 0 rfl
    have t1 := blk_cell hKb 1 rfl
    have t2 := blk_cell hKb 2 rfl
    have lK := HM.out.lt
    have lB : w.heap.size < wr.heap.size := by omega
    clear hKb
    have b1 : (0 : Int) ≤ (k : Int) := by omega
    have b2 : (k : Int) < (n : Int) := by omega
    go_wp2_with fail
    refine (KP.out _).mono ?_
    rintro e w4 ⟨v4, rfl, hO4, hb4⟩
    have hk4 := (keep1 hb4).2.2.2
    have HM4 : Hid (BMem w.heap.size K a b c d lt m g w4) := HM.out.keep hk4
    have HQ4 : Hid (w4.heap[wr.heap.size]? = some (.cells #[.int .i64 x, .int .i64 y, .int .i64 z] 40 (0, 0))) := blk_keep hb4 (blk_new wr _)
    have HR4 := Lib.hid (ReadsI.of_owns hO4)
    have hB4 := hBr.trans (hk4.mono hBr.size)
    clear p0 p1 p2 p3 t0 t1 t2 lK lB hx hy hz hO4 hBr HM hk4 hb4 KP
    obtain ⟨nl, hnl⟩ : ∃ nl, L.length = nl := ⟨_, rfl⟩
    obtain ⟨ao4, c4, hv4, hc4, hz1, hform⟩ := HR4.out.form
    clear hz1
    have HV4 := Lib.hid hv4
    rw [hnl] at hv4 hc4
    have hla : (nl : Int) ≤ a := by rw [← hnl]; exact HG.out.2.1
    have hl10 : nl ≤ 10 := by rw [← hnl]; exact HG.out.2.2.1
    have HN := Lib.hid hnl
    have HF4 := Lib.hid hform
    obtain ⟨⟨p0, p1, p2, p3⟩, hKb, hz1⟩ := HM4.out
    clear hz1
    have t0 := blk_cell hKb 0 rfl
    have t1 := blk_cell hKb 1 rfl
    have t2 := blk_cell hKb 2 rfl
    have lK := HM4.out.lt
    have lB : w.heap.size < w4.heap.size := by omega
    have HI : Hid (IMem w.heap.size K wr.heap.size w4.heap.size a b c d lt m g x y z fi v4 L w (w4.alloc (.cells #[.int .i64 fi, .int .i64 m, .int .i64 g] 25))) := by
      have hk : Below w4.heap.size w4 (w4.alloc (.cells #[.int .i64 fi, .int .i64 m, .int .i64 g] 25)) := (Below.refl _ _).alloc (Nat.le_refl _) _
      exact ⟨HM4.out.keep hk, blk_keep hk HQ4.out, blk_new _ _, HR4.out.keep hk, by simp; omega, hB4.trans (hk.mono (by omega))⟩
    clear hKb hform
    have hEq := fun (a b c a' b' c' : Int) (w : World) => eq_budget a b c a' b' c' w
    have h1000 : okB lt m g := hlb
    have hg0 : 0 ≤ g := hlb.2.2.2.1
    have hg1 : g ≤ 1000 := hlb.2.2.2.2
    have htk9 : 0 ≤ tk := by have := hlb.2.1; omega
    have hk40 : (k : Int) ≤ 40 := by omega
    clear hlb
    subst hv4
    by_cases hnil : nl = 0
    · have hL0 : L = [] := List.length_eq_zero_iff.1 (HN.out.trans hnil)
      have hfi : fi = lt := HG.out.2.2.2.1 hL0
      have HTK : Hid (fi ≤ tk ∧ tk ≤ 1000000 + 1000 * ((k : Int) + 1)) := ⟨by omega, by omega⟩
      subst hfi
      have hnl0 : ((nl : Int) == 0) = true := by simp [hnil]
      have hnl1 : (nl : Int) ≤ 0 := by omega
      have HNL := Lib.hid hnil; clear hnil
      go_wp2_with fail
      clear p0 p1 p2 p3 t0 t1 t2 lK lB HM4 HQ4 hB4 hEq
      go_loopw [15] (fun i wi => BInner w.heap.size K wr.heap.size w4.heap.size a b c d fi m g x y z fi (.slice ao4 nl c4) L w i wi) (fun i _ => nl - (intOf i).toNat)
      case atStart => exact ⟨0, Nat.zero_le _, rfl, HI.out⟩
      case round =>
        obtain ⟨j, hj, rfl, hI⟩ := hrel
        clear HI
        rw [HN.out] at hj
        have HI := Lib.hid hI; clear hI
        by_cases hjn : j < nl
        · have := HNL.out; omega
        · have c0 := blk_cell HI.out.2.2.1 0 rfl
          have c1 := blk_cell HI.out.2.2.1 1 rfl
          have c2 := blk_cell HI.out.2.2.1 2 rfl
          have e0 := blk_cell HI.out.1.2.1 0 rfl
          have e1 := blk_cell HI.out.1.2.1 1 rfl
          have e2 := blk_cell HI.out.1.2.1 2 rfl
          have f0 := blk_free HI.out.1.2.1 0
          have f1 := blk_free HI.out.1.2.1 1
          have f2 := blk_free HI.out.1.2.1 2
          have hjn' : (nl : Int) ≤ (j : Int) := by omega
          go_wp2_with fail
          refine (checkb_ok _ _ _ _ HG.out.1).mono ?_
          rintro e w6 ⟨rfl, hb6⟩
          have HM6 : Hid (BMem w.heap.size K a b c d fi m g w6) := (HI.out.1.left fi).keep hb6
          have hB6 : Below w.heap.size w w6 := (set3_below HI.out.2.2.2.2.2 (by omega) _ _ _).trans (hb6.mono (by show w.heap.size ≤ (set3 wr K (.int .i64 fi) (.int .i64 m) (.int .i64 g)).heap.size; rw [set3_size]; exact HI.out.2.2.2.2.1))
          clear c0 c1 c2 e0 e1 e2 f0 f1 f2 HI hb6
          have e0 := blk_cell HM6.out.2.1 0 rfl
          have htk0 : 0 ≤ tk := by have := HG.out.1.2.1; have := HTK.out; omega
          have htk1 : fi ≤ tk := HTK.out.1
          go_wp2_with fail
          all_goals first | (exfalso; omega) | skip
          go_roundw
          case rel => exact ⟨k + 1, fi, tk, by omega, by go_num, by go_num, HG.out.1, HTK.out.1, by have := HTK.out; omega, HM6.out, hB6⟩
          case measure => simp [intOf]; omega
    · have hne : ((nl : Int) == 0) = false := by simp; omega
      have hpos : (0 : Int) < (nl : Int) := by omega
      have hLne : L ≠ [] := fun h => hnil (by rw [← HN.out, h]; rfl)
      have hfi := HG.out.2.2.2.2.1 hLne
      rw [HN.out] at hfi
      have HTK : Hid (fi ≤ tk + g - 1000 * ((nl : Int) - 1) ∧ tk + g - 1000 * ((nl : Int) - 1) ≤ 1000000 + 1000 * ((k : Int) + 1)) := ⟨by omega, by omega⟩
      have hfi0 : 0 ≤ fi := HG.out.1.2.1
      clear hfi
      go_wp2_with fail
      have HIN := HI.out
      obtain ⟨ao5, c5, hv5, hz5, hr5⟩ := HIN.2.2.2.1
      simp only [Value.slice.injEq] at hv5
      obtain ⟨rfl, hv6, rfl⟩ := hv5
      clear hv6 hz5
      rcases hr5 with h5 | ⟨gg, rfl, hcell⟩
      · exact absurd h5 hLne
      clear hcell p0 p1 p2 p3 t0 t1 t2 lK lB HM4 HQ4 hB4 hEq HI
      refine inner_loop w.heap.size K wr.heap.size w4.heap.size gg nl c4 a b c d lt m g x y z fi L w _ _ _ _ _ _ _ _ _ _ _ _ _ _ _ _ _ _ _ _ _ _ _ _ _ _ _ _ _ _ _ _ _ _ _ _ _ _ _ _ _ _ _ _ _ _ _ _ _ _ _ _ _ _ _ _ _ _ _ _ _ _ _ _ _ _ _ _ _ _ _ _ _ _ _ _ _ _ _ _ _ _ _ _ _ _ _ _ _ _ _ _ _ _ _ _ _ _ _ _ _ _ _ _ _ _ _ _ _ _ _ _ _ _ _ _ _ _ _ _ _ _ _ _ _ _ _ _ _ _ _ _ _ _ _ _ _ _ _ _ _ _ _ _ _ _ hp HG.out HN.out hLne HIN ?_
      intro a' wi hI
      clear HIN
      unfold WI at hI
      obtain ⟨i, hI⟩ := hI
      obtain ⟨u8, hI⟩ := hI
      obtain ⟨u82, hI⟩ := hI
      obtain ⟨u83, hI⟩ := hI
      obtain ⟨u84, hI⟩ := hI
      obtain ⟨u85, hI⟩ := hI
      obtain ⟨u86, hI⟩ := hI
      obtain ⟨u87, hI⟩ := hI
      obtain ⟨u88, hI⟩ := hI
      obtain ⟨u89, hI⟩ := hI
      obtain ⟨u90, hI⟩ := hI
      obtain ⟨u91, hI⟩ := hI
      obtain ⟨u92, hI⟩ := hI
      obtain ⟨u93, hI⟩ := hI
      obtain ⟨u94, hI⟩ := hI
      obtain ⟨u95, hI⟩ := hI
      obtain ⟨u96, hI⟩ := hI
      obtain ⟨u97, hI⟩ := hI
      obtain ⟨u98, hI⟩ := hI
      obtain ⟨u99, hI⟩ := hI
      obtain ⟨u100, hI⟩ := hI
      obtain ⟨u101, hI⟩ := hI
      obtain ⟨u102, hI⟩ := hI
      obtain ⟨u103, hI⟩ := hI
      obtain ⟨u104, hI⟩ := hI
      obtain ⟨u105, hI⟩ := hI
      obtain ⟨u106, hI⟩ := hI
      obtain ⟨u107, hI⟩ := hI
      obtain ⟨u108, hI⟩ := hI
      obtain ⟨u109, hI⟩ := hI
      obtain ⟨u110, hI⟩ := hI
      obtain ⟨u111, hI⟩ := hI
      obtain ⟨u112, hI⟩ := hI
      obtain ⟨u113, hI⟩ := hI
      obtain ⟨u114, hI⟩ := hI
      obtain ⟨u115, hI⟩ := hI
      obtain ⟨u116, hI⟩ := hI
      obtain ⟨u117, hI⟩ := hI
      obtain ⟨u118, hI⟩ := hI
      obtain ⟨u119, hI⟩ := hI
      obtain ⟨u120, hI⟩ := hI
      obtain ⟨u121, hI⟩ := hI
      obtain ⟨u122, hI⟩ := hI
      obtain ⟨u123, hI⟩ := hI
      obtain ⟨u124, hI⟩ := hI
      obtain ⟨u125, hI⟩ := hI
      obtain ⟨u126, hI⟩ := hI
      obtain ⟨u127, hI⟩ := hI
      obtain ⟨u128, hI⟩ := hI
      obtain ⟨u129, hI⟩ := hI
      obtain ⟨u130, hI⟩ := hI
      obtain ⟨u131, hI⟩ := hI
      obtain ⟨u132, hI⟩ := hI
      obtain ⟨⟨j, hj, rfl, hM⟩, rfl⟩ := hI
      clear hj
      have HI := Lib.hid hM; clear hM
      have c0 := blk_cell HI.out.2.2.1 0 rfl
      have c1 := blk_cell HI.out.2.2.1 1 rfl
      have c2 := blk_cell HI.out.2.2.1 2 rfl
      have e0 := blk_cell HI.out.1.2.1 0 rfl
      have e1 := blk_cell HI.out.1.2.1 1 rfl
      have e2 := blk_cell HI.out.1.2.1 2 rfl
      have f0 := blk_free HI.out.1.2.1 0
      have f1 := blk_free HI.out.1.2.1 1
      have f2 := blk_free HI.out.1.2.1 2
      simp only [Exit.inBlock]
      go_wp2_with fail
      refine (checkb_ok _ _ _ _ HG.out.1).mono ?_
      rintro e w6 ⟨rfl, hb6⟩
      have HM6 : Hid (BMem w.heap.size K a b c d fi m g w6) := (HI.out.1.left fi).keep hb6
      have hB6 : Below w.heap.size w w6 := (set3_below HI.out.2.2.2.2.2 (by omega) _ _ _).trans (hb6.mono (by show w.heap.size ≤ (set3 wi K (.int .i64 fi) (.int .i64 m) (.int .i64 g)).heap.size; rw [set3_size]; exact HI.out.2.2.2.2.1))
      clear c0 c1 c2 e0 e1 e2 f0 f1 f2 HI hb6
      have e0 := blk_cell HM6.out.2.1 0 rfl
      have htk0 : 0 ≤ (tk + g - 1000 * ((nl : Int) - 1)) := by have := HG.out.1.2.1; have := HTK.out; omega
      have htk1 : fi ≤ (tk + g - 1000 * ((nl : Int) - 1)) := HTK.out.1
      go_wp2_with fail
      all_goals first | (exfalso; omega) | skip
      go_roundw
      case rel => exact ⟨k + 1, fi, (tk + g - 1000 * ((nl : Int) - 1)), by omega, by go_num, by go_num, HG.out.1, HTK.out.1, by have := HTK.out; omega, HM6.out, hB6⟩
      case measure => simp [intOf]; omega

theorem bounded_walk (a b c d t m g : Int) (v : Value) (n : Nat) (safe : Bool) (w : World) (hq : ReadsQ w v n) :
    Calls Try.prog 8 #[.agg #[.int .i64 a, .int .i64 b, .int .i64 c, .int .i64 d], .agg #[.int .i64 t, .int .i64 m, .int .i64 g], v, .bool safe] w fun e w' => e = .returned (.bool true) ∧ Below w.heap.size w w' := by
  by_cases h : okP a b c d ∧ okB t m g ∧ n ≤ 40
  · exact bounded_yes a b c d t m g v n safe w hq h.1 h.2.1 h.2.2
  · exact bounded_no a b c d t m g v n safe w hq h
end Go.Proofs.Ytmihbfknhflfiaa
