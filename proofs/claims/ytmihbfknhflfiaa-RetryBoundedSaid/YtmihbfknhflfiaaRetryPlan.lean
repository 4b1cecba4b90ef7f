/- The contract of Plan. -/
import Derived.Test.YtmihbfknhflfiaaRetryPlanLaw
import Derived.Deep.RegionHeld3
import Derived.Deep.LoopGhost
import Derived.RegionTactic
import Derived.BigRegion
import Derived.WalkSpells
import Derived.Deep.Onto
import Derived.Lib.SmallJoins
namespace Go.Proofs.Ytmihbfknhflfiaa
open Go.RowKit

theorem infoInt : (Try.prog.info? 3).map (fun i => (i.zero, i.size, i.bytes)) = some (some (.int .i64 0), 1, 8) := by kernel_rfl

/-- What Plan's loop keeps of the three blocks. -/
def PlanMem (B : Nat) (a b c d t m g : Int) (w : World) : Prop :=
  w.heap[B]? = some (.cells #[.int .i64 a, .int .i64 b, .int .i64 c, .int .i64 d] 23 (0, 0)) ∧
  w.heap[B + 1]? = some (.cells #[.int .i64 t, .int .i64 m, .int .i64 g] 25 (0, 0)) ∧
  w.heap[B + 1 + 1]? = some (.cells #[.int .i64 0, .int .i64 0, .int .i64 0] 25 (0, 0))

theorem PlanMem.keep {B : Nat} {a b c d t m g : Int} {w w' : World} (h : PlanMem B a b c d t m g w) (hb : Below w.heap.size w w') : PlanMem B a b c d t m g w' := ⟨blk_keep hb h.1, blk_keep hb h.2.1, blk_keep hb h.2.2⟩
theorem PlanMem.lt {B : Nat} {a b c d t m g : Int} {w : World} (h : PlanMem B a b c d t m g w) : B + 1 + 1 + 1 ≤ w.heap.size := blk_lt h.2.2

theorem PlanMem.grown {B gg : Nat} {a b c d t m g : Int} {w w' : World} (h : PlanMem B a b c d t m g w) (hg : w.grownBy w' (some gg)) (hl : B + 1 + 1 + 1 ≤ gg) : PlanMem B a b c d t m g w' :=
  ⟨(hg.block _ (blk_lt h.1) (by simp; omega)).trans h.1, (hg.block _ (blk_lt h.2.1) (by simp; omega)).trans h.2.1, (hg.block _ (blk_lt h.2.2) (by simp; omega)).trans h.2.2⟩
theorem PlanMem.alloc {B : Nat} {a b c d t m g : Int} {w : World} (h : PlanMem B a b c d t m g w) (o : Obj) : PlanMem B a b c d t m g (w.alloc o) := ⟨blk_old h.1 o, blk_old h.2.1 o, blk_old h.2.2 o⟩
theorem PlanMem.paid {B : Nat} {a b c d t m g : Int} {w : World} (h : PlanMem B a b c d t m g w) (t' : Int) : PlanMem B a b c d t' m g (set3 w (B + 1) (.int .i64 t') (.int .i64 m) (.int .i64 g)) := ⟨set3_ne h.1 (by omega) _ _ _, set3_blk h.2.1 _ _ _, set3_ne h.2.2 (by omega) _ _ _⟩

theorem planMem_made (a b c d t m g : Int) (w : World) : PlanMem w.heap.size a b c d t m g (((w.alloc (.cells #[.int .i64 a, .int .i64 b, .int .i64 c, .int .i64 d] 23)).alloc (.cells #[.int .i64 t, .int .i64 m, .int .i64 g] 25)).alloc (.cells #[.int .i64 0, .int .i64 0, .int .i64 0] 25)) := by
  have h1 := blk_new w (.cells #[.int .i64 a, .int .i64 b, .int .i64 c, .int .i64 d] 23)
  have h2 := blk_new (w.alloc (.cells #[.int .i64 a, .int .i64 b, .int .i64 c, .int .i64 d] 23)) (.cells #[.int .i64 t, .int .i64 m, .int .i64 g] 25)
  have h3 := blk_new ((w.alloc (.cells #[.int .i64 a, .int .i64 b, .int .i64 c, .int .i64 d] 23)).alloc (.cells #[.int .i64 t, .int .i64 m, .int .i64 g] 25)) (.cells #[.int .i64 0, .int .i64 0, .int .i64 0] 25)
  simp only [World.size_alloc] at h2 h3
  exact ⟨blk_old (blk_old h1 _) _, blk_old h2 _, h3⟩
theorem planMem_below (a b c d t m g : Int) (w : World) : Below w.heap.size w (((w.alloc (.cells #[.int .i64 a, .int .i64 b, .int .i64 c, .int .i64 d] 23)).alloc (.cells #[.int .i64 t, .int .i64 m, .int .i64 g] 25)).alloc (.cells #[.int .i64 0, .int .i64 0, .int .i64 0] 25)) := by go_grown

/-- The relation of Plan's loop. -/
def PlanLoop (a b c d m g dl code : Int) (safe : Bool) (full : List Int) (fin : Int) (w : World) (v i : Value) (wr : World) : Prop :=
  ∃ (L : List Int) (last t : Int), i = .int .i64 L.length ∧ planAt a b c d m g dl code safe full fin L last t ∧ PlanMem w.heap.size a b c d t m g wr ∧
    wr.ownsRow (w.heap.size + 1 + 1 + 1) 3 1 v L.length (L.map (Value.int .i64)) ∧ Below w.heap.size w wr

theorem own_at {w : World} {base gg n cap k : Nat} {L : List Int} {last : Int} (h : w.ownsRow base 3 1 (.slice (some ⟨gg, 0, none⟩) n cap) n (L.map (Value.int .i64))) (hk : k < n) (hl : L[k]? = some last) : w.cell? ⟨gg, k, none⟩ = some (.int .i64 last) := by
  rw [h.cellAt k (by omega), List.getElem?_map, hl]; rfl

/-- The end of Plan: what is handed back. -/
def PlanPost (m g : Int) (full : List Int) (fin : Int) (w : World) (e : Ending) (w' : World) : Prop :=
  ∃ v, e = .returned (.tuple #[v, .agg #[.int .i64 fin, .int .i64 m, .int .i64 g]]) ∧ w'.ownsRow w.heap.size 3 1 v full.length (full.map (Value.int .i64)) ∧ Below w.heap.size w w'

set_option maxHeartbeats 2000000 in
theorem plan_yes (a b c d t m g now dl code : Int) (safe : Bool) (w : World) (hok : planOk a b c d t m g now dl) :
    Calls Try.prog 23 #[.agg #[.int .i64 a, .int .i64 b, .int .i64 c, .int .i64 d], .agg #[.int .i64 t, .int .i64 m, .int .i64 g], .int .i64 now, .int .i64 dl, .int .i64 code, .bool safe] w
      (PlanPost m g (planOf a b c d t m g now dl code safe).1 (planOf a b c d t m g now dl code safe).2 w) := by
  have hst := planAt_start (code := code) (safe := safe) hok
  obtain ⟨full, hfull⟩ : ∃ full, (planOf a b c d t m g now dl code safe).1 = full := ⟨_, rfl⟩
  obtain ⟨fin, hfin⟩ : ∃ fin, (planOf a b c d t m g now dl code safe).2 = fin := ⟨_, rfl⟩
  rw [hfull, hfin] at hst ⊢
  clear hfull hfin
  have HST := Lib.hid hst; clear hst
  obtain ⟨hp, hq, hn0, hn1, hbf⟩ := hok
  have HBF := Lib.hid hbf; clear hbf
  have hM := planMem_made a b c d t m g w
  have hB := planMem_below a b c d t m g w
  have HM := Lib.hid hM; clear hM
  go_enter Try.func23, Try.ntmps23
  go_wp2_with fail
  refine (check_ok _ _ _ _ _ hp).mono ?_
  rintro e w1 ⟨rfl, hb1⟩
  have HM1 : Hid (PlanMem w.heap.size a b c d t m g w1) := ⟨blk_keep hb1 HM.out.1, blk_keep hb1 HM.out.2.1, blk_keep hb1 HM.out.2.2⟩
  have hB1 := hB.trans (hb1.mono (by simp; omega))
  have c0 := blk_cell HM1.out.2.1 0 rfl
  have c1 := blk_cell HM1.out.2.1 1 rfl
  have c2 := blk_cell HM1.out.2.1 2 rfl
  clear hB HM hb1
  go_wp2_with fail
  refine (checkb_ok _ _ _ _ hq).mono ?_
  rintro e w2 ⟨rfl, hb2⟩
  have HM2 : Hid (PlanMem w.heap.size a b c d t m g w2) := ⟨blk_keep hb2 HM1.out.1, blk_keep hb2 HM1.out.2.1, blk_keep hb2 HM1.out.2.2⟩
  have hB2 := hB1.trans (hb2.mono hB1.size)
  clear c0 c1 c2 hB1 HM1 hb2
  go_wp2_with fail
  all_goals first | (exfalso; omega) | skip
  refine (before_any _ _ _).mono ?_
  rintro e w3 ⟨rfl, rfl⟩
  rw [HBF.out]
  have c0 := blk_cell HM2.out.2.1 0 rfl
  have c1 := blk_cell HM2.out.2.1 1 rfl
  have c2 := blk_cell HM2.out.2.1 2 rfl
  have hlB := blk_lt HM2.out.2.1
  go_wp2_with fail
  refine (first_any _ _ _ _).mono ?_
  rintro e w4 ⟨rfl, hb4⟩
  obtain ⟨t1, ht1⟩ : ∃ t1, firstOf t m g = t1 := ⟨_, rfl⟩
  rw [ht1] at HST ⊢
  clear ht1
  have hl2 : w2.heap.size < w4.heap.size := (keep1 hb4).2.2.1
  have HM4 : Hid (PlanMem w.heap.size a b c d t m g w4) := ⟨blk_keep hb4 (blk_old HM2.out.1 _), blk_keep hb4 (blk_old HM2.out.2.1 _), blk_keep hb4 (blk_old HM2.out.2.2 _)⟩
  have hO4 : w4.ownsRow (w.heap.size + 1 + 1 + 1) 3 1 (.slice (some ⟨w2.heap.size, 0, none⟩) 1 1) 1 [.int .i64 now] :=
    owns_keep (World.ownsRow_lit (size := 1) w2 #[.int .i64 now] 1 (by have := blk_lt HM2.out.2.2; omega) (by decide) rfl) hb4
  have hB4 := hB2.trans ((keep1 hb4).2.2.2.mono hB2.size)
  clear c0 c1 c2 hb4 hlB hB2 HM2
  have c0 := blk_cell HM4.out.2.1 0 rfl
  have c1 := blk_cell HM4.out.2.1 1 rfl
  have c2 := blk_cell HM4.out.2.1 2 rfl
  have f0 := blk_free HM4.out.2.1 0
  have f1 := blk_free HM4.out.2.1 1
  have f2 := blk_free HM4.out.2.1 2
  go_wp2_with fail
  have HM5 : Hid (PlanMem w.heap.size a b c d t1 m g (set3 w4 (w.heap.size + 1) (.int .i64 t1) (.int .i64 m) (.int .i64 g))) := ⟨set3_ne HM4.out.1 (by omega) _ _ _, set3_blk HM4.out.2.1 _ _ _, set3_ne HM4.out.2.2 (by omega) _ _ _⟩
  have hO5 := set3_owns hO4 (g := w.heap.size + 1) (by omega) (.int .i64 t1) (.int .i64 m) (.int .i64 g)
  have hB5 := set3_below hB4 (g := w.heap.size + 1) (by omega) (.int .i64 t1) (.int .i64 m) (.int .i64 g)
  change Code.wp _ _ _ _ (set3 w4 (w.heap.size + 1) (.int .i64 t1) (.int .i64 m) (.int .i64 g))
  obtain ⟨w5, hw5⟩ : ∃ w5, w5 = set3 w4 (w.heap.size + 1) (.int .i64 t1) (.int .i64 m) (.int .i64 g) := ⟨_, rfl⟩
  rw [← hw5] at HM5 hO5 hB5 ⊢
  clear hw5 c0 c1 c2 f0 f1 f2 HM4 hO4 hB4
  go_loopw [14, 15] (fun v i wr => PlanLoop a b c d m g dl code safe full fin w v i wr) (fun _ i _ => 11 - (intOf i).toNat)
  case atStart => exact ⟨[now], now, t1, rfl, HST.out, HM5.out, hO5, hB5⟩
  case round =>
    obtain ⟨L, last, tt, rfl, hat, hM, hO, hBr⟩ := hrel
    clear HST HM5 hO5 hB5
    obtain ⟨n, hn⟩ : ∃ n, L.length = n := ⟨_, rfl⟩
    have hL1 : 1 ≤ n := by rw [← hn]; exact hat.1
    have hL2 : n ≤ 10 := by rw [← hn]; exact hat.2.1
    have hLa : L[n - 1]? = some last := by rw [← hn]; exact hat.2.2.1
    have HAT : Hid (planAt a b c d m g dl code safe full fin L last tt) := hat
    have HN : Hid (L.length = n) := hn
    have HLa : Hid (L[n - 1]? = some last) := hLa
    clear hat hLa
    rw [hn] at hO ⊢
    clear hn
    obtain ⟨gg, cap, rfl⟩ := Joins.ownsRow_form hO (by omega)
    have p0 := blk_cell hM.1 0 rfl
    have p1 := blk_cell hM.1 1 rfl
    have p2 := blk_cell hM.1 2 rfl
    have p3 := blk_cell hM.1 3 rfl
    have c0 := blk_cell hM.2.1 0 rfl
    have c1 := blk_cell hM.2.1 1 rfl
    have c2 := blk_cell hM.2.1 2 rfl
    have HM : Hid (PlanMem w.heap.size a b c d tt m g wr) := hM
    clear hM
    have hn9 : (n : Int) ≤ 10 := by omega
    go_wp2_with fail
    refine (may_any _ _ _ _ _ _ _ _ _ _ _).mono ?_
    rintro e w6 ⟨rfl, hb6⟩
    have HM6 : Hid (PlanMem w.heap.size a b c d tt m g w6) := HM.out.keep hb6
    have hO6 := owns_keep hO hb6
    have hB6 := hBr.trans (hb6.mono hBr.size)
    clear p0 p1 p2 p3 c0 c1 c2 HM hO hBr hb6
    cases hm : mayB a b c d tt m g n code safe
    · have c0 := blk_cell HM6.out.2.1 0 rfl
      have c1 := blk_cell HM6.out.2.1 1 rfl
      have c2 := blk_cell HM6.out.2.1 2 rfl
      have r0 := blk_cell HM6.out.2.2 0 rfl
      have r1 := blk_cell HM6.out.2.2 1 rfl
      have r2 := blk_cell HM6.out.2.2 2 rfl
      have f0 := blk_free HM6.out.2.2 0
      have f1 := blk_free HM6.out.2.2 1
      have f2 := blk_free HM6.out.2.2 2
      have HF : Hid (full = L ∧ fin = tt) := planAt_end HAT.out (.inl (by rw [HN.out]; exact hm))
      go_wp2_with fail
      go_region
      go_wp2_with fail
      refine bodyPost_ret (v := .tuple #[.slice (some ⟨gg, 0, none⟩) n cap, .agg #[.int .i64 tt, .int .i64 m, .int .i64 g]]) (by simp [results, Try.results23, go_sem, r0, r1, r2]) rfl ?_
      refine ⟨_, by rw [HF.out.2], ?_, ?_⟩
      · rw [HF.out.1, HN.out]
        exact World.ownsRow.mono (set3_owns hO6 (g := w.heap.size + 1 + 1) (by omega) _ _ _) (by omega)
      · exact (set3_below hB6 (g := w.heap.size + 1 + 1) (by omega) _ _ _).drew
    · obtain ⟨hok1, hok2, _, hna, ht1000⟩ := mayB_parts hm
      obtain ⟨nx, hnx⟩ : ∃ nx, afterOf last (pauseOf a b c d n) = nx := ⟨_, rfl⟩
      have HNX := Lib.hid hnx; clear hnx
      have HMAY := Lib.hid hm; clear hm
      have W1 : IntKind.i64.wrap ((n : Int) - 1) = (n : Int) - 1 := IntWalk.i64_in _ (by omega)
      have W2 : (0 : Int) ≤ (n : Int) - 1 := by omega
      have W3 : (n : Int) - 1 < (n : Int) := by omega
      have W4 : ((n : Int) - 1).toNat = n - 1 := by omega
      have q0 := blk_cell HM6.out.1 0 rfl
      have q1 := blk_cell HM6.out.1 1 rfl
      have q2 := blk_cell HM6.out.1 2 rfl
      have q3 := blk_cell HM6.out.1 3 rfl
      have ql := own_at hO6 (k := n - 1) (by omega) HLa.out
      have KP : Hid (∀ w : World, Calls Try.prog 15 #[.agg #[.int .i64 a, .int .i64 b, .int .i64 c, .int .i64 d], .int .i64 n] w fun e w' => e = .returned (.int .i64 (pauseOf a b c d n)) ∧ Below w.heap.size w w') := fun w => pause_any a b c d n w (by omega) (by omega)
      have KL : Hid (n - 1 < n) := by show n - 1 < n; omega
      go_wp2_with fail
      go_region_held3 (fun w' => w'.cell? ⟨w.heap.size, 0, none⟩ = some (.int .i64 a) ∧ w'.cell? ⟨w.heap.size, 1, none⟩ = some (.int .i64 b) ∧ w'.cell? ⟨w.heap.size, 2, none⟩ = some (.int .i64 c) ∧ w'.cell? ⟨w.heap.size, 3, none⟩ = some (.int .i64 d) ∧
          w'.cell? ⟨gg, n - 1, none⟩ = some (.int .i64 last) ∧ PlanMem w.heap.size a b c d tt m g w' ∧ w'.ownsRow (w.heap.size + 1 + 1 + 1) 3 1 (.slice (some ⟨gg, 0, none⟩) n cap) n (L.map (Value.int .i64)) ∧ w.heap.size ≤ w'.heap.size ∧ Below w.heap.size w w')
        (first | exact ⟨q0, q1, q2, q3, ql, HM6.out, hO6, hB6.size, hB6.drew⟩ | assumption | (go_split_ands; have hM' := PlanMem.keep (by assumption) hb8; have hO' := owns_keep (by assumption) hb8; exact ⟨blk_cell hM'.1 0 rfl, blk_cell hM'.1 1 rfl, blk_cell hM'.1 2 rfl, blk_cell hM'.1 3 rfl, own_at hO' KL.out HLa.out, hM', hO', held_size hb8 (by assumption), Below.trans (by assumption) (hb8.mono (by assumption))⟩))
        (first | (go_at_call 15; refine (KP.out _).mono ?_; rintro e w8 ⟨rfl, hb8⟩) | (go_at_call 28; refine (after_any _ _ _).mono ?_; rintro e w8 ⟨rfl, rfl⟩))
      go_split_ands
      have HM8 : Hid (PlanMem w.heap.size a b c d tt m g w8) := by assumption
      have hO8 : w8.ownsRow (w.heap.size + 1 + 1 + 1) 3 1 (.slice (some ⟨gg, 0, none⟩) n cap) n (L.map (Value.int .i64)) := by assumption
      have hB8 : Below w.heap.size w w8 := by assumption
      rw [HNX.out]
      clear W1 W2 W3 W4 q0 q1 q2 q3 ql KP HM6 hO6 hB6
      go_wp2_with fail
      refine (before_any _ _ _).mono ?_
      rintro e w9 ⟨rfl, rfl⟩
      cases hbf : beforeB nx dl
      · have c0 := blk_cell HM8.out.2.1 0 rfl
        have c1 := blk_cell HM8.out.2.1 1 rfl
        have c2 := blk_cell HM8.out.2.1 2 rfl
        have r0 := blk_cell HM8.out.2.2 0 rfl
        have r1 := blk_cell HM8.out.2.2 1 rfl
        have r2 := blk_cell HM8.out.2.2 2 rfl
        have f0 := blk_free HM8.out.2.2 0
        have f1 := blk_free HM8.out.2.2 1
        have f2 := blk_free HM8.out.2.2 2
        have HF : Hid (full = L ∧ fin = tt) := planAt_end HAT.out (.inr (by rw [HN.out, HNX.out]; exact hbf))
        go_wp2_with fail
        go_region
        go_wp2_with fail
        refine bodyPost_ret (v := .tuple #[.slice (some ⟨gg, 0, none⟩) n cap, .agg #[.int .i64 tt, .int .i64 m, .int .i64 g]]) (by simp [results, Try.results23, go_sem, r0, r1, r2]) rfl ?_
        refine ⟨_, by rw [HF.out.2], ?_, ?_⟩
        · rw [HF.out.1, HN.out]
          exact World.ownsRow.mono (set3_owns hO8 (g := w.heap.size + 1 + 1) (by omega) _ _ _) (by omega)
        · exact (set3_below hB8 (g := w.heap.size + 1 + 1) (by omega) _ _ _).drew
      · have HBF := Lib.hid hbf; clear hbf
        have c0 := blk_cell HM8.out.2.1 0 rfl
        have c1 := blk_cell HM8.out.2.1 1 rfl
        have c2 := blk_cell HM8.out.2.1 2 rfl
        have HS : Hid (planAt a b c d m g dl code safe full fin (L ++ [nx]) nx (tt - 1000)) := by
          have h := planAt_step HAT.out (by rw [HN.out]; exact HMAY.out) (by rw [HN.out, HNX.out]; exact HBF.out)
          rw [HN.out, HNX.out] at h
          exact h
        have e1 : takeOf tt m g = tt - 1000 := by unfold takeOf; rw [if_pos ⟨hok2, ht1000⟩]
        have e2 : takeErr tt m g = 0 := by unfold takeErr; rw [if_neg (by simpa using hok2), if_neg (by omega)]
        have HE := Lib.hid (And.intro e1 e2); clear e1 e2
        go_wp2_with fail
        refine (take_any _ _ _ _).mono ?_
        rintro e w10 ⟨rfl, hb10⟩
        rw [HE.out.1, HE.out.2]
        have HM10 : Hid (PlanMem w.heap.size a b c d tt m g w10) := HM8.out.keep hb10
        have hO10 := owns_keep hO8 hb10
        have hB10 := hB8.trans (hb10.mono hB8.size)
        have hl10 : w.heap.size + 1 < w10.heap.size := by have := HM10.out.lt; omega
        have hl10' : w.heap.size + 1 ≠ w10.heap.size := by omega
        clear c0 c1 c2 HM8 hO8 hB8 hb10
        have c0 := blk_cell HM10.out.2.1 0 rfl
        have c1 := blk_cell HM10.out.2.1 1 rfl
        have c2 := blk_cell HM10.out.2.1 2 rfl
        have f0 := blk_free HM10.out.2.1 0
        have f1 := blk_free HM10.out.2.1 1
        have f2 := blk_free HM10.out.2.1 2
        obtain ⟨i0, hi, hz0, hz1, hz2⟩ := info_parts infoInt
        have HI := Lib.hid (And.intro hi (And.intro hz0 (And.intro hz1 hz2))); clear hi hz0 hz1 hz2
        have hsl : w.heap.size + 1 < w.heap.size + 1 + 1 + 1 := by omega
        have hO12 : ((((w10.setCell ⟨w.heap.size + 1, 0, none⟩ (.int .i64 (tt - 1000))).setCell ⟨w.heap.size + 1, 1, none⟩ (.int .i64 m)).setCell ⟨w.heap.size + 1, 2, none⟩ (.int .i64 g)).alloc (.cells #[.int .i64 (tt - 1000), .int .i64 m, .int .i64 g] 25)).ownsRow (w.heap.size + 1 + 1 + 1) 3 1 (.slice (some ⟨gg, 0, none⟩) n cap) n (L.map (Value.int .i64)) := (set3_owns hO10 hsl _ _ _).alloc _
        have HSZ : Hid (w.heap.size + 1 + 1 + 1 ≤ w10.heap.size) := HM10.out.lt
        have HN1 : Hid (n + 1 ≤ maxLen) := by show n + 1 ≤ maxLen; unfold maxLen; omega
        have HN2 : Hid ((n + 1) * 8 ≤ 140737488355328) := by show (n + 1) * 8 ≤ 140737488355328; omega
        go_wp2_with (at_builtin; go_must (refine wpList_append_own _ rfl _ _ 41 rfl (w.heap.size + 1 + 1 + 1) 3 i0 (.int .i64 0) 1 8 Try.underlying41 HI.out.1 HI.out.2.1 HI.out.2.2.1 HI.out.2.2.2 rfl (by decide) _ _ _ rfl (hO12.alloc _) ⟨w10.heap.size + 1, 0, none⟩ 1 1 [.int .i64 nx] rfl rfl ?c1 ?c2 HN1.out HN2.out ?c5 ?_))
        case c1 =>
          intro j u hj
          match j, hj with
          | 0, hj =>
            simp at hj; subst hj
            refine blk_cell (cs := #[.int .i64 nx]) (t := 3) (fr := (0, 0)) ?_ 0 rfl
            have := blk_new ((set3 w10 (w.heap.size + 1) (.int .i64 (tt - 1000)) (.int .i64 m) (.int .i64 g)).alloc (.cells #[.int .i64 (tt - 1000), .int .i64 m, .int .i64 g] 25)) (.cells #[.int .i64 nx] 3)
            rw [World.size_alloc, set3_size] at this
            exact this
        case c2 => intro u hu; simp at hu; subst hu; rfl
        case c5 =>
          have := HSZ.out
          simp
          omega
        intro v' w13 hown' hgrow _
        have hgg : w.heap.size + 1 + 1 + 1 ≤ gg := (hO12.lt gg rfl).1
        have HM13 : PlanMem w.heap.size a b c d (tt - 1000) m g w13 := PlanMem.grown (((HM10.out.paid (tt - 1000)).alloc _).alloc _) hgrow hgg
        have hB13 : Below w.heap.size w w13 := by
          refine Below.grown (w := (((set3 w10 (w.heap.size + 1) (.int .i64 (tt - 1000)) (.int .i64 m) (.int .i64 g)).alloc (.cells #[.int .i64 (tt - 1000), .int .i64 m, .int .i64 g] 25)).alloc (.cells #[.int .i64 nx] 3))) ?_ hgrow ?_ ?_
          · exact ((set3_below hB10 (by omega) _ _ _).alloc (by rw [set3_size]; exact hB10.size) _).alloc (by rw [World.size_alloc, set3_size]; have := hB10.size; omega) _
          · rw [World.size_alloc, World.size_alloc, set3_size]; have := hB10.size; omega
          · intro k hk; simp [Value.ownBlock] at hk; omega
        have hL13 : w13.ownsRow (w.heap.size + 1 + 1 + 1) 3 1 v' (L ++ [nx]).length ((L ++ [nx]).map (Value.int .i64)) := by
          rw [List.length_append, HN.out, List.map_append]; exact hown'
        have hne : ((L ++ [nx]).length : Int) = (n : Int) + 1 := by rw [List.length_append, HN.out]; rfl
        have HNE := Lib.hid hne; clear hne
        clear hgrow hown' hO12 hO10 hB10 c0 c1 c2 f0 f1 f2
        go_wp2_with fail
        go_roundw
        case rel => exact ⟨L ++ [nx], nx, tt - 1000, by rw [HNE.out], HS.out, HM13, hL13, hB13⟩
        case measure => simp [intOf]; omega
end Go.Proofs.Ytmihbfknhflfiaa
