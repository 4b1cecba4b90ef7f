/- The contract of the statements' own ints: are two lists of numbers equal? -/
import Derived.Test.YtmihbfknhflfiaaRetryPlan
import Derived.Deep.QuietTactic
import Derived.BigQuiet
namespace Go.Proofs.Ytmihbfknhflfiaa
open Go.RowKit

/-- A slice that reads as a list of numbers. -/
def ReadsI (w : World) (v : Value) (L : List Int) : Prop :=
  ∃ ao c, v = .slice ao L.length c ∧ L.length ≤ c ∧ (L = [] ∨ ∃ g, ao = some ⟨g, 0, none⟩ ∧ ∀ (i : Nat) (n : Int), L[i]? = some n → w.cell? ⟨g, i, none⟩ = some (.int .i64 n))

theorem ReadsI.keep {w w' : World} {v : Value} {L : List Int} (h : ReadsI w v L) (hb : Below w.heap.size w w') : ReadsI w' v L := by
  obtain ⟨ao, c, hv, hc, hr⟩ := h
  refine ⟨ao, c, hv, hc, hr.imp id ?_⟩
  rintro ⟨g, hg, hc⟩
  exact ⟨g, hg, fun i n hi => (hb.cell (p := ⟨g, i, none⟩) (World.block_lt_of_cell? w _ (hc i n hi))).trans (hc i n hi)⟩

theorem ReadsI.of_owns {w : World} {base : Nat} {v : Value} {L : List Int} (h : w.ownsRow base 3 1 v L.length (L.map (Value.int .i64))) : ReadsI w v L := by
  rcases Joins.ownsRow_forms h with ⟨rfl, h0⟩ | ⟨g, cap, rfl⟩
  · have : L = [] := by simpa using h0
    subst this
    exact ⟨none, 0, rfl, Nat.le_refl _, .inl rfl⟩
  · have hcap : L.length ≤ cap := by
      rcases h.2 with ⟨h', _⟩ | ⟨g', cap', cur, h', _, _, hnc, _⟩
      · simp at h'
      · simp only [Value.slice.injEq, Option.some.injEq, Addr.mk.injEq, and_true, true_and] at h'
        obtain ⟨_, rfl⟩ := h'
        exact hnc
    refine ⟨some ⟨g, 0, none⟩, cap, rfl, hcap, .inr ⟨g, rfl, fun i n hi => ?_⟩⟩
    have hl : i < L.length := by
      by_cases hl : i < L.length
      · exact hl
      · rw [List.getElem?_eq_none (by omega)] at hi; cases hi
    exact own_at h hl hi

set_option maxHeartbeats 1000000 in
theorem ints_any (v1 v2 : Value) (L1 L2 : List Int) (w : World) (h1 : ReadsI w v1 L1) (h2 : ReadsI w v2 L2) (hl1 : L1.length ≤ 1000000) :
    Calls Try.prog 25 #[v1, v2] w fun e w' => e = .returned (.bool (decide (L1 = L2))) ∧ Below w.heap.size w w' := by
  obtain ⟨a1, c1, rfl, _, r1⟩ := h1
  obtain ⟨a2, c2, rfl, _, r2⟩ := h2
  obtain ⟨R, hR⟩ : ∃ R, R = decide (L1 = L2) := ⟨_, rfl⟩
  rw [← hR]
  have HR := Lib.hid hR; clear hR
  have H1 := Lib.hid r1; clear r1
  have H2 := Lib.hid r2; clear r2
  by_cases hlen : L1.length = L2.length
  case neg =>
    have hne : ((L1.length : Int) == (L2.length : Int)) = false := by simp; omega
    have hne' : ((L1.length : Int) != (L2.length : Int)) = true := by simp; omega
    have HF : Hid (R = false) := HR.out.trans (decide_eq_false (fun h => hlen (by rw [h])))
    go_enter Try.func25, Try.ntmps25
    go_wp2
    go_ret
    exact ⟨by rw [HF.out]; rfl, Below.refl _ _⟩
  obtain ⟨n, hn⟩ : ∃ n, L1.length = n := ⟨_, rfl⟩
  have hn2 : L2.length = n := by omega
  rw [hn, hn2]
  have HN : Hid (L1.length = n ∧ L2.length = n) := ⟨hn, hn2⟩
  have hnb : n ≤ 1000000 := by omega
  clear hn hn2 hlen hl1
  go_enter Try.func25, Try.ntmps25
  go_wp2
  go_loopw [5] (fun i wr => ∃ k : Nat, k ≤ n ∧ i = .int .i64 k ∧ Hid (∀ j : Nat, j < k → L1[j]? = L2[j]?) ∧ Below w.heap.size w wr) (fun i _ => n - (intOf i).toNat)
  case atStart => exact ⟨0, by omega, rfl, fun j hj => by omega, Below.refl _ _⟩
  case round =>
    obtain ⟨k, hk, rfl, hE, hB⟩ := hrel
    by_cases hkn : k < n
    · obtain ⟨x, hx⟩ : ∃ x, L1[k]? = some x := ⟨L1[k]'(by rw [HN.out.1]; exact hkn), List.getElem?_eq_getElem _⟩
      obtain ⟨y, hy⟩ : ∃ y, L2[k]? = some y := ⟨L2[k]'(by rw [HN.out.2]; exact hkn), List.getElem?_eq_getElem _⟩
      rcases H1.out with e | ⟨g1, rfl, q1⟩
      · rw [e] at hx; simp at hx
      rcases H2.out with e | ⟨g2, rfl, q2⟩
      · rw [e] at hy; simp at hy
      have z1 := q1 k x hx
      have z2 := q2 k y hy
      have u1 : wr.cell? ⟨g1, k, none⟩ = some (.int .i64 x) := (hB.cell (p := ⟨g1, k, none⟩) (World.block_lt_of_cell? w _ z1)).trans z1
      have u2 : wr.cell? ⟨g2, k, none⟩ = some (.int .i64 y) := (hB.cell (p := ⟨g2, k, none⟩) (World.block_lt_of_cell? w _ z2)).trans z2
      have HX : Hid (L1[k]? = some x ∧ L2[k]? = some y) := ⟨hx, hy⟩
      clear hx hy z1 z2 q1 q2 H1 H2
      have b1 : (0 : Int) ≤ (k : Int) := by omega
      have b2 : (k : Int) < (n : Int) := by omega
      by_cases hxy : x = y
      · have hxy' : (x == y) = true := by simp [hxy]
        have hxy2 : (x != y) = false := by simp [hxy]
        have HE2 : Hid (∀ j : Nat, j < k + 1 → L1[j]? = L2[j]?) := fun j hj => by
          by_cases h : j = k
          · subst h; rw [HX.out.1, HX.out.2, hxy]
          · exact hE.out j (by omega)
        clear hxy
        go_wp2
        go_quiet (fail)
        go_wp2
        go_roundw
        case rel => exact ⟨k + 1, by omega, by go_num, HE2, hB.trans (Joins.below_draws _ _ _)⟩
        case measure => simp [intOf]; omega
      · have hxy' : (x == y) = false := by simp [hxy]
        have hxy2 : (x != y) = true := by simp [hxy]
        have HF : Hid (R = false) := HR.out.trans (decide_eq_false (fun h => hxy (by have := HX.out; rw [h, this.2] at this; simpa using this.1.symm)))
        clear hxy
        go_wp2
        go_quiet (fail)
        go_wp2
        go_ret
        exact ⟨by rw [HF.out]; rfl, hB.trans (Joins.below_draws _ _ _)⟩
    · have HF : Hid (R = true) := HR.out.trans (decide_eq_true (List.ext_getElem? (fun j => by
        by_cases hj : j < k
        · exact hE.out j hj
        · have := HN.out
          rw [List.getElem?_eq_none (by omega), List.getElem?_eq_none (by omega)])))
      go_wp2
      go_ret
      exact ⟨by rw [HF.out]; rfl, hB⟩

/-- A beginning of a slice. -/
theorem ReadsI.cut {w : World} {ao : Option Addr} {n c : Nat} {L : List Int} (h : ReadsI w (.slice ao n c) L) {k : Nat} (hk : k ≤ n) : ReadsI w (.slice ao k c) (L.take k) := by
  obtain ⟨ao', c', hv, hc, hr⟩ := h
  simp only [Value.slice.injEq] at hv
  obtain ⟨rfl, rfl, rfl⟩ := hv
  refine ⟨ao, c, by rw [List.length_take, Nat.min_eq_left hk], by rw [List.length_take]; omega, ?_⟩
  rcases hr with rfl | ⟨g, hg, hcell⟩
  · exact .inl (by simp)
  · refine .inr ⟨g, hg, fun i m hi => hcell i m ?_⟩
    rw [List.getElem?_take] at hi
    split at hi
    · exact hi
    · cases hi
theorem ReadsI.form {w : World} {v : Value} {L : List Int} (h : ReadsI w v L) : ∃ ao c, v = .slice ao L.length c ∧ L.length ≤ c ∧ (ao = none → L = []) ∧ ∀ x, ao = some x → L = [] ∨ ∃ g, x = ⟨g, 0, none⟩ := by
  obtain ⟨ao, c, hv, hc, hr⟩ := h
  refine ⟨ao, c, hv, hc, fun e => ?_, fun x e => ?_⟩
  · rcases hr with hr | ⟨g, hg, _⟩
    · exact hr
    · rw [e] at hg; cases hg
  · rcases hr with hr | ⟨g, hg, _⟩
    · exact .inl hr
    · rw [e] at hg; cases hg; exact .inr ⟨g, rfl⟩
end Go.Proofs.Ytmihbfknhflfiaa
