/- Plain laws of Plan for the theorem of the stage: the times, one after the other, and the tokens. -/
import Derived.Test.YtmihbfknhflfiaaRetryMore
import Derived.Test.YtmihbfknhflfiaaRetryPauses
namespace Go.Proofs.Ytmihbfknhflfiaa
open Go.RowKit

theorem planGo_facts {a b c d m g dl code : Int} {safe : Bool} (f : Nat) : ∀ (n last t : Int), okB t m g → 1 ≤ n →
    (∀ k : Nat, k < (planGo a b c d m g dl code safe f n last t).1.length →
      (last :: (planGo a b c d m g dl code safe f n last t).1)[k + 1]? = ((last :: (planGo a b c d m g dl code safe f n last t).1)[k]?).map (fun x => afterOf x (pauseOf a b c d (n + k))) ∧
      ∀ x, (last :: (planGo a b c d m g dl code safe f n last t).1)[k + 1]? = some x → beforeB x dl = true) ∧
    (planGo a b c d m g dl code safe f n last t).2 = t - 1000 * (planGo a b c d m g dl code safe f n last t).1.length ∧ okB (planGo a b c d m g dl code safe f n last t).2 m g := by
  induction f with
  | zero => intro n last t hb _; exact ⟨fun k hk => by simp [planGo] at hk, by simp [planGo], hb⟩
  | succ f ih =>
    intro n last t hb hn
    rw [planGo]
    split
    · rename_i h
      obtain ⟨_, hb0, _, _, h1000⟩ := mayB_parts h.1
      obtain ⟨i1, i2, i3⟩ := ih (n + 1) (afterOf last (pauseOf a b c d n)) (t - 1000) (by obtain ⟨b1, b2, b3, b4, b5⟩ := hb; exact ⟨b1, by omega, by omega, b4, b5⟩) (by omega)
      refine ⟨?_, ?_, i3⟩
      · intro k hk
        cases k with
        | zero =>
          refine ⟨by simp, fun x hx => ?_⟩
          simp at hx; subst hx; exact h.2
        | succ k =>
          have hk' : k < (planGo a b c d m g dl code safe f (n + 1) (afterOf last (pauseOf a b c d n)) (t - 1000)).1.length := by simpa using hk
          have := i1 k hk'
          rw [show n + ((k + 1 : Nat) : Int) = n + 1 + (k : Int) by omega]
          exact this
      · rw [i2]; simp; omega
    · exact ⟨fun k hk => by simp at hk, by simp, hb⟩

/-- What the theorem of the stage asks of the times and of the tokens. -/
def PlanGood (a b c d t m g now dl : Int) (L : List Int) (fin : Int) : Prop :=
  okB fin m g ∧ (L.length : Int) ≤ a ∧ L.length ≤ 10 ∧ (L = [] → fin = t) ∧ (L ≠ [] → fin ≤ t + g - 1000 * ((L.length : Int) - 1)) ∧
  (∀ x, L[0]? = some x → x = now) ∧ (∀ (k : Nat) x, L[k]? = some x → (0 < dl → x < dl) ∧ 0 ≤ x ∧ x ≤ 1099511627776) ∧
  ∀ (k : Nat) x y, L[k]? = some x → L[k + 1]? = some y → y = min (x + pauseOf a b c d ((k : Int) + 1)) 1099511627776 ∧ 0 ≤ pauseOf a b c d ((k : Int) + 1) ∧ pauseOf a b c d ((k : Int) + 1) ≤ 1099511627776

theorem beforeB_lt {x dl : Int} (h : beforeB x dl = true) (h0 : 0 < dl) : x < dl := by
  unfold beforeB at h; simp only [decide_eq_true_eq] at h; omega

theorem planOf_good {a b c d t m g now dl code : Int} {safe : Bool} (hp : okP a b c d) (hb : okB t m g) :
    PlanGood a b c d t m g now dl (planOf a b c d t m g now dl code safe).1 (planOf a b c d t m g now dl code safe).2 := by
  have hlen := planOf_len a b c d t m g now dl code safe
  have ha : 1 ≤ a := hp.1
  have pb : ∀ n : Int, 1 ≤ n → 0 ≤ pauseOf a b c d n ∧ pauseOf a b c d n ≤ 1099511627776 := fun n hn => by
    obtain ⟨f1, f2, f3, _, _⟩ := pauseOf_facts a b c d n hp hn
    have := hp.2.2.2.2.1
    omega
  revert hlen
  unfold planOf
  split
  · rename_i h
    intro hlen
    obtain ⟨_, _, h0, h1, hbf⟩ := h
    obtain ⟨i1, i2, i3⟩ := planGo_facts (a := a) (b := b) (c := c) (d := d) (m := m) (g := g) (dl := dl) (code := code) (safe := safe) 10 1 now (firstOf t m g) (okB_first hb) (by omega)
    have hgl := planGo_len a b c d m g dl code safe 10 1 now (firstOf t m g) (by omega)
    obtain ⟨G, hG⟩ : ∃ G, planGo a b c d m g dl code safe 10 1 now (firstOf t m g) = G := ⟨_, rfl⟩
    rw [hG] at i1 i2 i3 hgl hlen ⊢
    have hf : firstOf t m g ≤ t + g := by unfold firstOf; rw [if_pos hb]; omega
    have bd : ∀ (k : Nat) x, (now :: G.1)[k]? = some x → 0 ≤ x ∧ x ≤ 1099511627776 := by
      intro k x hx
      cases k with
      | zero => simp at hx; subst hx; exact ⟨h0, h1⟩
      | succ k =>
        have hk : k < G.1.length := by
          by_cases hk : k < G.1.length
          · exact hk
          · rw [List.getElem?_eq_none (by simp; omega)] at hx; cases hx
        have e := (i1 k hk).1
        rw [hx] at e
        obtain ⟨y, hy⟩ : ∃ y, (now :: G.1)[k]? = some y := ⟨(now :: G.1)[k]'(by simp; omega), List.getElem?_eq_getElem _⟩
        rw [hy] at e
        simp at e
        rw [e]; exact afterOf_bd _ _
    refine ⟨i3, ?_, hlen, ?_, ?_, ?_, ?_, ?_⟩
    · rcases hgl with e | e
      · rw [e]; simp; omega
      · simp; omega
    · intro h; cases h
    · intro _; show G.2 ≤ _; rw [i2]; simp; omega
    · intro x hx; simpa using hx.symm
    · intro k x hx
      refine ⟨fun hdl => ?_, bd k x hx⟩
      cases k with
      | zero => simp at hx; subst hx; exact beforeB_lt hbf hdl
      | succ k =>
        have hk : k < G.1.length := by
          by_cases hk : k < G.1.length
          · exact hk
          · rw [List.getElem?_eq_none (by simp; omega)] at hx; cases hx
        exact beforeB_lt ((i1 k hk).2 x hx) hdl
    · intro k x y hx hy
      have hk : k < G.1.length := by
        by_cases hk : k < G.1.length
        · exact hk
        · rw [List.getElem?_eq_none (by simp; omega)] at hy; cases hy
      have e := (i1 k hk).1
      rw [hx, hy] at e
      simp at e
      have q := pb ((k : Int) + 1) (by omega)
      rw [show (1 : Int) + (k : Int) = (k : Int) + 1 by omega] at e
      refine ⟨?_, q⟩
      rw [e]
      have := bd k x hx
      unfold afterOf
      omega
  · intro _
    exact ⟨hb, by simp; omega, by simp, fun _ => rfl, fun h => absurd rfl h, fun x hx => by simp at hx, fun k x hx => by simp at hx, fun k x y hx => by simp at hx⟩
end Go.Proofs.Ytmihbfknhflfiaa
