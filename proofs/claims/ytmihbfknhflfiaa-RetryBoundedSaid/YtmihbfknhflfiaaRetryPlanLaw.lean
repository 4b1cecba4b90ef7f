/- Plain law of Plan: the times of the attempts and the budget that is left, as a plain function. -/
import Derived.Test.YtmihbfknhflfiaaRetryMay
namespace Go.Proofs.Ytmihbfknhflfiaa
open Go.RowKit

/-- The times behind the first one, and the tokens that are left; f: how many more there can be. -/
def planGo (a b c d m g dl code : Int) (safe : Bool) : Nat → Int → Int → Int → List Int × Int
  | 0, _, _, t => ([], t)
  | f + 1, n, last, t =>
    if mayB a b c d t m g n code safe = true ∧ beforeB (afterOf last (pauseOf a b c d n)) dl = true then
      (afterOf last (pauseOf a b c d n) :: (planGo a b c d m g dl code safe f (n + 1) (afterOf last (pauseOf a b c d n)) (t - 1000)).1,
       (planGo a b c d m g dl code safe f (n + 1) (afterOf last (pauseOf a b c d n)) (t - 1000)).2)
    else ([], t)

/-- May Plan begin? -/
def planOk (a b c d t m g now dl : Int) : Prop := okP a b c d ∧ okB t m g ∧ 0 ≤ now ∧ now ≤ 1099511627776 ∧ beforeB now dl = true
instance (a b c d t m g now dl : Int) : Decidable (planOk a b c d t m g now dl) := by unfold planOk; infer_instance

def planOf (a b c d t m g now dl code : Int) (safe : Bool) : List Int × Int :=
  if planOk a b c d t m g now dl then
    (now :: (planGo a b c d m g dl code safe 10 1 now (firstOf t m g)).1, (planGo a b c d m g dl code safe 10 1 now (firstOf t m g)).2)
  else ([], t)

theorem mayB_parts {a b c d t m g n code : Int} {safe : Bool} (h : mayB a b c d t m g n code safe = true) :
    okP a b c d ∧ okB t m g ∧ 1 ≤ n ∧ n < a ∧ 1000 ≤ t := by
  unfold mayB at h
  simp at h
  exact ⟨h.1.1.1.1, h.1.1.1.2.1, h.1.1.1.2.2.1, h.1.1.1.2.2.2, h.2⟩

theorem planGo_go {a b c d m g dl code : Int} {safe : Bool} {f : Nat} {n last t : Int} (h1 : mayB a b c d t m g n code safe = true)
    (h2 : beforeB (afterOf last (pauseOf a b c d n)) dl = true) (hf : 11 - n ≤ f) :
    ∃ f', f = f' + 1 ∧ planGo a b c d m g dl code safe f n last t = (afterOf last (pauseOf a b c d n) :: (planGo a b c d m g dl code safe f' (n + 1) (afterOf last (pauseOf a b c d n)) (t - 1000)).1,
       (planGo a b c d m g dl code safe f' (n + 1) (afterOf last (pauseOf a b c d n)) (t - 1000)).2) := by
  obtain ⟨hp, hb, hn, hna, ht⟩ := mayB_parts h1
  have ha : a ≤ 10 := hp.2.1
  obtain ⟨f', rfl⟩ : ∃ f', f = f' + 1 := ⟨f - 1, by omega⟩
  exact ⟨f', rfl, by rw [planGo, if_pos ⟨h1, h2⟩]⟩

theorem planGo_stop {a b c d m g dl code : Int} {safe : Bool} {f : Nat} {n last t : Int}
    (h : mayB a b c d t m g n code safe = false ∨ beforeB (afterOf last (pauseOf a b c d n)) dl = false) :
    planGo a b c d m g dl code safe f n last t = ([], t) := by
  cases f with
  | zero => rfl
  | succ f => rw [planGo, if_neg (by rcases h with h | h <;> simp [h])]

/-- The state of Plan's loop: what is gathered is a beginning of the whole. -/
def planAt (a b c d m g dl code : Int) (safe : Bool) (full : List Int) (fin : Int) (L : List Int) (last t : Int) : Prop :=
  1 ≤ L.length ∧ L.length ≤ 10 ∧ L[L.length - 1]? = some last ∧ okB t m g ∧ 0 ≤ last ∧ last ≤ 1099511627776 ∧
  ∃ f : Nat, 11 - (L.length : Int) ≤ f ∧ full = L ++ (planGo a b c d m g dl code safe f L.length last t).1 ∧ fin = (planGo a b c d m g dl code safe f L.length last t).2

theorem afterOf_bd (t s : Int) : 0 ≤ afterOf t s ∧ afterOf t s ≤ 1099511627776 := by unfold afterOf; omega

theorem planAt_start {a b c d t m g now dl code : Int} {safe : Bool} (h : planOk a b c d t m g now dl) :
    planAt a b c d m g dl code safe (planOf a b c d t m g now dl code safe).1 (planOf a b c d t m g now dl code safe).2 [now] now (firstOf t m g) := by
  obtain ⟨hp, hb, h0, h1, h2⟩ := h
  have e : planOf a b c d t m g now dl code safe = _ := if_pos ⟨hp, hb, h0, h1, h2⟩
  have hf : okB (firstOf t m g) m g := by
    unfold firstOf; rw [if_pos hb]
    obtain ⟨b1, b2, b3, b4, b5⟩ := hb
    exact ⟨b1, by omega, by omega, b4, b5⟩
  exact ⟨by simp, by simp, by simp, hf, h0, h1, 10, by simp, by rw [e]; rfl, by rw [e]; rfl⟩

theorem planAt_step {a b c d m g dl code : Int} {safe : Bool} {full L : List Int} {fin last t : Int} (h : planAt a b c d m g dl code safe full fin L last t)
    (h1 : mayB a b c d t m g L.length code safe = true) (h2 : beforeB (afterOf last (pauseOf a b c d L.length)) dl = true) :
    planAt a b c d m g dl code safe full fin (L ++ [afterOf last (pauseOf a b c d L.length)]) (afterOf last (pauseOf a b c d L.length)) (t - 1000) := by
  obtain ⟨hl1, hl2, hla, hb, _, _, f, hf, hfull, hfin⟩ := h
  obtain ⟨f', rfl, e⟩ := planGo_go h1 h2 hf
  obtain ⟨hp, _, hn, hna, ht⟩ := mayB_parts h1
  have ha : a ≤ 10 := hp.2.1
  have hbd := afterOf_bd last (pauseOf a b c d L.length)
  refine ⟨by simp, by simp; omega, by simp, ?_, hbd.1, hbd.2, f', by simp; omega, ?_, ?_⟩
  · obtain ⟨b1, b2, b3, b4, b5⟩ := hb; exact ⟨b1, by omega, by omega, b4, b5⟩
  · rw [hfull, e]; simp
  · rw [hfin, e]; simp

theorem planAt_end {a b c d m g dl code : Int} {safe : Bool} {full L : List Int} {fin last t : Int} (h : planAt a b c d m g dl code safe full fin L last t)
    (h1 : mayB a b c d t m g L.length code safe = false ∨ beforeB (afterOf last (pauseOf a b c d L.length)) dl = false) : full = L ∧ fin = t := by
  obtain ⟨hl1, hl2, hla, hb, _, _, f, hf, hfull, hfin⟩ := h
  rw [planGo_stop h1] at hfull hfin
  exact ⟨by simpa using hfull, hfin⟩
end Go.Proofs.Ytmihbfknhflfiaa
