/- Plain laws of Plan: with a later deadline or more tokens the times are a beginning of the times. -/
import Derived.Test.YtmihbfknhflfiaaRetryPlans
namespace Go.Proofs.Ytmihbfknhflfiaa
open Go.RowKit

theorem mayB_mono {a b c d t t' m g n code : Int} {safe : Bool} (h : mayB a b c d t m g n code safe = true) (ht : t ≤ t') (hb : okB t' m g) : mayB a b c d t' m g n code safe = true := by
  unfold mayB at h ⊢
  simp only [Bool.and_eq_true, decide_eq_true_eq] at h ⊢
  exact ⟨⟨⟨⟨h.1.1.1.1, hb, h.1.1.1.2.2.1, h.1.1.1.2.2.2⟩, h.1.1.2⟩, h.1.2⟩, by omega⟩

theorem beforeB_mono {x e l : Int} (h : beforeB x e = true) (he : 1 ≤ e) (hl : e ≤ l) : beforeB x l = true := by
  unfold beforeB at h ⊢
  simp only [decide_eq_true_eq] at h ⊢
  omega

theorem planGo_mono {a b c d m g e l code : Int} {safe : Bool} (he : 1 ≤ e) (hl : e ≤ l) (f : Nat) : ∀ (n last t t' : Int), t ≤ t' → okB t m g → okB t' m g →
    (planGo a b c d m g e code safe f n last t).1 <+: (planGo a b c d m g l code safe f n last t').1 := by
  induction f with
  | zero => intro n last t t' _ _ _; exact List.nil_prefix
  | succ f ih =>
    intro n last t t' ht hb hb'
    rw [planGo]
    split
    · rename_i h
      have h1 := mayB_mono h.1 ht hb'
      have h2 := beforeB_mono h.2 he hl
      rw [planGo, if_pos ⟨h1, h2⟩]
      obtain ⟨_, hb0, _, _, h1000⟩ := mayB_parts h.1
      refine List.prefix_cons_inj _ |>.2 (ih _ _ _ _ (by omega) ?_ ?_)
      · obtain ⟨b1, b2, b3, b4, b5⟩ := hb; exact ⟨b1, by omega, by omega, b4, b5⟩
      · obtain ⟨b1, b2, b3, b4, b5⟩ := hb'; exact ⟨b1, by omega, by omega, b4, b5⟩
    · exact List.nil_prefix

theorem planOf_mono {a b c d t t' m g now e l code : Int} {safe : Bool} (he : 1 ≤ e) (hl : e ≤ l) (ht : t ≤ t') (hb : okB t m g) (hb' : okB t' m g) :
    (planOf a b c d t m g now e code safe).1 <+: (planOf a b c d t' m g now l code safe).1 := by
  unfold planOf
  by_cases h : planOk a b c d t m g now e
  · have h' : planOk a b c d t' m g now l := ⟨h.1, hb', h.2.2.1, h.2.2.2.1, beforeB_mono h.2.2.2.2 he hl⟩
    rw [if_pos h, if_pos h']
    refine List.prefix_cons_inj _ |>.2 (planGo_mono he hl _ _ _ _ _ ?_ (okB_first hb) (okB_first hb'))
    unfold firstOf; rw [if_pos hb, if_pos hb']; omega
  · rw [if_neg h]; exact List.nil_prefix

theorem planOf_nil {a b c d t m g now dl code : Int} {safe : Bool} (hb : ¬ okB t m g) : (planOf a b c d t m g now dl code safe).1 = [] := by
  unfold planOf; rw [if_neg (fun h => hb h.2.1)]

theorem prefix_take {L M : List Int} (h : L <+: M) : L.length ≤ M.length ∧ M.take L.length = L := by
  obtain ⟨r, rfl⟩ := h
  exact ⟨by simp, by simp⟩
end Go.Proofs.Ytmihbfknhflfiaa
