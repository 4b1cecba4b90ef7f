/- Worlds: what a call that only makes memory leaves behind a new block. -/
import Derived.WalkKit
import Derived.Below
namespace Go.Proofs.Ytmihbfknhflfiaa

/-- What a call leaves that was made in a world with one new block at its end. -/
theorem keep1 {w1 w2 : World} {C : Array Value} {T : TypeId} (hb : RowKit.Below (w1.alloc (.cells C T)).heap.size (w1.alloc (.cells C T)) w2) :
    (∀ {b o : Nat} {v : Value}, b < w1.heap.size → w1.cell? ⟨b, o, none⟩ = some v → w2.cell? ⟨b, o, none⟩ = some v) ∧ (∀ o, w2.cell? ⟨w1.heap.size, o, none⟩ = C[o]?) ∧ w1.heap.size < w2.heap.size ∧ RowKit.Below w1.heap.size w1 w2 := by
  have e : (w1.alloc (.cells C T)).heap.size = w1.heap.size + 1 := by simp
  rw [e] at hb
  refine ⟨fun {b o v} hl h => ?_, fun o => ?_, by have := hb.size; rw [e] at this; omega, ((RowKit.Below.refl _ _).alloc (Nat.le_refl _) _).trans (hb.mono (by omega))⟩
  · exact (hb.cell (p := ⟨b, o, none⟩) (by show b < _; omega)).trans ((World.cell?_alloc_past (.cells C T) b o hl).trans h)
  · exact (hb.cell (p := ⟨w1.heap.size, o, none⟩) (by simp)).trans (by simp)
end Go.Proofs.Ytmihbfknhflfiaa
