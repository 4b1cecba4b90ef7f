/- A region that draws its order, whose calls only make memory: walked once, in whatever world lies above the one that it began in. -/
import Derived.Test.YtlgpoapedgodoaaDoorClass
import Derived.Test.YtlgpoapedgodoaaDoorBase
namespace Go.Proofs.YtlgpoapedgodoaaDoor
open Go.RowKit

/-- What lies above a world. -/
abbrev Up (W : World) := InClass (fun w' => Below W.heap.size W w')
instance (W : World) : Nonempty (Up W) := ⟨⟨W, Below.refl _ _⟩⟩

theorem wp_region_up {P : Program} {id : Nat} {Q : Exit → Act → World → Prop} {a : Act} {W : World} {l : List Oper} (hm : P.follows .mixedOrders = true) (hB : Region.lexB .any l.toArray = true)
    (h : wpQuiet P l.toArray (fun w' => ∃ s : Up W, w' = s.w) (fun a' => ∀ w', (∃ s : Up W, w' = s.w) → Q .normal a' w') l a) : (Code.region id l.toArray true).wp P Q a W :=
  wp_region_class (fun w' => Below W.heap.size W w') hm hB ((Below.refl _ _).drew) h

/-- A callee's contract, met above a world. -/
theorem calls_up {P : Program} {f : FuncId} {args : Array Value} {W : World} {s : Up W} {v : Value}
    (h : Calls P f args s.w fun e w' => e = .returned v ∧ Below s.w.heap.size s.w w') : Calls P f args s.w fun e w'' => e = .returned v ∧ ∃ s' : Up W, w'' = s'.w :=
  calls_class h fun _ hb => s.h.trans (hb.mono s.h.size)
theorem calls_up_same {P : Program} {f : FuncId} {args : Array Value} {W : World} {s : Up W} {v : Value}
    (h : Calls P f args s.w fun e w' => e = .returned v ∧ w' = s.w) : Calls P f args s.w fun e w'' => e = .returned v ∧ ∃ s' : Up W, w'' = s'.w :=
  h.mono fun _ _ ⟨he, hw⟩ => ⟨he, s, hw⟩

/-- A cell of the world below. -/
theorem Up.cell {W : World} {b o : Nat} {v : Value} (h : W.cell? ⟨b, o, none⟩ = some v) (s : Up W) : s.w.cell? ⟨b, o, none⟩ = some v :=
  (s.h.cell (p := ⟨b, o, none⟩) (World.block_lt_of_cell? _ _ h)).trans h

/-- What a later world holds of an earlier one. -/
theorem held {W w : World} (hb : Below W.heap.size W w) {b o : Nat} {v : Value} (h : W.cell? ⟨b, o, none⟩ = some v) : w.cell? ⟨b, o, none⟩ = some v :=
  (hb.cell (p := ⟨b, o, none⟩) (World.block_lt_of_cell? _ _ h)).trans h
theorem above {W w w' : World} (h : Below W.heap.size W w) (h' : Below w.heap.size w w') : Below W.heap.size W w' := h.trans (h'.mono h.size)
end Go.Proofs.YtlgpoapedgodoaaDoor
