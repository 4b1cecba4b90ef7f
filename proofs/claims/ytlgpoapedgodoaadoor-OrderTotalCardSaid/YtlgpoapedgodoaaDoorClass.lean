/- A region that draws its order, walked once, in whatever world of a class: its own operations only read, its callees leave a world of the class. -/
import Derived.WalkKit
import Derived.Below
import Derived.Deep.QuietTactic
import Derived.BigQuiet
namespace Go.Proofs.YtlgpoapedgodoaaDoor

/-- A world of which S holds. -/
structure InClass (S : World → Prop) where
  w : World
  h : S w

theorem wp_region_class {P : Program} {id : Nat} {Q : Exit → Act → World → Prop} {a : Act} {w : World} {l : List Oper} (S : World → Prop) (hm : P.follows .mixedOrders = true) (hB : Region.lexB .any l.toArray = true) (h0 : S w.drew)
    (h : wpQuiet P l.toArray (fun w' => ∃ s : InClass S, w' = s.w) (fun a' => ∀ w', (∃ s : InClass S, w' = s.w) → Q .normal a' w') l a) : (Code.region id l.toArray true).wp P Q a w :=
  wp_region_quiet (C := fun w' => ∃ s : InClass S, w' = s.w) hm hB ⟨⟨_, h0⟩, rfl⟩ (by simpa using h)

/-- A callee's contract, met in a world of the class. -/
theorem calls_class {P : Program} {f : FuncId} {args : Array Value} {S : World → Prop} {s : InClass S} {v : Value} {R : World → Prop}
    (h : Calls P f args s.w fun e w' => e = .returned v ∧ R w') (hR : ∀ w', R w' → S w') : Calls P f args s.w fun e w'' => e = .returned v ∧ ∃ s' : InClass S, w'' = s'.w :=
  h.mono fun _ w' ⟨he, hw⟩ => ⟨he, ⟨w', hR w' hw⟩, rfl⟩
end Go.Proofs.YtlgpoapedgodoaaDoor
