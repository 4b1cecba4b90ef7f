/- Blocks that boxed arguments make, read cell by cell. -/
import Derived.Test.YtlgpoapedgodoaaDoorTail
namespace Go.Proofs.YtlgpoapedgodoaaDoor
open Go.RowKit

theorem cells2 {W : World} {b : Nat} {a0 a1 : Value} {t : TypeId} {fr : Nat × Nat} (h : W.heap[b]? = some (.cells #[a0, a1] t fr)) :
    W.cell? ⟨b, 0, none⟩ = some a0 ∧ W.cell? ⟨b, 1, none⟩ = some a1 :=
  ⟨blk_cell h 0 rfl, blk_cell h 1 rfl⟩
theorem up2 {W : World} {b : Nat} {a0 a1 : Value} {t : TypeId} {fr : Nat × Nat} (h : W.heap[b]? = some (.cells #[a0, a1] t fr)) :
    (∀ s : Up W, s.w.cell? ⟨b, 0, none⟩ = some a0) ∧ (∀ s : Up W, s.w.cell? ⟨b, 1, none⟩ = some a1) :=
  ⟨fun s => Up.cell (blk_cell h 0 rfl) s, fun s => Up.cell (blk_cell h 1 rfl) s⟩
theorem cells4 {W : World} {b : Nat} {a0 a1 a2 a3 : Value} {t : TypeId} {fr : Nat × Nat} (h : W.heap[b]? = some (.cells #[a0, a1, a2, a3] t fr)) :
    W.cell? ⟨b, 0, none⟩ = some a0 ∧ W.cell? ⟨b, 1, none⟩ = some a1 ∧ W.cell? ⟨b, 2, none⟩ = some a2 ∧ W.cell? ⟨b, 3, none⟩ = some a3 :=
  ⟨blk_cell h 0 rfl, blk_cell h 1 rfl, blk_cell h 2 rfl, blk_cell h 3 rfl⟩
theorem up4 {W : World} {b : Nat} {a0 a1 a2 a3 : Value} {t : TypeId} {fr : Nat × Nat} (h : W.heap[b]? = some (.cells #[a0, a1, a2, a3] t fr)) :
    (∀ s : Up W, s.w.cell? ⟨b, 0, none⟩ = some a0) ∧ (∀ s : Up W, s.w.cell? ⟨b, 1, none⟩ = some a1) ∧ (∀ s : Up W, s.w.cell? ⟨b, 2, none⟩ = some a2) ∧ (∀ s : Up W, s.w.cell? ⟨b, 3, none⟩ = some a3) :=
  ⟨fun s => Up.cell (blk_cell h 0 rfl) s, fun s => Up.cell (blk_cell h 1 rfl) s, fun s => Up.cell (blk_cell h 2 rfl) s, fun s => Up.cell (blk_cell h 3 rfl) s⟩
theorem cells7 {W : World} {b : Nat} {a0 a1 a2 a3 a4 a5 a6 : Value} {t : TypeId} {fr : Nat × Nat} (h : W.heap[b]? = some (.cells #[a0, a1, a2, a3, a4, a5, a6] t fr)) :
    W.cell? ⟨b, 0, none⟩ = some a0 ∧ W.cell? ⟨b, 1, none⟩ = some a1 ∧ W.cell? ⟨b, 2, none⟩ = some a2 ∧ W.cell? ⟨b, 3, none⟩ = some a3 ∧ W.cell? ⟨b, 4, none⟩ = some a4 ∧ W.cell? ⟨b, 5, none⟩ = some a5 ∧ W.cell? ⟨b, 6, none⟩ = some a6 :=
  ⟨blk_cell h 0 rfl, blk_cell h 1 rfl, blk_cell h 2 rfl, blk_cell h 3 rfl, blk_cell h 4 rfl, blk_cell h 5 rfl, blk_cell h 6 rfl⟩
theorem up7 {W : World} {b : Nat} {a0 a1 a2 a3 a4 a5 a6 : Value} {t : TypeId} {fr : Nat × Nat} (h : W.heap[b]? = some (.cells #[a0, a1, a2, a3, a4, a5, a6] t fr)) :
    (∀ s : Up W, s.w.cell? ⟨b, 0, none⟩ = some a0) ∧ (∀ s : Up W, s.w.cell? ⟨b, 1, none⟩ = some a1) ∧ (∀ s : Up W, s.w.cell? ⟨b, 2, none⟩ = some a2) ∧ (∀ s : Up W, s.w.cell? ⟨b, 3, none⟩ = some a3) ∧ (∀ s : Up W, s.w.cell? ⟨b, 4, none⟩ = some a4) ∧ (∀ s : Up W, s.w.cell? ⟨b, 5, none⟩ = some a5) ∧ (∀ s : Up W, s.w.cell? ⟨b, 6, none⟩ = some a6) :=
  ⟨fun s => Up.cell (blk_cell h 0 rfl) s, fun s => Up.cell (blk_cell h 1 rfl) s, fun s => Up.cell (blk_cell h 2 rfl) s, fun s => Up.cell (blk_cell h 3 rfl) s, fun s => Up.cell (blk_cell h 4 rfl) s, fun s => Up.cell (blk_cell h 5 rfl) s, fun s => Up.cell (blk_cell h 6 rfl) s⟩
theorem cells8 {W : World} {b : Nat} {a0 a1 a2 a3 a4 a5 a6 a7 : Value} {t : TypeId} {fr : Nat × Nat} (h : W.heap[b]? = some (.cells #[a0, a1, a2, a3, a4, a5, a6, a7] t fr)) :
    W.cell? ⟨b, 0, none⟩ = some a0 ∧ W.cell? ⟨b, 1, none⟩ = some a1 ∧ W.cell? ⟨b, 2, none⟩ = some a2 ∧ W.cell? ⟨b, 3, none⟩ = some a3 ∧ W.cell? ⟨b, 4, none⟩ = some a4 ∧ W.cell? ⟨b, 5, none⟩ = some a5 ∧ W.cell? ⟨b, 6, none⟩ = some a6 ∧ W.cell? ⟨b, 7, none⟩ = some a7 :=
  ⟨blk_cell h 0 rfl, blk_cell h 1 rfl, blk_cell h 2 rfl, blk_cell h 3 rfl, blk_cell h 4 rfl, blk_cell h 5 rfl, blk_cell h 6 rfl, blk_cell h 7 rfl⟩
theorem up8 {W : World} {b : Nat} {a0 a1 a2 a3 a4 a5 a6 a7 : Value} {t : TypeId} {fr : Nat × Nat} (h : W.heap[b]? = some (.cells #[a0, a1, a2, a3, a4, a5, a6, a7] t fr)) :
    (∀ s : Up W, s.w.cell? ⟨b, 0, none⟩ = some a0) ∧ (∀ s : Up W, s.w.cell? ⟨b, 1, none⟩ = some a1) ∧ (∀ s : Up W, s.w.cell? ⟨b, 2, none⟩ = some a2) ∧ (∀ s : Up W, s.w.cell? ⟨b, 3, none⟩ = some a3) ∧ (∀ s : Up W, s.w.cell? ⟨b, 4, none⟩ = some a4) ∧ (∀ s : Up W, s.w.cell? ⟨b, 5, none⟩ = some a5) ∧ (∀ s : Up W, s.w.cell? ⟨b, 6, none⟩ = some a6) ∧ (∀ s : Up W, s.w.cell? ⟨b, 7, none⟩ = some a7) :=
  ⟨fun s => Up.cell (blk_cell h 0 rfl) s, fun s => Up.cell (blk_cell h 1 rfl) s, fun s => Up.cell (blk_cell h 2 rfl) s, fun s => Up.cell (blk_cell h 3 rfl) s, fun s => Up.cell (blk_cell h 4 rfl) s, fun s => Up.cell (blk_cell h 5 rfl) s, fun s => Up.cell (blk_cell h 6 rfl) s, fun s => Up.cell (blk_cell h 7 rfl) s⟩
theorem cells14 {W : World} {b : Nat} {a0 a1 a2 a3 a4 a5 a6 a7 a8 a9 a10 a11 a12 a13 : Value} {t : TypeId} {fr : Nat × Nat} (h : W.heap[b]? = some (.cells #[a0, a1, a2, a3, a4, a5, a6, a7, a8, a9, a10, a11, a12, a13] t fr)) :
    W.cell? ⟨b, 0, none⟩ = some a0 ∧ W.cell? ⟨b, 1, none⟩ = some a1 ∧ W.cell? ⟨b, 2, none⟩ = some a2 ∧ W.cell? ⟨b, 3, none⟩ = some a3 ∧ W.cell? ⟨b, 4, none⟩ = some a4 ∧ W.cell? ⟨b, 5, none⟩ = some a5 ∧ W.cell? ⟨b, 6, none⟩ = some a6 ∧ W.cell? ⟨b, 7, none⟩ = some a7 ∧ W.cell? ⟨b, 8, none⟩ = some a8 ∧ W.cell? ⟨b, 9, none⟩ = some a9 ∧ W.cell? ⟨b, 10, none⟩ = some a10 ∧ W.cell? ⟨b, 11, none⟩ = some a11 ∧ W.cell? ⟨b, 12, none⟩ = some a12 ∧ W.cell? ⟨b, 13, none⟩ = some a13 :=
  ⟨blk_cell h 0 rfl, blk_cell h 1 rfl, blk_cell h 2 rfl, blk_cell h 3 rfl, blk_cell h 4 rfl, blk_cell h 5 rfl, blk_cell h 6 rfl, blk_cell h 7 rfl, blk_cell h 8 rfl, blk_cell h 9 rfl, blk_cell h 10 rfl, blk_cell h 11 rfl, blk_cell h 12 rfl, blk_cell h 13 rfl⟩
theorem up14 {W : World} {b : Nat} {a0 a1 a2 a3 a4 a5 a6 a7 a8 a9 a10 a11 a12 a13 : Value} {t : TypeId} {fr : Nat × Nat} (h : W.heap[b]? = some (.cells #[a0, a1, a2, a3, a4, a5, a6, a7, a8, a9, a10, a11, a12, a13] t fr)) :
    (∀ s : Up W, s.w.cell? ⟨b, 0, none⟩ = some a0) ∧ (∀ s : Up W, s.w.cell? ⟨b, 1, none⟩ = some a1) ∧ (∀ s : Up W, s.w.cell? ⟨b, 2, none⟩ = some a2) ∧ (∀ s : Up W, s.w.cell? ⟨b, 3, none⟩ = some a3) ∧ (∀ s : Up W, s.w.cell? ⟨b, 4, none⟩ = some a4) ∧ (∀ s : Up W, s.w.cell? ⟨b, 5, none⟩ = some a5) ∧ (∀ s : Up W, s.w.cell? ⟨b, 6, none⟩ = some a6) ∧ (∀ s : Up W, s.w.cell? ⟨b, 7, none⟩ = some a7) ∧ (∀ s : Up W, s.w.cell? ⟨b, 8, none⟩ = some a8) ∧ (∀ s : Up W, s.w.cell? ⟨b, 9, none⟩ = some a9) ∧ (∀ s : Up W, s.w.cell? ⟨b, 10, none⟩ = some a10) ∧ (∀ s : Up W, s.w.cell? ⟨b, 11, none⟩ = some a11) ∧ (∀ s : Up W, s.w.cell? ⟨b, 12, none⟩ = some a12) ∧ (∀ s : Up W, s.w.cell? ⟨b, 13, none⟩ = some a13) :=
  ⟨fun s => Up.cell (blk_cell h 0 rfl) s, fun s => Up.cell (blk_cell h 1 rfl) s, fun s => Up.cell (blk_cell h 2 rfl) s, fun s => Up.cell (blk_cell h 3 rfl) s, fun s => Up.cell (blk_cell h 4 rfl) s, fun s => Up.cell (blk_cell h 5 rfl) s, fun s => Up.cell (blk_cell h 6 rfl) s, fun s => Up.cell (blk_cell h 7 rfl) s, fun s => Up.cell (blk_cell h 8 rfl) s, fun s => Up.cell (blk_cell h 9 rfl) s, fun s => Up.cell (blk_cell h 10 rfl) s, fun s => Up.cell (blk_cell h 11 rfl) s, fun s => Up.cell (blk_cell h 12 rfl) s, fun s => Up.cell (blk_cell h 13 rfl) s⟩

theorem box1_facts (w : World) (c1 : Array Value) (t1 : TypeId) : (w.alloc (.cells c1 t1)).heap[w.heap.size]? = some (.cells c1 t1 (0, 0)) ∧ Below w.heap.size w (w.alloc (.cells c1 t1)) :=
  ⟨blk_new w _, (Below.refl _ _).alloc (Nat.le_refl _) _⟩
theorem box2_facts (w : World) (c1 : Array Value) (t1 : TypeId) (c2 : Array Value) (t2 : TypeId) :
    ((w.alloc (.cells c1 t1)).alloc (.cells c2 t2)).heap[w.heap.size]? = some (.cells c1 t1 (0, 0)) ∧ ((w.alloc (.cells c1 t1)).alloc (.cells c2 t2)).heap[w.heap.size + 1]? = some (.cells c2 t2 (0, 0)) ∧ Below w.heap.size w ((w.alloc (.cells c1 t1)).alloc (.cells c2 t2)) :=
  ⟨blk_old (blk_new w _) _, blk_new' _ _ (by simp), ((Below.refl _ _).alloc (Nat.le_refl _) _).alloc (by simp) _⟩

/-- A boxed argument: the world behind a letter. -/
theorem wp_box1 {P : Program} {c : Code} {Q : Exit → Act → World → Prop} {a : Act} {w : World} {c1 : Array Value} {t1 : TypeId}
    (h : ∀ W : World, W.heap[w.heap.size]? = some (.cells c1 t1 (0, 0)) → Below w.heap.size w W → c.wp P Q a W) : c.wp P Q a (w.alloc (.cells c1 t1)) :=
  h _ (box1_facts w c1 t1).1 (box1_facts w c1 t1).2
theorem calls_box1 {P : Program} {f : FuncId} {args : Array Value} {Q : Ending → World → Prop} {w : World} {c1 : Array Value} {t1 : TypeId}
    (h : ∀ W : World, W.heap[w.heap.size]? = some (.cells c1 t1 (0, 0)) → Below w.heap.size w W → Calls P f args W Q) : Calls P f args (w.alloc (.cells c1 t1)) Q :=
  h _ (box1_facts w c1 t1).1 (box1_facts w c1 t1).2
theorem wp_box2 {P : Program} {c : Code} {Q : Exit → Act → World → Prop} {a : Act} {w : World} {c1 : Array Value} {t1 : TypeId} {c2 : Array Value} {t2 : TypeId}
    (h : ∀ W : World, W.heap[w.heap.size]? = some (.cells c1 t1 (0, 0)) → W.heap[w.heap.size + 1]? = some (.cells c2 t2 (0, 0)) → Below w.heap.size w W → c.wp P Q a W) : c.wp P Q a ((w.alloc (.cells c1 t1)).alloc (.cells c2 t2)) :=
  h _ (box2_facts w c1 t1 c2 t2).1 (box2_facts w c1 t1 c2 t2).2.1 (box2_facts w c1 t1 c2 t2).2.2
theorem calls_box2 {P : Program} {f : FuncId} {args : Array Value} {Q : Ending → World → Prop} {w : World} {c1 : Array Value} {t1 : TypeId} {c2 : Array Value} {t2 : TypeId}
    (h : ∀ W : World, W.heap[w.heap.size]? = some (.cells c1 t1 (0, 0)) → W.heap[w.heap.size + 1]? = some (.cells c2 t2 (0, 0)) → Below w.heap.size w W → Calls P f args W Q) : Calls P f args ((w.alloc (.cells c1 t1)).alloc (.cells c2 t2)) Q :=
  h _ (box2_facts w c1 t1 c2 t2).1 (box2_facts w c1 t1 c2 t2).2.1 (box2_facts w c1 t1 c2 t2).2.2

/-- A callee that only makes memory: what follows is asked above its world. -/
theorem calls_on {P : Program} {f : FuncId} {args : Array Value} {W : World} {v : Value} {Q : Ending → World → Prop}
    (h : Calls P f args W fun e w' => e = .returned v ∧ Below W.heap.size W w') (hQ : ∀ w', Below W.heap.size W w' → Q (.returned v) w') : Calls P f args W Q :=
  h.mono fun e w' ⟨he, hb⟩ => by subst he; exact hQ w' hb
theorem calls_same {P : Program} {f : FuncId} {args : Array Value} {W : World} {v : Value} {Q : Ending → World → Prop}
    (h : Calls P f args W fun e w' => e = .returned v ∧ w' = W) (hQ : Q (.returned v) W) : Calls P f args W Q :=
  h.mono fun e w' ⟨he, hb⟩ => by subst he; subst hb; exact hQ
end Go.Proofs.YtlgpoapedgodoaaDoor
