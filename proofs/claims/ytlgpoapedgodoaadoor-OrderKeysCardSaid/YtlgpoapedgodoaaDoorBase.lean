/- Worlds: what a call that only makes memory leaves behind a new block. -/
import Derived.WalkKit
import Derived.Below
namespace Go.Proofs.YtlgpoapedgodoaaDoor

/-- What a call leaves that was made in a world with one new block at its end. -/
theorem keep1 {w1 w2 : World} {C : Array Value} {T : TypeId} (hb : RowKit.Below (w1.alloc (.cells C T)).heap.size (w1.alloc (.cells C T)) w2) :
    (∀ {b o : Nat} {v : Value}, b < w1.heap.size → w1.cell? ⟨b, o, none⟩ = some v → w2.cell? ⟨b, o, none⟩ = some v) ∧ (∀ o, w2.cell? ⟨w1.heap.size, o, none⟩ = C[o]?) ∧ w1.heap.size < w2.heap.size ∧ RowKit.Below w1.heap.size w1 w2 := by
  have e : (w1.alloc (.cells C T)).heap.size = w1.heap.size + 1 := by simp
  rw [e] at hb
  refine ⟨fun {b o v} hl h => ?_, fun o => ?_, by have := hb.size; rw [e] at this; omega, ((RowKit.Below.refl _ _).alloc (Nat.le_refl _) _).trans (hb.mono (by omega))⟩
  · exact (hb.cell (p := ⟨b, o, none⟩) (by show b < _; omega)).trans ((World.cell?_alloc_past (.cells C T) b o hl).trans h)
  · exact (hb.cell (p := ⟨w1.heap.size, o, none⟩) (by simp)).trans (by simp)

/-- A block that is known whole. -/
theorem blk_cell {w : World} {g : Nat} {cs : Array Value} {t : TypeId} {fr : Nat × Nat} (h : w.heap[g]? = some (.cells cs t fr)) (i : Nat) {v : Value} (hv : cs[i]? = some v) : w.cell? ⟨g, i, none⟩ = some v := by simp [World.cell?, h, hv]
theorem blk_free {w : World} {g : Nat} {cs : Array Value} {t : TypeId} (h : w.heap[g]? = some (.cells cs t (0, 0))) (i : Nat) : w.frozen? ⟨g, i, none⟩ = false := by simp [World.frozen?, h]
theorem blk_lt {w : World} {g : Nat} {o : Obj} (h : w.heap[g]? = some o) : g < w.heap.size := by
  by_cases hg : g < w.heap.size
  · exact hg
  · rw [Array.getElem?_eq_none (by omega)] at h; cases h
theorem blk_keep {w w' : World} (hb : RowKit.Below w.heap.size w w') {g : Nat} {o : Obj} (h : w.heap[g]? = some o) : w'.heap[g]? = some o := (hb.block g (blk_lt h)).trans h
theorem blk_new (w : World) (o : Obj) : (w.alloc o).heap[w.heap.size]? = some o := heap_alloc_new w o
theorem blk_new' (w : World) (o : Obj) {n : Nat} (hn : n = w.heap.size) : (w.alloc o).heap[n]? = some o := by subst hn; exact heap_alloc_new w o
theorem blk_old {w : World} {g : Nat} {o : Obj} (h : w.heap[g]? = some o) (o' : Obj) : (w.alloc o').heap[g]? = some o := (RowKit.Below.heap_alloc w o' g (blk_lt h)).trans h
theorem blk_set {w : World} {g i : Nat} {cs : Array Value} {t : TypeId} {fr : Nat × Nat} (h : w.heap[g]? = some (.cells cs t fr)) (v : Value) : (w.setCell ⟨g, i, none⟩ v).heap[g]? = some (.cells (cs.setIfInBounds i v) t fr) := by
  simp [World.setCell, Array.getElem?_modify, h]
theorem blk_set_ne {w : World} {g : Nat} {a : Addr} {o : Obj} (h : w.heap[g]? = some o) (hne : g ≠ a.block) (v : Value) : (w.setCell a v).heap[g]? = some o := (RowKit.Below.heap_setCell w a v g hne).trans h

/-- Three cells stored. -/
def set3 (w : World) (g : Nat) (y0 y1 y2 : Value) : World := ((w.setCell ⟨g, 0, none⟩ y0).setCell ⟨g, 1, none⟩ y1).setCell ⟨g, 2, none⟩ y2
theorem set3_blk {w : World} {g : Nat} {x0 x1 x2 : Value} {t : TypeId} {fr : Nat × Nat} (h : w.heap[g]? = some (.cells #[x0, x1, x2] t fr)) (y0 y1 y2 : Value) : (set3 w g y0 y1 y2).heap[g]? = some (.cells #[y0, y1, y2] t fr) :=
  blk_set (blk_set (blk_set h y0) y1) y2
theorem set3_ne {w : World} {g k : Nat} {o : Obj} (h : w.heap[k]? = some o) (hne : k ≠ g) (y0 y1 y2 : Value) : (set3 w g y0 y1 y2).heap[k]? = some o :=
  blk_set_ne (blk_set_ne (blk_set_ne h hne y0) hne y1) hne y2
theorem set3_size (w : World) (g : Nat) (y0 y1 y2 : Value) : (set3 w g y0 y1 y2).heap.size = w.heap.size := by simp [set3, World.setCell]
theorem set3_below {B : Nat} {a w : World} (h : RowKit.Below B a w) {g : Nat} (hg : B ≤ g) (y0 y1 y2 : Value) : RowKit.Below B a (set3 w g y0 y1 y2) := ((h.setCell (p := ⟨g, 0, none⟩) hg y0).setCell (p := ⟨g, 1, none⟩) hg y1).setCell (p := ⟨g, 2, none⟩) hg y2
theorem set3_owns {w : World} {base : Nat} {e : TypeId} {size : Nat} {v : Value} {n : Nat} {xs : List Value} (h : w.ownsRow base e size v n xs) {g : Nat} (hg : g < base) (y0 y1 y2 : Value) : (set3 w g y0 y1 y2).ownsRow base e size v n xs :=
  RowKit.ownsRow_setCell_below (RowKit.ownsRow_setCell_below (RowKit.ownsRow_setCell_below h (a := ⟨g, 0, none⟩) hg y0) (a := ⟨g, 1, none⟩) hg y1) (a := ⟨g, 2, none⟩) hg y2

/-- An owned row stays owned behind a call that only makes memory. -/
theorem owns_keep {w w' : World} {base : Nat} {e : TypeId} {size : Nat} {v : Value} {n : Nat} {xs : List Value} (h : w.ownsRow base e size v n xs) (hb : RowKit.Below w.heap.size w w') : w'.ownsRow base e size v n xs := by
  obtain ⟨h1, h2⟩ := h
  refine ⟨h1, ?_⟩
  rcases h2 with h2 | ⟨g, cap, cur, hv, hg, hh, r⟩
  · exact Or.inl h2
  · exact Or.inr ⟨g, cap, cur, hv, hg, blk_keep hb hh, r⟩
end Go.Proofs.YtlgpoapedgodoaaDoor
