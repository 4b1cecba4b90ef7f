/- How a statement's arguments are opened. -/
import Derived.Test.YtlgpoapedgodoaaDoorValOpen
import Derived.Test.YtlgpoapedgodoaaDoorRow
import Derived.Stop.Joined
import Derived.Shelf.Vars
namespace Go.Proofs.YtlgpoapedgodoaaDoor
open Go.ChangeShapes Go.WideShapes Go.ChangeAt Go.RowKit

theorem own : ownKnob Tryd.prog.godebug = none := by kernel_rfl
theorem laidOut : laidOutB Tryd.prog = true := by kernel_rfl

theorem laidMetH_bare (P : Program) (l : List (String × DataW Unit)) (w : World) (h : (l.filter fun x => x.2.handleName?.isSome) = []) : laidMetH P l w = laidMet P l w := by
  unfold laidMetH; rw [h]

theorem maxLen_cell {W : World} (h : W.ShapedOpen Tryd.prog) : ∃ m, W.cell? ⟨0, 0, none⟩ = some (.int .i64 m) :=
  cell_of_shapedOpen_int (P := Tryd.prog) (g := 0) (t := 3) (zero := #[.int .i64 0]) h (of_decide_eq_true (by kernel_rfl)) (by kernel_rfl) rfl (by kernel_rfl) (by kernel_rfl) Tryd.underlying3

section
variable {H : Type} {enc : TypeId × Value → H} {W : World} {base : Nat} {spare : Nat → Bool} {held : Bool} {d : DataW H} {p : List MemPlace} {v : Value}

theorem open_arg (h : DataW.Trod enc Tryd.prog W base spare held 28 v d p) (hw : Light 28 d) : ∃ (n : Nat) (x : VT n), IsV n W v x := by
  obtain ⟨m, hm⟩ := h
  obtain ⟨x, hx⟩ := open_value m _ _ hm hw
  obtain ⟨k, z, t, d1, l1, c1, d2, l2, c2, d3, l3, c3, d4, l4, c4, e⟩ := hx.seven
  have hv : v = .agg #[.int .i64 k, .int .u64 z, .string t, .slice d1 l1 c1, .slice d2 l2 c2, .slice d3 l3 c3, .slice d4 l4 c4] := by
    have hl := congrArg List.length e
    cases v with
    | agg cs =>
      have : cs = #[.int .i64 k, .int .u64 z, .string t, .slice d1 l1 c1, .slice d2 l2 c2, .slice d3 l3 c3, .slice d4 l4 c4] := Array.ext' e
      rw [this]
    | _ => simp [Value.cells] at hl
  rw [e] at hx
  exact ⟨m, x, k, z, t, d1, l1, c1, d2, l2, c2, d3, l3, c3, d4, l4, c4, hv, hx⟩
end

/-- At more levels. -/
theorem IsV.upTo {n : Nat} {w : World} {v : Value} {x : VT n} (h : IsV n w v x) (m : Nat) (hm : n ≤ m) : ∃ y : VT m, IsV m w v y := by
  obtain ⟨k, z, t, d1, l1, c1, d2, l2, c2, d3, l3, c3, d4, l4, c4, e, hx⟩ := h
  obtain ⟨y, hy⟩ := hx.upTo m hm
  exact ⟨y, k, z, t, d1, l1, c1, d2, l2, c2, d3, l3, c3, d4, l4, c4, e, hy⟩
end Go.Proofs.YtlgpoapedgodoaaDoor
