/- How a slice of arrays of three integers reads. -/
import Derived.Test.YtmihbfknhflfiaaRetryArr
import Derived.Deep.Slices
namespace Go.Proofs.Ytmihbfknhflfiaa
open Go.ChangeShapes Go.WideShapes Go.ChangeAt Go.RowKit Go.Joins

/-- A slice of n triples: each one's three cells. -/
def ReadsQ (w : World) (v : Value) (n : Nat) : Prop :=
  ∃ ao c, v = .slice ao n c ∧ n ≤ 9223372036854775807 ∧ (n = 0 ∨ ∃ b o, ao = some ⟨b, o, none⟩ ∧ ∀ i : Nat, i < n → ∃ x y z : Int,
    w.cell? ⟨b, o + i * 3, none⟩ = some (.int .i64 x) ∧ w.cell? ⟨b, o + i * 3 + 1, none⟩ = some (.int .i64 y) ∧ w.cell? ⟨b, o + i * 3 + 2, none⟩ = some (.int .i64 z))

theorem addr_add (b o n : Nat) : (⟨b, o, none⟩ : Addr).add n = ⟨b, o + n, none⟩ := by
  unfold Addr.add
  split
  · rename_i h; subst h; rfl
  · rfl
theorem cellsTriple : Try.prog.cellsOf 40 = 3 := by kernel_rfl

section
variable {H : Type} {enc : TypeId × Value → H} {W : World} {b0 base : Nat} {spare : Nat → Bool} {held : Bool} {v : Value} {d : DataW H} {p : List MemPlace}

theorem three_cells {a : Addr} {cs : List Value} (h : W.cells? base a 3 = some cs) : ∃ c0 c1 c2, cs = [c0, c1, c2] ∧ W.cell? (a.add 0) = some c0 ∧ W.cell? (a.add 1) = some c1 ∧ W.cell? (a.add 2) = some c2 := by
  obtain ⟨_, hl, hc⟩ := World.cells?_some h
  match cs, hl with
  | [c0, c1, c2], _ => exact ⟨c0, c1, c2, rfl, by simpa using hc 0 (by omega), by simpa using hc 1 (by omega), by simpa using hc 2 (by omega)⟩

theorem open_calls (hv : Value.okWide Try.prog W .any b0 46 v) (h : DataW.Trod enc Try.prog W base spare held 46 v d p) : ∃ n, ReadsQ W v n := by
  obtain ⟨ao, n, c, rfl⟩ := okWide_slice Try.underlying46 hv
  obtain ⟨fuel, hf⟩ := h
  have hf' : DataW.trod enc Try.prog W base spare held fuel 46 [.slice ao n c] = some (d, p) := by simpa [Value.cells] using hf
  rcases Deep.open_slice Try.underlying46 hf' with ⟨hcs, _⟩ | ⟨a, len, cap, m, k, D, Pl, hcs, _, hl, hm, hmm, _, hel⟩
  · simp at hcs
    obtain ⟨rfl, rfl, rfl⟩ := hcs
    exact ⟨0, none, 0, rfl, by omega, .inl rfl⟩
  · simp at hcs
    obtain ⟨rfl, rfl, rfl⟩ := hcs
    have hnm : n ≤ m := by rw [hmm]; split <;> omega
    refine ⟨n, some a, c, rfl, by unfold maxLen at hm; omega, ?_⟩
    by_cases h0 : n = 0
    · exact .inl h0
    right
    have key : ∀ i : Nat, i < n → ∃ x y z : Int, W.cell? ((a.add (i * 3)).add 0) = some (.int .i64 x) ∧ W.cell? ((a.add (i * 3)).add 1) = some (.int .i64 y) ∧ W.cell? ((a.add (i * 3)).add 2) = some (.int .i64 z) := by
      intro i hi
      obtain ⟨cs', hc, ht⟩ := hel i (by omega)
      rw [cellsTriple] at hc
      obtain ⟨c0, c1, c2, rfl, k0, k1, k2⟩ := three_cells hc
      obtain ⟨xs, m', _, _, _, hxl, he⟩ := DataW.trod_array Try.underlying40 ht
      obtain ⟨x, hx, _⟩ := elem_int hxl (i := 0) (by omega) (by simp) (he 0 (by omega))
      obtain ⟨y, hy, _⟩ := elem_int hxl (i := 1) (by omega) (by simp) (he 1 (by omega))
      obtain ⟨z, hz, _⟩ := elem_int hxl (i := 2) (by omega) (by simp) (he 2 (by omega))
      simp at hx hy hz
      subst hx hy hz
      exact ⟨x, y, z, k0, k1, k2⟩
    obtain ⟨b, o, spot⟩ := a
    obtain ⟨x0, y0, z0, q0, _, _⟩ := key 0 (by omega)
    have hspot : spot = none := by simpa [Addr.add] using World.cell?_spot q0
    subst hspot
    exact ⟨b, o, rfl, fun i hi => by
      obtain ⟨x, y, z, k0, k1, k2⟩ := key i hi
      exact ⟨x, y, z, by simpa only [addr_add, Nat.add_zero] using k0, by simpa only [addr_add] using k1, by simpa only [addr_add] using k2⟩⟩
end
end Go.Proofs.Ytmihbfknhflfiaa
