/- How arrays of two, three and four integers read. -/
import Derived.Test.YtmihbfknhflfiaaRetryOpen
namespace Go.Proofs.Ytmihbfknhflfiaa
open Go.ChangeShapes Go.WideShapes Go.ChangeAt Go.RowKit Go.Joins

section
variable {H : Type} {enc : TypeId × Value → H} {W : World} {b0 base : Nat} {spare : Nat → Bool} {held : Bool} {v : Value} {d : DataW H} {p : List MemPlace}

theorem agg_of {t : TypeId} {n : Nat} {e : TypeId} (ht : Try.prog.underlying t = some (.array n e)) (hv : Value.okWide Try.prog W .any b0 t v) : ∃ cs, v = .agg cs ∧ cs.size = Try.prog.cellsOf t := by
  simp only [Value.okWide, ht] at hv
  obtain ⟨cs, h1, h2, _⟩ := hv
  exact ⟨cs, h1, h2⟩

theorem elem_int {fuel : Nat} {cs : List Value} {i : Nat} {xs : List (DataW H × List MemPlace)} {n : Nat} (hl : xs.length = n) (hi : i < n) (hc : i < cs.length)
    (h : DataW.trod enc Try.prog W base spare held fuel 3 ((cs.drop (i * Try.prog.cellsOf 3)).take (Try.prog.cellsOf 3)) = xs[i]?) : ∃ a : Int, cs[i]? = some (.int .i64 a) ∧ I64 a := by
  rw [cellsInt, Nat.mul_one] at h
  rw [List.getElem?_eq_getElem (by omega)] at h
  obtain ⟨a, h1, _, wa⟩ := DataW.trod_int Try.underlying3 h
  refine ⟨a, ?_, bounds_i64 wa⟩
  rw [List.getElem?_eq_getElem hc]
  rw [List.drop_eq_getElem_cons hc, List.take_succ_cons, List.take_zero] at h1
  rw [List.cons.inj h1 |>.1]

theorem open_arr2 (hv : Value.okWide Try.prog W .any b0 37 v) (h : DataW.Trod enc Try.prog W base spare held 37 v d p) :
    ∃ a b : Int, v = .agg #[.int .i64 a, .int .i64 b] ∧ I64 a ∧ I64 b := by
  obtain ⟨cs, rfl, hs⟩ := agg_of Try.underlying37 hv
  have hs2 : cs.size = 2 := hs.trans (by kernel_rfl)
  obtain ⟨c0, c1, rfl⟩ := array2 hs2
  obtain ⟨fuel, hf⟩ := h
  obtain ⟨xs, m, _, _, _, hl, he⟩ := DataW.trod_array Try.underlying37 (by simpa [Value.cells] using hf)
  obtain ⟨a, ha, ia⟩ := elem_int hl (i := 0) (by omega) (by simp) (he 0 (by omega))
  obtain ⟨b, hb, ib⟩ := elem_int hl (i := 1) (by omega) (by simp) (he 1 (by omega))
  simp at ha hb
  subst ha hb
  exact ⟨a, b, rfl, ia, ib⟩
theorem open_arr3 (hv : Value.okWide Try.prog W .any b0 40 v) (h : DataW.Trod enc Try.prog W base spare held 40 v d p) :
    ∃ a b c : Int, v = .agg #[.int .i64 a, .int .i64 b, .int .i64 c] ∧ I64 a ∧ I64 b ∧ I64 c := by
  obtain ⟨cs, rfl, hs⟩ := agg_of Try.underlying40 hv
  have hs2 : cs.size = 3 := hs.trans (by kernel_rfl)
  obtain ⟨c0, c1, c2, rfl⟩ := array3 hs2
  obtain ⟨fuel, hf⟩ := h
  obtain ⟨xs, m, _, _, _, hl, he⟩ := DataW.trod_array Try.underlying40 (by simpa [Value.cells] using hf)
  obtain ⟨a, ha, ia⟩ := elem_int hl (i := 0) (by omega) (by simp) (he 0 (by omega))
  obtain ⟨b, hb, ib⟩ := elem_int hl (i := 1) (by omega) (by simp) (he 1 (by omega))
  obtain ⟨c, hc, ic⟩ := elem_int hl (i := 2) (by omega) (by simp) (he 2 (by omega))
  simp at ha hb hc
  subst ha hb hc
  exact ⟨a, b, c, rfl, ia, ib, ic⟩
theorem open_arr4 (hv : Value.okWide Try.prog W .any b0 48 v) (h : DataW.Trod enc Try.prog W base spare held 48 v d p) :
    ∃ a b c e : Int, v = .agg #[.int .i64 a, .int .i64 b, .int .i64 c, .int .i64 e] ∧ I64 a ∧ I64 b ∧ I64 c ∧ I64 e := by
  obtain ⟨cs, rfl, hs⟩ := agg_of Try.underlying48 hv
  have hs2 : cs.size = 4 := hs.trans (by kernel_rfl)
  obtain ⟨c0, c1, c2, c3, rfl⟩ := array4 hs2
  obtain ⟨fuel, hf⟩ := h
  obtain ⟨xs, m, _, _, _, hl, he⟩ := DataW.trod_array Try.underlying48 (by simpa [Value.cells] using hf)
  obtain ⟨a, ha, ia⟩ := elem_int hl (i := 0) (by omega) (by simp) (he 0 (by omega))
  obtain ⟨b, hb, ib⟩ := elem_int hl (i := 1) (by omega) (by simp) (he 1 (by omega))
  obtain ⟨c, hc, ic⟩ := elem_int hl (i := 2) (by omega) (by simp) (he 2 (by omega))
  obtain ⟨e, he', ie⟩ := elem_int hl (i := 3) (by omega) (by simp) (he 3 (by omega))
  simp at ha hb hc he'
  subst ha hb hc he'
  exact ⟨a, b, c, e, rfl, ia, ib, ic, ie⟩
end
end Go.Proofs.Ytmihbfknhflfiaa
