/- A row of elements, opened element by element. -/
import Derived.Test.YtlgpoapedgodoaaDoorCmpLaw
import Derived.Test.YtlgpoapedgodoaaDoorBoxes
namespace Go.Proofs.YtlgpoapedgodoaaDoor
open Go.RowKit

theorem ret_int {k : IntKind} {a b : Int} (h : a = b) : Ending.returned (.int k a) = .returned (.int k b) := by rw [h]

theorem ret_bool {a b : Bool} (h : a = b) : Ending.returned (.bool a) = .returned (.bool b) := by rw [h]

/-- Element i of a row. -/
def ElemAt {α : Type} (k : Nat) (R : World → List Value → α → Prop) (w : World) (ao : Option Addr) (i : Nat) (x : α) : Prop :=
  ∃ b o, ao = some ⟨b, o, none⟩ ∧ ∃ cs : List Value, cs.length = k ∧ (∀ (j : Nat) u, cs[j]? = some u → w.cell? ⟨b, o + (i * k + j), none⟩ = some u) ∧ R w cs x

theorem RowAt.opened {α : Type} {k : Nat} {R : World → List Value → α → Prop} {w : World} {v : Value} {xs : List α} (h : RowAt k R w v xs) :
    ∃ ao c, v = .slice ao xs.length c ∧ xs.length ≤ c ∧ c ≤ maxLen ∧ ∀ (i : Nat) x, xs[i]? = some x → ElemAt k R w ao i x := by
  obtain ⟨ao, c, hv, hc, hm, hn, hr⟩ := h
  refine ⟨ao, c, hv, hc, hm.1, fun i x hi => ?_⟩
  cases ao with
  | none => rw [hn rfl] at hi; simp at hi
  | some a =>
    rcases hr a rfl with h0 | ⟨b, o, rfl, hcell⟩
    · rw [h0] at hi; simp at hi
    · obtain ⟨cs, h1, h2, h3⟩ := hcell i x hi
      exact ⟨b, o, rfl, cs, h1, h2, h3⟩

theorem RowAt.short {α : Type} {k : Nat} {R : World → List Value → α → Prop} {w : World} {v : Value} {xs : List α} (h : RowAt k R w v xs) : xs.length ≤ 140737488351232 := by
  obtain ⟨ao, c, hv, hc, hm, _⟩ := h
  exact hm.2

theorem ElemAt.keep {α : Type} {k : Nat} {R : World → List Value → α → Prop} {w w' : World} {ao : Option Addr} {i : Nat} {x : α} (h : ElemAt k R w ao i x) (hb : Below w.heap.size w w')
    (hR : ∀ cs x, R w cs x → R w' cs x) : ElemAt k R w' ao i x := by
  obtain ⟨b, o, ha, cs, h1, h2, h3⟩ := h
  exact ⟨b, o, ha, cs, h1, fun j u hj => held hb (h2 j u hj), hR _ _ h3⟩

/-- An entry's fourteen cells; a slot's eight. -/
def RPair (n : Nat) (w : World) (cs : List Value) (y : VT n × VT n) : Prop := ∃ c1 c2, cs = c1 ++ c2 ∧ RVal n w c1 y.1 ∧ RVal n w c2 y.2
def RSlot (n : Nat) (w : World) (cs : List Value) (y : Int × VT n) : Prop := ∃ c2, cs = .int .i64 y.1 :: c2 ∧ (-9223372036854775808 ≤ y.1 ∧ y.1 ≤ 9223372036854775807) ∧ RVal n w c2 y.2
theorem RPair.keep {n : Nat} {w w' : World} (hb : Below w.heap.size w w') {cs : List Value} {y : VT n × VT n} (h : RPair n w cs y) : RPair n w' cs y := by
  obtain ⟨c1, c2, e, h1, h2⟩ := h
  exact ⟨c1, c2, e, RVal.keep hb n _ _ h1, RVal.keep hb n _ _ h2⟩
theorem RSlot.keep {n : Nat} {w w' : World} (hb : Below w.heap.size w w') {cs : List Value} {y : Int × VT n} (h : RSlot n w cs y) : RSlot n w' cs y := by
  obtain ⟨c2, e, h1, h2⟩ := h
  exact ⟨c2, e, h1, RVal.keep hb n _ _ h2⟩

/-- A value that is passed by value, and how it reads. -/
def IsV (n : Nat) (w : World) (v : Value) (x : VT n) : Prop :=
  ∃ k z t d1 l1 c1 d2 l2 c2 d3 l3 c3 d4 l4 c4, v = .agg #[.int .i64 k, .int .u64 z, .string t, .slice d1 l1 c1, .slice d2 l2 c2, .slice d3 l3 c3, .slice d4 l4 c4] ∧
    RVal n w [.int .i64 k, .int .u64 z, .string t, .slice d1 l1 c1, .slice d2 l2 c2, .slice d3 l3 c3, .slice d4 l4 c4] x
def IsP (n : Nat) (w : World) (v : Value) (y : VT n × VT n) : Prop :=
  ∃ ekx ezx etx d1x l1x c1x d2x l2x c2x d3x l3x c3x d4x l4x c4x eky ezy ety d1y l1y c1y d2y l2y c2y d3y l3y c3y d4y l4y c4y, v = .agg #[.int .i64 ekx, .int .u64 ezx, .string etx, .slice d1x l1x c1x, .slice d2x l2x c2x, .slice d3x l3x c3x, .slice d4x l4x c4x, .int .i64 eky, .int .u64 ezy, .string ety, .slice d1y l1y c1y, .slice d2y l2y c2y, .slice d3y l3y c3y, .slice d4y l4y c4y] ∧
    RVal n w [.int .i64 ekx, .int .u64 ezx, .string etx, .slice d1x l1x c1x, .slice d2x l2x c2x, .slice d3x l3x c3x, .slice d4x l4x c4x] y.1 ∧ RVal n w [.int .i64 eky, .int .u64 ezy, .string ety, .slice d1y l1y c1y, .slice d2y l2y c2y, .slice d3y l3y c3y, .slice d4y l4y c4y] y.2
def IsS (n : Nat) (w : World) (v : Value) (y : Int × VT n) : Prop :=
  ∃ eky ezy ety d1y l1y c1y d2y l2y c2y d3y l3y c3y d4y l4y c4y, v = .agg #[.int .i64 y.1, .int .i64 eky, .int .u64 ezy, .string ety, .slice d1y l1y c1y, .slice d2y l2y c2y, .slice d3y l3y c3y, .slice d4y l4y c4y] ∧ (-9223372036854775808 ≤ y.1 ∧ y.1 ≤ 9223372036854775807) ∧ RVal n w [.int .i64 eky, .int .u64 ezy, .string ety, .slice d1y l1y c1y, .slice d2y l2y c2y, .slice d3y l3y c3y, .slice d4y l4y c4y] y.2
def IsR (_ : World) (v : Value) (r : RawT) : Prop := v = .agg #[.int .i64 r.num, .int .i64 r.wire, .int .u64 r.bits, .string r.data] ∧ -9223372036854775808 ≤ r.num ∧ r.num ≤ 9223372036854775807 ∧
  -9223372036854775808 ≤ r.wire ∧ r.wire ≤ 9223372036854775807 ∧ 0 ≤ r.bits ∧ r.bits ≤ 18446744073709551615 ∧ r.data.size ≤ 140737488351232
theorem IsV.keep {n : Nat} {w w' : World} (hb : Below w.heap.size w w') {v : Value} {x : VT n} (h : IsV n w v x) : IsV n w' v x := by
  obtain ⟨k, z, t, d1, l1, c1, d2, l2, c2, d3, l3, c3, d4, l4, c4, e, h⟩ := h
  exact ⟨k, z, t, d1, l1, c1, d2, l2, c2, d3, l3, c3, d4, l4, c4, e, RVal.keep hb n _ _ h⟩

/-- The contracts of the program's comparing functions, at one number of levels. -/
def OCmp (n : Nat) : Prop := ∀ (v v' : Value) (x y : VT n) (w : World), IsV n w v x → IsV n w v' y →
  Calls Tryd.prog 13 #[v, v'] w fun e w' => e = .returned (.int .i64 (cmpV n x y)) ∧ Below w.heap.size w w'
def OPair (n : Nat) : Prop := ∀ (v v' : Value) (x y : VT n × VT n) (w : World), IsP n w v x → IsP n w v' y →
  Calls Tryd.prog 39 #[v, v'] w fun e w' => e = .returned (.int .i64 (cmpP (cmpV n) x y)) ∧ Below w.heap.size w w'
def OSlot (n : Nat) : Prop := ∀ (v v' : Value) (x y : Int × VT n) (w : World), IsS n w v x → IsS n w v' y →
  Calls Tryd.prog 42 #[v, v'] w fun e w' => e = .returned (.int .i64 (cmpS (cmpV n) x y)) ∧ Below w.heap.size w w'
def ORaw : Prop := ∀ (v v' : Value) (x y : RawT) (w : World), IsR w v x → IsR w v' y →
  Calls Tryd.prog 44 #[v, v'] w fun e w' => e = .returned (.int .i64 (cmpR x y)) ∧ Below w.heap.size w w'
end Go.Proofs.YtlgpoapedgodoaaDoor
