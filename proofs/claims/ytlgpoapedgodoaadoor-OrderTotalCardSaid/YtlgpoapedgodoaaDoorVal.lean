/- How an api.Value reads: a tree of so many levels. -/
import Derived.WalkKit
import Derived.Below
namespace Go.Proofs.YtlgpoapedgodoaaDoor

/-- An unknown field. -/
structure RawT where
  num : Int
  wire : Int
  bits : Int
  data : ByteArray

/-- One level of a value, over what its parts are. -/
structure VS (α : Type) where
  kind : Int
  bits : Int
  text : ByteArray
  list : List α
  pairs : List (α × α)
  slots : List (Int × α)
  raws : List RawT

/-- A value of at most n levels. -/
def VT : Nat → Type
  | 0 => Unit
  | n + 1 => VS (VT n)

/-- The cells of a row, one element after the other, each of k cells, each reading as R says. -/
def RowAt {α : Type} (k : Nat) (R : World → List Value → α → Prop) (w : World) (v : Value) (xs : List α) : Prop :=
  ∃ ao c, v = .slice ao xs.length c ∧ xs.length ≤ c ∧ (c ≤ maxLen ∧ xs.length ≤ 140737488351232) ∧ (ao = none → xs = []) ∧
    ∀ a, ao = some a → xs = [] ∨ ∃ b o, a = ⟨b, o, none⟩ ∧ ∀ (i : Nat) x, xs[i]? = some x → ∃ cs : List Value, cs.length = k ∧ (∀ (j : Nat) u, cs[j]? = some u → w.cell? ⟨b, o + (i * k + j), none⟩ = some u) ∧ R w cs x

/-- An unknown field's four cells. -/
def RRaw (_ : World) (cs : List Value) (r : RawT) : Prop :=
  cs = [.int .i64 r.num, .int .i64 r.wire, .int .u64 r.bits, .string r.data] ∧ -9223372036854775808 ≤ r.num ∧ r.num ≤ 9223372036854775807 ∧
  -9223372036854775808 ≤ r.wire ∧ r.wire ≤ 9223372036854775807 ∧ 0 ≤ r.bits ∧ r.bits ≤ 18446744073709551615 ∧ r.data.size ≤ 140737488351232

/-- A value's seven cells. -/
def RVal : (n : Nat) → World → List Value → VT n → Prop
  | 0, _, _, _ => False
  | n + 1, w, cs, x =>
    ∃ l p s r : Value, cs = [.int .i64 (VS.kind x), .int .u64 (VS.bits x), .string (VS.text x), l, p, s, r] ∧
      (-9223372036854775808 ≤ VS.kind x ∧ VS.kind x ≤ 9223372036854775807 ∧ 0 ≤ VS.bits x ∧ VS.bits x ≤ 18446744073709551615 ∧ (VS.text x).size ≤ 140737488351232) ∧
      RowAt 7 (RVal n) w l (VS.list x) ∧
      RowAt 14 (fun w cs y => ∃ c1 c2, cs = c1 ++ c2 ∧ RVal n w c1 y.1 ∧ RVal n w c2 y.2) w p (VS.pairs x) ∧
      RowAt 8 (fun w cs y => ∃ c2, cs = .int .i64 y.1 :: c2 ∧ (-9223372036854775808 ≤ y.1 ∧ y.1 ≤ 9223372036854775807) ∧ RVal n w c2 y.2) w s (VS.slots x) ∧
      RowAt 4 RRaw w r (VS.raws x)

/-- A row reads as it did behind a call that only makes memory. -/
theorem RowAt.keep {α : Type} {k : Nat} {R : World → List Value → α → Prop} {w w' : World} {v : Value} {xs : List α} (h : RowAt k R w v xs) (hb : RowKit.Below w.heap.size w w')
    (hR : ∀ cs x, R w cs x → R w' cs x) : RowAt k R w' v xs := by
  obtain ⟨ao, c, hv, hc, hm, hn, hr⟩ := h
  refine ⟨ao, c, hv, hc, hm, hn, fun a ha => (hr a ha).imp id ?_⟩
  rintro ⟨b, o, rfl, hcell⟩
  refine ⟨b, o, rfl, fun i x hi => ?_⟩
  obtain ⟨cs, hl, h1, h2⟩ := hcell i x hi
  exact ⟨cs, hl, fun j u hj => (hb.cell (p := ⟨b, o + (i * k + j), none⟩) (World.block_lt_of_cell? w _ (h1 j u hj))).trans (h1 j u hj), hR cs x h2⟩

theorem RVal.keep {w w' : World} (hb : RowKit.Below w.heap.size w w') : ∀ (n : Nat) (cs : List Value) (x : VT n), RVal n w cs x → RVal n w' cs x
  | 0, _, _, h => h
  | n + 1, cs, x, h => by
    obtain ⟨l, p, s, r, hcs, hbd, h1, h2, h3, h4⟩ := h
    refine ⟨l, p, s, r, hcs, hbd, h1.keep hb (fun cs y hy => RVal.keep hb n cs y hy), h2.keep hb ?_, h3.keep hb ?_, h4.keep hb (fun _ _ h => h)⟩
    · rintro cs y ⟨c1, c2, e, g1, g2⟩
      exact ⟨c1, c2, e, RVal.keep hb n _ _ g1, RVal.keep hb n _ _ g2⟩
    · rintro cs y ⟨c2, e, g1, g2⟩
      exact ⟨c2, e, g1, RVal.keep hb n _ _ g2⟩
end Go.Proofs.YtlgpoapedgodoaaDoor
