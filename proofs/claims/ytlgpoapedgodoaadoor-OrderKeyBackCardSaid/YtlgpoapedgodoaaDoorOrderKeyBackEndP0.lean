/- Part 1 of the texts that prove OrderKeyBackEnd. -/
import Derived.WalkKit
import Derived.Below
import Derived.Test.YtlgpoapedgodoaaDoorRows
import Derived.ProofKit
import Derived.OpenShut
import Derived.Deep.Slices
import Derived.Deep.Strs
import Derived.Handy
import Derived.Outline
import Derived.BigGuardPart
import Derived.Laws.Cover1
import Derived.Lib.Hide
import Derived.Laws.MathBits
import Derived.Laws.BitsAllLaws
import Derived.Laws.Bits64b
import Derived.Laws.Bits64
import Derived.BigQuiet
import Derived.Deep.QuietTactic
import Derived.StillTail
import Derived.Stop.Joined
import Derived.Shelf.Vars
import Derived.ChangeMaps5
import Derived.Lib.ReplaceLaws

/- How an api.Value reads: a tree of so many levels. -/
namespace Go.Proofs.YtlgpoapedgodoaaDoor

/-- An unknown field. -/
structure RawT where
  num : Int
  wire : Int
  bits : Int
  data : ByteArray

/-- One level of a value, over what its parts are. -/
structure VS (α : Type) where
  kind : Int
  bits : Int
  text : ByteArray
  list : List α
  pairs : List (α × α)
  slots : List (Int × α)
  raws : List RawT

/-- A value of at most n levels. -/
def VT : Nat → Type
  | 0 => Unit
  | n + 1 => VS (VT n)

/-- The cells of a row, one element after the other, each of k cells, each reading as R says. -/
def RowAt {α : Type} (k : Nat) (R : World → List Value → α → Prop) (w : World) (v : Value) (xs : List α) : Prop :=
  ∃ ao c, v = .slice ao xs.length c ∧ xs.length ≤ c ∧ (c ≤ maxLen ∧ xs.length ≤ 140737488351232) ∧ (ao = none → xs = []) ∧
    ∀ a, ao = some a → xs = [] ∨ ∃ b o, a = ⟨b, o, none⟩ ∧ ∀ (i : Nat) x, xs[i]? = some x → ∃ cs : List Value, cs.length = k ∧ (∀ (j : Nat) u, cs[j]? = some u → w.cell? ⟨b, o + (i * k + j), none⟩ = some u) ∧ R w cs x

/-- An unknown field's four cells. -/
def RRaw (_ : World) (cs : List Value) (r : RawT) : Prop :=
  cs = [.int .i64 r.num, .int .i64 r.wire, .int .u64 r.bits, .string r.data] ∧ -9223372036854775808 ≤ r.num ∧ r.num ≤ 9223372036854775807 ∧
  -9223372036854775808 ≤ r.wire ∧ r.wire ≤ 9223372036854775807 ∧ 0 ≤ r.bits ∧ r.bits ≤ 18446744073709551615 ∧ r.data.size ≤ 140737488351232

/-- A value's seven cells. -/
def RVal : (n : Nat) → World → List Value → VT n → Prop
  | 0, _, _, _ => False
  | n + 1, w, cs, x =>
    ∃ l p s r : Value, cs = [.int .i64 (VS.kind x), .int .u64 (VS.bits x), .string (VS.text x), l, p, s, r] ∧
      (-9223372036854775808 ≤ VS.kind x ∧ VS.kind x ≤ 9223372036854775807 ∧ 0 ≤ VS.bits x ∧ VS.bits x ≤ 18446744073709551615 ∧ (VS.text x).size ≤ 140737488351232) ∧
      RowAt 7 (RVal n) w l (VS.list x) ∧
      RowAt 14 (fun w cs y => ∃ c1 c2, cs = c1 ++ c2 ∧ RVal n w c1 y.1 ∧ RVal n w c2 y.2) w p (VS.pairs x) ∧
      RowAt 8 (fun w cs y => ∃ c2, cs = .int .i64 y.1 :: c2 ∧ (-9223372036854775808 ≤ y.1 ∧ y.1 ≤ 9223372036854775807) ∧ RVal n w c2 y.2) w s (VS.slots x) ∧
      RowAt 4 RRaw w r (VS.raws x)

/-- A row reads as it did behind a call that only makes memory. -/
theorem RowAt.keep {α : Type} {k : Nat} {R : World → List Value → α → Prop} {w w' : World} {v : Value} {xs : List α} (h : RowAt k R w v xs) (hb : RowKit.Below w.heap.size w w')
    (hR : ∀ cs x, R w cs x → R w' cs x) : RowAt k R w' v xs := by
  obtain ⟨ao, c, hv, hc, hm, hn, hr⟩ := h
  refine ⟨ao, c, hv, hc, hm, hn, fun a ha => (hr a ha).imp id ?_⟩
  rintro ⟨b, o, rfl, hcell⟩
  refine ⟨b, o, rfl, fun i x hi => ?_⟩
  obtain ⟨cs, hl, h1, h2⟩ := hcell i x hi
  exact ⟨cs, hl, fun j u hj => (hb.cell (p := ⟨b, o + (i * k + j), none⟩) (World.block_lt_of_cell? w _ (h1 j u hj))).trans (h1 j u hj), hR cs x h2⟩

theorem RVal.keep {w w' : World} (hb : RowKit.Below w.heap.size w w') : ∀ (n : Nat) (cs : List Value) (x : VT n), RVal n w cs x → RVal n w' cs x
  | 0, _, _, h => h
  | n + 1, cs, x, h => by
    obtain ⟨l, p, s, r, hcs, hbd, h1, h2, h3, h4⟩ := h
    refine ⟨l, p, s, r, hcs, hbd, h1.keep hb (fun cs y hy => RVal.keep hb n cs y hy), h2.keep hb ?_, h3.keep hb ?_, h4.keep hb (fun _ _ h => h)⟩
    · rintro cs y ⟨c1, c2, e, g1, g2⟩
      exact ⟨c1, c2, e, RVal.keep hb n _ _ g1, RVal.keep hb n _ _ g2⟩
    · rintro cs y ⟨c2, e, g1, g2⟩
      exact ⟨c2, e, g1, RVal.keep hb n _ _ g2⟩
end Go.Proofs.YtlgpoapedgodoaaDoor

/- From the form's reading to the tree: every api.Value that can be read is a tree of some number of levels. -/
namespace Go.Proofs.YtlgpoapedgodoaaDoor
open Go.ChangeShapes Go.WideShapes Go.ChangeAt Go.RowKit

theorem cellsValue : Tryd.prog.cellsOf 28 = 7 := by kernel_rfl
theorem cellsPair : Tryd.prog.cellsOf 44 = 14 := by kernel_rfl
theorem cellsSlot : Tryd.prog.cellsOf 48 = 8 := by kernel_rfl
theorem cellsRaw : Tryd.prog.cellsOf 71 = 4 := by kernel_rfl

theorem addr_add (b o n : Nat) : (⟨b, o, none⟩ : Addr).add n = ⟨b, o + n, none⟩ := by
  unfold Addr.add
  split
  · rename_i h; subst h; rfl
  · rfl

theorem list_of {α : Type} {P : Nat → α → Prop} : ∀ n : Nat, (∀ i, i < n → ∃ x, P i x) → ∃ xs : List α, xs.length = n ∧ ∀ (i : Nat) x, xs[i]? = some x → P i x
  | 0, _ => ⟨[], rfl, fun i x h => by simp at h⟩
  | n + 1, h => by
    obtain ⟨xs, hl, hx⟩ := list_of n (fun i hi => h i (by omega))
    obtain ⟨y, hy⟩ := h n (by omega)
    refine ⟨xs ++ [y], by simp [hl], fun i x hi => ?_⟩
    by_cases hin : i < n
    · rw [List.getElem?_append_left (by omega)] at hi; exact hx i x hi
    · rw [List.getElem?_append_right (by omega)] at hi
      by_cases e : i = n
      · subst e; rw [hl] at hi; simp at hi; subst hi; exact hy
      · rw [List.getElem?_eq_none (by simp; omega)] at hi; cases hi

section
variable {H : Type} {enc : TypeId × Value → H} {W : World} {base : Nat} {spare : Nat → Bool} {held : Bool}

/-- Nothing in it weighs more than the form's reach. -/
def Light (t : TypeId) (d : DataW H) : Prop := ∀ x ∈ DataW.weights Tryd.prog t d, x ≤ 140737488351232

theorem weightsEach_mem : ∀ (ts : List TypeId) (ds : List (DataW H)) (i : Nat) (t : TypeId) (d : DataW H), ts[i]? = some t → ds[i]? = some d → ∀ x ∈ DataW.weights Tryd.prog t d, x ∈ DataW.weightsEach Tryd.prog ts ds
  | [], _, i, _, _, h, _, _, _ => by simp at h
  | _ :: _, [], i, _, _, _, h, _, _ => by simp at h
  | t' :: ts, d' :: ds, 0, t, d, h1, h2, x, hx => by
    simp at h1 h2; subst h1; subst h2
    simp only [DataW.weightsEach, List.mem_append]; exact .inl hx
  | t' :: ts, d' :: ds, i + 1, t, d, h1, h2, x, hx => by
    simp only [DataW.weightsEach, List.mem_append]
    exact .inr (weightsEach_mem ts ds i t d (by simpa using h1) (by simpa using h2) x hx)
theorem weightsAll_mem (e : TypeId) : ∀ (ds : List (DataW H)) (i : Nat) (d : DataW H), ds[i]? = some d → ∀ x ∈ DataW.weights Tryd.prog e d, x ∈ DataW.weightsAll Tryd.prog e ds
  | [], i, _, h, _, _ => by simp at h
  | d' :: ds, 0, d, h2, x, hx => by
    simp at h2; subst h2
    simp only [DataW.weightsAll, List.mem_append]; exact .inl hx
  | d' :: ds, i + 1, d, h2, x, hx => by
    simp only [DataW.weightsAll, List.mem_append]
    exact .inr (weightsAll_mem e ds i d (by simpa using h2) x hx)
theorem Light.part {t : TypeId} {fs : Array Field} {ps : List (DataW H)} (ht : Tryd.prog.underlying t = some (.struct fs)) (h : Light t (.agg ps)) {i : Nat} {f : Field} {d : DataW H} (hf : fs[i]? = some f) (hd : ps[i]? = some d) : Light f.type d := by
  intro x hx
  refine h x ?_
  simp only [DataW.weights, ht]
  exact weightsEach_mem _ _ i f.type d (by simp [hf]) hd x hx
theorem Light.elem {t e : TypeId} {es sp : List (DataW H)} (ht : Tryd.prog.underlying t = some (.slice e)) (h : Light t (.slice es sp)) {i : Nat} {d : DataW H} (hd : es[i]? = some d) : Light e d := by
  intro x hx
  refine h x ?_
  simp only [DataW.weights, ht, List.mem_cons, List.mem_append]
  exact .inr (.inl (weightsAll_mem e es i d hd x hx))
theorem Light.short {t e : TypeId} {es sp : List (DataW H)} (ht : Tryd.prog.underlying t = some (.slice e)) (h : Light t (.slice es sp)) (hb : 1 ≤ Tryd.prog.bytesOf e) : es.length ≤ 140737488351232 := by
  have := h ((es.length + sp.length) * Tryd.prog.bytesOf e) (by simp only [DataW.weights, ht, List.mem_cons, true_or])
  have h2 : (es.length + sp.length) * 1 ≤ (es.length + sp.length) * Tryd.prog.bytesOf e := Nat.mul_le_mul_left _ hb
  omega

theorem open_row {α : Type} {k : Nat} {R : World → List Value → α → Prop} {t e : TypeId} {fuel : Nat} {v : Value} {y : DataW H × List MemPlace} (ht : Tryd.prog.underlying t = some (.slice e)) (hk : Tryd.prog.cellsOf e = k) (hk0 : 0 < k) (hby : 1 ≤ Tryd.prog.bytesOf e)
    (h : DataW.trod enc Tryd.prog W base spare held (fuel + 1) t [v] = some y) (hw : Light t y.1)
    (hel : ∀ cs z, DataW.trod enc Tryd.prog W base spare held fuel e cs = some z → Light e z.1 → ∃ x : α, R W cs x) : ∃ xs, RowAt k R W v xs := by
  rcases DataW.trod_slice ht h with ⟨hc, _⟩ | ⟨a, len, cap, elems, rest, n, hn, hc, hy, hb, hl, hm, hlen, helem, _⟩
  · simp at hc; subst hc
    exact ⟨[], none, 0, rfl, Nat.le_refl _, ⟨Nat.zero_le _, Nat.zero_le _⟩, fun _ => rfl, fun a ha => by cases ha⟩
  · simp at hc; subst hc
    subst hy
    have hsh := Light.short ht hw hby
    rw [List.length_map] at hsh
    obtain rfl : n = fuel := by omega
    have key : ∀ i, i < len → ∃ x : α, ∃ cs : List Value, cs.length = k ∧ (∀ j, j < k → W.cell? ((a.add (i * k)).add j) = cs[j]?) ∧ R W cs x := by
      intro i hi
      have h1 := helem i hi
      rw [List.getElem?_eq_getElem (by omega), Option.bind_eq_some_iff] at h1
      obtain ⟨cs, hc1, hc2⟩ := h1
      rw [hk] at hc1
      obtain ⟨_, hl1, hc3⟩ := World.cells?_some hc1
      obtain ⟨x, hx⟩ := hel cs _ hc2 (Light.elem ht hw (i := i) (by rw [List.getElem?_map, List.getElem?_eq_getElem (by omega)]; rfl))
      exact ⟨x, cs, hl1, hc3, hx⟩
    obtain ⟨xs, hxl, hxs⟩ := list_of len key
    refine ⟨xs, some a, cap, by rw [hxl], by omega, ⟨hm, by omega⟩, (fun h => by cases h), ?_⟩
    intro a' ha'
    cases ha'
    by_cases h0 : len = 0
    · left; exact List.length_eq_zero_iff.1 (by omega)
    right
    obtain ⟨b, o, spot⟩ := a
    obtain ⟨x0, cs0, hl0, hc0, _⟩ := key 0 (by omega)
    have hz := hc0 0 hk0
    rw [List.getElem?_eq_getElem (by omega)] at hz
    have hspot : spot = none := by
      have := World.cell?_spot hz
      simpa [Addr.add] using this
    subst hspot
    refine ⟨b, o, rfl, fun i x hi => ?_⟩
    obtain ⟨cs, hl1, hc1, hr⟩ := hxs i x hi
    refine ⟨cs, hl1, fun j u hj => ?_, hr⟩
    have hjk : j < k := by
      by_cases hjk : j < k
      · exact hjk
      · rw [List.getElem?_eq_none (by omega)] at hj; cases hj
    have := hc1 j hjk
    rw [addr_add, addr_add, hj] at this
    rw [← this, Nat.add_assoc]

/-- One level more. -/
theorem RowAt.map {α β : Type} {k : Nat} {R : World → List Value → α → Prop} {S : World → List Value → β → Prop} {w : World} {v : Value} {xs : List α} (h : RowAt k R w v xs)
    (hR : ∀ cs x, R w cs x → ∃ y, S w cs y) : ∃ ys, RowAt k S w v ys := by
  obtain ⟨ao, c, hv, hc, hm, hn, hr⟩ := h
  rcases ao with _ | a
  · have := hn rfl
    subst this
    exact ⟨[], none, c, hv, hc, hm, fun _ => rfl, fun a ha => by cases ha⟩
  rcases hr a rfl with h0 | ⟨b, o, rfl, hcell⟩
  · subst h0
    exact ⟨[], some a, c, hv, hc, hm, fun _ => rfl, fun _ _ => .inl rfl⟩
  have key : ∀ i, i < xs.length → ∃ y : β, ∃ cs : List Value, cs.length = k ∧ (∀ (j : Nat) u, cs[j]? = some u → w.cell? ⟨b, o + (i * k + j), none⟩ = some u) ∧ S w cs y := by
    intro i hi
    obtain ⟨cs, h1, h2, h3⟩ := hcell i xs[i] (List.getElem?_eq_getElem hi)
    obtain ⟨y, hy⟩ := hR cs _ h3
    exact ⟨y, cs, h1, h2, hy⟩
  obtain ⟨ys, hl, hy⟩ := list_of xs.length key
  exact ⟨ys, some ⟨b, o, none⟩, c, by rw [hl]; exact hv, by omega, ⟨hm.1, by rw [hl]; exact hm.2⟩, (fun h => by cases h), (fun a ha => by cases ha; exact .inr ⟨b, o, rfl, hy⟩)⟩

theorem RVal.up {w : World} : ∀ (n : Nat) (cs : List Value) (x : VT n), RVal n w cs x → ∃ y : VT (n + 1), RVal (n + 1) w cs y
  | 0, _, _, h => h.elim
  | n + 1, cs, x, h => by
    obtain ⟨l, p, s, r, hcs, hbd, h1, h2, h3, h4⟩ := h
    obtain ⟨ys1, g1⟩ := h1.map (S := RVal (n + 1)) (fun cs x hx => RVal.up n cs x hx)
    obtain ⟨ys2, g2⟩ := h2.map (S := fun w cs (y : VT (n + 1) × VT (n + 1)) => ∃ c1 c2, cs = c1 ++ c2 ∧ RVal (n + 1) w c1 y.1 ∧ RVal (n + 1) w c2 y.2) (fun cs x ⟨c1, c2, e, k1, k2⟩ => by
      obtain ⟨y1, q1⟩ := RVal.up n c1 _ k1
      obtain ⟨y2, q2⟩ := RVal.up n c2 _ k2
      exact ⟨(y1, y2), c1, c2, e, q1, q2⟩)
    obtain ⟨ys3, g3⟩ := h3.map (S := fun w cs (y : Int × VT (n + 1)) => ∃ c2, cs = .int .i64 y.1 :: c2 ∧ (-9223372036854775808 ≤ y.1 ∧ y.1 ≤ 9223372036854775807) ∧ RVal (n + 1) w c2 y.2) (fun cs x ⟨c2, e, k1, k2⟩ => by
      obtain ⟨y2, q2⟩ := RVal.up n c2 _ k2
      exact ⟨(x.1, y2), c2, e, k1, q2⟩)
    exact ⟨({ kind := VS.kind x, bits := VS.bits x, text := VS.text x, list := ys1, pairs := ys2, slots := ys3, raws := VS.raws x } : VS (VT (n + 1))), l, p, s, r, hcs, hbd, g1, g2, g3, h4⟩

theorem RVal.upTo {w : World} {cs : List Value} {n : Nat} {x : VT n} (h : RVal n w cs x) (m : Nat) (hm : n ≤ m) : ∃ y : VT m, RVal m w cs y := by
  obtain ⟨d, rfl⟩ : ∃ d, m = n + d := ⟨m - n, by omega⟩
  clear hm
  induction d with
  | zero => exact ⟨x, h⟩
  | succ d ih => obtain ⟨y, hy⟩ := ih; exact RVal.up _ _ y hy

theorem list7 {α : Type} {l : List α} (h : l.length = 7) : ∃ a b c d e f g, l = [a, b, c, d, e, f, g] := by
  match l, h with
  | [a, b, c, d, e, f, g], _ => exact ⟨a, b, c, d, e, f, g, rfl⟩
theorem list4 {α : Type} {l : List α} (h : l.length = 4) : ∃ a b c d, l = [a, b, c, d] := by
  match l, h with
  | [a, b, c, d], _ => exact ⟨a, b, c, d, rfl⟩

theorem fld {t : TypeId} {fs : Array Field} {xs : List (DataW H × List MemPlace)} {cs : List Value} {n i : Nat} {f : Field} (ht : Tryd.prog.underlying t = some (.struct fs)) (hw : Light t (.agg (xs.map (·.1)))) (hl : xs.length = fs.size)
    (h : ∀ (i : Nat) (f : Field), fs[i]? = some f → DataW.trod enc Tryd.prog W base spare held n f.type ((cs.drop f.offset).take (Tryd.prog.cellsOf f.type)) = xs[i]?) (hf : fs[i]? = some f) :
    ∃ z, DataW.trod enc Tryd.prog W base spare held n f.type ((cs.drop f.offset).take (Tryd.prog.cellsOf f.type)) = some z ∧ Light f.type z.1 := by
  have hi : i < fs.size := by
    by_cases hi : i < fs.size
    · exact hi
    · rw [Array.getElem?_eq_none (by omega)] at hf; cases hf
  have e : xs[i]? = some xs[i] := List.getElem?_eq_getElem (by omega)
  exact ⟨xs[i], (h i f hf).trans e, hw.part ht hf (by rw [List.getElem?_map, e]; rfl)⟩

theorem light_string {n : Nat} {cs : List Value} {z : DataW H × List MemPlace} {d : ByteArray} (h : DataW.trod enc Tryd.prog W base spare held n 9 cs = some z) (hc : cs = [.string d]) (hw : Light 9 z.1) : d.size ≤ 140737488351232 := by
  obtain ⟨d', e, hz, _⟩ := DataW.trod_string Tryd.underlying9 h
  rw [hc] at e
  simp at e
  subst e
  have := hw d.size (by rw [hz]; simp [DataW.weights])
  exact this

theorem c3 : Tryd.prog.cellsOf 3 = 1 := by kernel_rfl
theorem c22 : Tryd.prog.cellsOf 22 = 1 := by kernel_rfl
theorem c9 : Tryd.prog.cellsOf 9 = 1 := by kernel_rfl
theorem cLV : Tryd.prog.cellsOf 23 = 1 := by kernel_rfl
theorem cLP : Tryd.prog.cellsOf 24 = 1 := by kernel_rfl
theorem cLS : Tryd.prog.cellsOf 25 = 1 := by kernel_rfl
theorem cLR : Tryd.prog.cellsOf 26 = 1 := by kernel_rfl

theorem open_raw {n : Nat} {cs : List Value} {z : DataW H × List MemPlace} (h : DataW.trod enc Tryd.prog W base spare held n 71 cs = some z) (hw : Light 71 z.1) : ∃ x, RRaw W cs x := by
  obtain ⟨xs, m, _, rfl, hcl, hxl, hf⟩ := DataW.trod_struct Tryd.underlying71 h
  rw [cellsRaw] at hcl
  obtain ⟨u0, u1, u2, u3, rfl⟩ := list4 hcl
  obtain ⟨z0, h0, w0⟩ := fld Tryd.underlying71 hw hxl hf (i := 0) rfl
  obtain ⟨z1, h1, w1⟩ := fld Tryd.underlying71 hw hxl hf (i := 1) rfl
  obtain ⟨z2, h2, w2⟩ := fld Tryd.underlying71 hw hxl hf (i := 2) rfl
  obtain ⟨z3, h3, w3⟩ := fld Tryd.underlying71 hw hxl hf (i := 3) rfl
  replace h0 : DataW.trod enc Tryd.prog W base spare held m 3 ((List.drop 0 [u0, u1, u2, u3]).take (Tryd.prog.cellsOf 3)) = some z0 := h0
  replace h1 : DataW.trod enc Tryd.prog W base spare held m 3 ((List.drop 1 [u0, u1, u2, u3]).take (Tryd.prog.cellsOf 3)) = some z1 := h1
  replace h2 : DataW.trod enc Tryd.prog W base spare held m 22 ((List.drop 2 [u0, u1, u2, u3]).take (Tryd.prog.cellsOf 22)) = some z2 := h2
  replace h3 : DataW.trod enc Tryd.prog W base spare held m 9 ((List.drop 3 [u0, u1, u2, u3]).take (Tryd.prog.cellsOf 9)) = some z3 := h3
  rw [c3] at h0 h1
  rw [c22] at h2
  rw [c9] at h3
  obtain ⟨a, e0, _, wa⟩ := DataW.trod_int Tryd.underlying3 h0
  obtain ⟨b, e1, _, wb⟩ := DataW.trod_int Tryd.underlying3 h1
  obtain ⟨c, e2, _, wc⟩ := DataW.trod_int Tryd.underlying22 h2
  obtain ⟨d, e3, _, wd⟩ := DataW.trod_string Tryd.underlying9 h3
  have ld := light_string h3 (by simpa using e3) w3
  simp at e0 e1 e2 e3
  subst e0 e1 e2 e3
  have ba := bounds_i64 wa
  have bb := bounds_i64 wb
  have bc := bounds_u64 wc
  exact ⟨⟨a, b, c, d⟩, rfl, ba.1, ba.2, bb.1, bb.2, bc.1, bc.2, ld⟩

theorem open_value : ∀ (n : Nat) (cs : List Value) (z : DataW H × List MemPlace), DataW.trod enc Tryd.prog W base spare held n 28 cs = some z → Light 28 z.1 → ∃ x : VT n, RVal n W cs x := by
  intro n
  induction n using Nat.strongRecOn with
  | _ n ih =>
    intro cs z h hw
    obtain ⟨xs, m, rfl, rfl, hcl, hxl, hf⟩ := DataW.trod_struct Tryd.underlying28 h
    rw [cellsValue] at hcl
    obtain ⟨u0, u1, u2, u3, u4, u5, u6, rfl⟩ := list7 hcl
    obtain ⟨z0, h0, q0⟩ := fld Tryd.underlying28 hw hxl hf (i := 0) rfl
    obtain ⟨z1, h1, q1⟩ := fld Tryd.underlying28 hw hxl hf (i := 1) rfl
    obtain ⟨z2, h2, q2⟩ := fld Tryd.underlying28 hw hxl hf (i := 2) rfl
    obtain ⟨z3, h3, q3⟩ := fld Tryd.underlying28 hw hxl hf (i := 3) rfl
    obtain ⟨z4, h4, q4⟩ := fld Tryd.underlying28 hw hxl hf (i := 4) rfl
    obtain ⟨z5, h5, q5⟩ := fld Tryd.underlying28 hw hxl hf (i := 5) rfl
    obtain ⟨z6, h6, q6⟩ := fld Tryd.underlying28 hw hxl hf (i := 6) rfl
    replace h0 : DataW.trod enc Tryd.prog W base spare held m 3 ((List.drop 0 [u0, u1, u2, u3, u4, u5, u6]).take (Tryd.prog.cellsOf 3)) = some z0 := h0
    rw [c3] at h0
    replace h1 : DataW.trod enc Tryd.prog W base spare held m 22 ((List.drop 1 [u0, u1, u2, u3, u4, u5, u6]).take (Tryd.prog.cellsOf 22)) = some z1 := h1
    rw [c22] at h1
    replace h2 : DataW.trod enc Tryd.prog W base spare held m 9 ((List.drop 2 [u0, u1, u2, u3, u4, u5, u6]).take (Tryd.prog.cellsOf 9)) = some z2 := h2
    rw [c9] at h2
    replace h3 : DataW.trod enc Tryd.prog W base spare held m 23 ((List.drop 3 [u0, u1, u2, u3, u4, u5, u6]).take (Tryd.prog.cellsOf 23)) = some z3 := h3
    rw [cLV] at h3
    replace h4 : DataW.trod enc Tryd.prog W base spare held m 24 ((List.drop 4 [u0, u1, u2, u3, u4, u5, u6]).take (Tryd.prog.cellsOf 24)) = some z4 := h4
    rw [cLP] at h4
    replace h5 : DataW.trod enc Tryd.prog W base spare held m 25 ((List.drop 5 [u0, u1, u2, u3, u4, u5, u6]).take (Tryd.prog.cellsOf 25)) = some z5 := h5
    rw [cLS] at h5
    replace h6 : DataW.trod enc Tryd.prog W base spare held m 26 ((List.drop 6 [u0, u1, u2, u3, u4, u5, u6]).take (Tryd.prog.cellsOf 26)) = some z6 := h6
    rw [cLR] at h6
    obtain ⟨a, e0, _, wa⟩ := DataW.trod_int Tryd.underlying3 h0
    obtain ⟨b, e1, _, wb⟩ := DataW.trod_int Tryd.underlying22 h1
    obtain ⟨c, e2, _, wc⟩ := DataW.trod_string Tryd.underlying9 h2
    have lc := light_string h2 (by simpa using e2) q2
    simp at e0 e1 e2
    subst e0 e1 e2
    simp only [List.drop_succ_cons, List.drop_zero, List.take_succ_cons, List.take_zero] at h3 h4 h5 h6
    have val : ∀ k, k < m → ∀ cs z, DataW.trod enc Tryd.prog W base spare held k 28 cs = some z → Light 28 z.1 → ∃ x : VT m, RVal m W cs x := fun k hk cs z hz hw => by
      obtain ⟨x, hx⟩ := ih k (by omega) cs z hz hw
      exact hx.upTo m (by omega)
    have pair : ∀ k, k < m → ∀ cs z, DataW.trod enc Tryd.prog W base spare held k 44 cs = some z → Light 44 z.1 → ∃ y : VT m × VT m, ∃ c1 c2, cs = c1 ++ c2 ∧ RVal m W c1 y.1 ∧ RVal m W c2 y.2 := fun k hk cs z hz hw => by
      obtain ⟨xs, q, rfl, rfl, hcl, hxl, hf⟩ := DataW.trod_struct Tryd.underlying44 hz
      rw [cellsPair] at hcl
      obtain ⟨y0, g0, q0⟩ := fld Tryd.underlying44 hw hxl hf (i := 0) rfl
      obtain ⟨y1, g1, q1⟩ := fld Tryd.underlying44 hw hxl hf (i := 1) rfl
      replace g0 : DataW.trod enc Tryd.prog W base spare held q 28 ((cs.drop 0).take (Tryd.prog.cellsOf 28)) = some y0 := g0
      replace g1 : DataW.trod enc Tryd.prog W base spare held q 28 ((cs.drop 7).take (Tryd.prog.cellsOf 28)) = some y1 := g1
      rw [cellsValue] at g0 g1
      obtain ⟨x0, r0⟩ := val q (by omega) _ _ g0 q0
      obtain ⟨x1, r1⟩ := val q (by omega) _ _ g1 q1
      refine ⟨(x0, x1), _, _, ?_, r0, r1⟩
      rw [List.drop_zero, List.take_of_length_le (l := cs.drop 7) (by simp; omega), List.take_append_drop]
    have slot : ∀ k, k < m → ∀ cs z, DataW.trod enc Tryd.prog W base spare held k 48 cs = some z → Light 48 z.1 → ∃ y : Int × VT m, ∃ c2, cs = .int .i64 y.1 :: c2 ∧ (-9223372036854775808 ≤ y.1 ∧ y.1 ≤ 9223372036854775807) ∧ RVal m W c2 y.2 := fun k hk cs z hz hw => by
      obtain ⟨xs, q, rfl, rfl, hcl, hxl, hf⟩ := DataW.trod_struct Tryd.underlying48 hz
      rw [cellsSlot] at hcl
      obtain ⟨y0, g0, q0⟩ := fld Tryd.underlying48 hw hxl hf (i := 0) rfl
      obtain ⟨y1, g1, q1⟩ := fld Tryd.underlying48 hw hxl hf (i := 1) rfl
      replace g0 : DataW.trod enc Tryd.prog W base spare held q 3 ((cs.drop 0).take (Tryd.prog.cellsOf 3)) = some y0 := g0
      replace g1 : DataW.trod enc Tryd.prog W base spare held q 28 ((cs.drop 1).take (Tryd.prog.cellsOf 28)) = some y1 := g1
      rw [c3] at g0
      rw [cellsValue] at g1
      obtain ⟨n0, e0, _, w0⟩ := DataW.trod_int Tryd.underlying3 g0
      obtain ⟨x1, r1⟩ := val q (by omega) _ _ g1 q1
      have b0 := bounds_i64 w0
      cases cs with
      | nil => simp at hcl
      | cons c0 cs =>
        simp at e0
        subst e0
        refine ⟨(n0, x1), cs, rfl, b0, ?_⟩
        simp only [List.drop_succ_cons, List.drop_zero] at r1
        rw [List.take_of_length_le (by simp at hcl; omega)] at r1
        exact r1
    obtain ⟨m', rfl⟩ : ∃ m', m = m' + 1 := by
      cases m with
      | zero => simp [DataW.trod] at h3
      | succ m' => exact ⟨m', rfl⟩
    obtain ⟨l1, g1⟩ := open_row Tryd.underlying23 cellsValue (by decide) (of_decide_eq_true (by kernel_rfl)) h3 q3 (fun cs z hz hw => val m' (by omega) cs z hz hw)
    obtain ⟨l2, g2⟩ := open_row (R := fun w cs (y : VT (m' + 1) × VT (m' + 1)) => ∃ c1 c2, cs = c1 ++ c2 ∧ RVal (m' + 1) w c1 y.1 ∧ RVal (m' + 1) w c2 y.2) Tryd.underlying24 cellsPair (by decide) (of_decide_eq_true (by kernel_rfl)) h4 q4 (fun cs z hz hw => pair m' (by omega) cs z hz hw)
    obtain ⟨l3, g3⟩ := open_row (R := fun w cs (y : Int × VT (m' + 1)) => ∃ c2, cs = .int .i64 y.1 :: c2 ∧ (-9223372036854775808 ≤ y.1 ∧ y.1 ≤ 9223372036854775807) ∧ RVal (m' + 1) w c2 y.2) Tryd.underlying25 cellsSlot (by decide) (of_decide_eq_true (by kernel_rfl)) h5 q5 (fun cs z hz hw => slot m' (by omega) cs z hz hw)
    obtain ⟨l4, g4⟩ := open_row Tryd.underlying26 cellsRaw (by decide) (of_decide_eq_true (by kernel_rfl)) h6 q6 (fun cs z hz hw => open_raw hz hw)
    have ba := bounds_i64 wa
    have bb := bounds_u64 wb
    exact ⟨({ kind := a, bits := b, text := c, list := l1, pairs := l2, slots := l3, raws := l4 } : VS (VT (m' + 1))), u3, u4, u5, u6, rfl, ⟨ba.1, ba.2, bb.1, bb.2, lc⟩, g1, g2, g3, g4⟩
end
end Go.Proofs.YtlgpoapedgodoaaDoor

/- Contracts of cmp.Compare and what it calls. -/
namespace Go.Proofs.YtlgpoapedgodoaaDoor
open Go.RowKit

/-- How two numbers stand. -/
def cmpI (a b : Int) : Int := if a < b then -1 else if b < a then 1 else 0

/-- How two texts stand, by their bytes. -/
def cmpT (a b : ByteArray) : Int :=
  if Op.bytesLess a.toList b.toList = true then -1 else if (!(Op.bytesLess a.toList b.toList || a.toList == b.toList)) = true then 1 else 0

set_option maxHeartbeats 400000 in
theorem nanI_ok (a : Int) (w : World) :
    Calls Tryd.prog 72 #[.int .i64 a] w fun e w' => e = .returned (.bool false) ∧ w' = w := by
  go_enter Tryd.func72, Tryd.ntmps72
  go_wp2
  go_ret
  exact ⟨by simp, rfl⟩

set_option maxHeartbeats 400000 in
theorem nanU_ok (a : Int) (w : World) :
    Calls Tryd.prog 93 #[.int .u64 a] w fun e w' => e = .returned (.bool false) ∧ w' = w := by
  go_enter Tryd.func93, Tryd.ntmps93
  go_wp2
  go_ret
  exact ⟨by simp, rfl⟩

set_option maxHeartbeats 400000 in
theorem nanT_ok (a : ByteArray) (w : World) :
    Calls Tryd.prog 92 #[.string a] w fun e w' => e = .returned (.bool false) ∧ w' = w := by
  go_enter Tryd.func92, Tryd.ntmps92
  go_wp2
  go_ret
  exact ⟨by simp, rfl⟩

set_option maxHeartbeats 800000 in
theorem cmpI_ok (a b : Int) (w : World) :
    Calls Tryd.prog 34 #[.int .i64 a, .int .i64 b] w fun e w' => e = .returned (.int .i64 (cmpI a b)) ∧ w' = w := by
  obtain ⟨R, HR⟩ : ∃ R, Hid (R = cmpI a b) := ⟨_, Lib.hid rfl⟩
  rw [← HR.out]
  go_enter Tryd.func34, Tryd.ntmps34
  go_wp2
  all_goals first | (exfalso; omega) | skip
  all_goals
    go_ret
    refine ⟨?_, rfl⟩
    rw [HR.out]
    simp_all [cmpI]
    try omega

set_option maxHeartbeats 800000 in
theorem cmpU_ok (a b : Int) (w : World) :
    Calls Tryd.prog 75 #[.int .u64 a, .int .u64 b] w fun e w' => e = .returned (.int .i64 (cmpI a b)) ∧ w' = w := by
  obtain ⟨R, HR⟩ : ∃ R, Hid (R = cmpI a b) := ⟨_, Lib.hid rfl⟩
  rw [← HR.out]
  go_enter Tryd.func75, Tryd.ntmps75
  go_wp2
  all_goals first | (exfalso; omega) | skip
  all_goals
    go_ret
    refine ⟨?_, rfl⟩
    rw [HR.out]
    simp_all [cmpI]
    try omega

set_option maxHeartbeats 800000 in
theorem cmpT_ok (a b : ByteArray) (w : World) :
    Calls Tryd.prog 74 #[.string a, .string b] w fun e w' => e = .returned (.int .i64 (cmpT a b)) ∧ w' = w := by
  obtain ⟨R, HR⟩ : ∃ R, Hid (R = cmpT a b) := ⟨_, Lib.hid rfl⟩
  rw [← HR.out]
  go_enter Tryd.func74, Tryd.ntmps74
  go_wp2
  all_goals first | (exfalso; omega) | skip
  all_goals
    go_ret
    refine ⟨?_, rfl⟩
    rw [HR.out]
    simp_all [cmpT]
    try omega

end Go.Proofs.YtlgpoapedgodoaaDoor

/- Bits of an IEEE number, as sums. -/
namespace Go.Proofs.YtlgpoapedgodoaaDoor

theorem n_mant (a : Nat) : a &&& 4503599627370495 = a % 4503599627370496 := by
  have := Nat.and_two_pow_sub_one_eq_mod a 52
  simpa using this

theorem n_top (a : Nat) (h : a < 18446744073709551616) : a &&& 9223372036854775808 = a / 9223372036854775808 * 9223372036854775808 := by
  apply Nat.eq_of_testBit_eq
  intro i
  have e : (9223372036854775808 : Nat) = 2 ^ 63 := by decide
  rw [e, Nat.testBit_and, Nat.testBit_two_pow, Nat.testBit_mul_two_pow, Nat.testBit_div_two_pow]
  by_cases h2 : 63 ≤ i
  · rw [show i - 63 + 63 = i by omega]
    by_cases h1 : 63 = i
    · subst h1; simp
    · have h3 : 64 ≤ i := by omega
      have : a.testBit i = false := Nat.testBit_lt_two_pow (Nat.lt_of_lt_of_le h (by rw [show (18446744073709551616:Nat) = 2^64 by decide]; exact Nat.pow_le_pow_right (by decide) h3))
      simp [this]
  · have h1 : ¬ 63 = i := by omega
    simp [h1, h2]

theorem n_exp (a : Nat) : a &&& 9218868437227405312 = a % 9223372036854775808 / 4503599627370496 * 4503599627370496 := by
  apply Nat.eq_of_testBit_eq
  intro i
  have e : (9223372036854775808 : Nat) = 2 ^ 63 := by decide
  have e2 : (4503599627370496 : Nat) = 2 ^ 52 := by decide
  have e3 : (9218868437227405312 : Nat) = (2^11 - 1) * 2 ^ 52 := by decide
  rw [e3, e, e2, Nat.testBit_and, Nat.testBit_mul_two_pow, Nat.testBit_mul_two_pow, Nat.testBit_two_pow_sub_one, Nat.testBit_div_two_pow, Nat.testBit_mod_two_pow]
  by_cases h2 : 52 ≤ i
  · rw [show i - 52 + 52 = i by omega]
    by_cases h3 : i < 63
    · have : i - 52 < 11 := by omega
      simp [h2, h3, this]
    · have : ¬ i - 52 < 11 := by omega
      simp [h3, this]
  · simp [h2]

theorem n_or (a : Nat) (h : a < 9223372036854775808) : a ||| 9223372036854775808 = a + 9223372036854775808 := by
  have e : (9223372036854775808 : Nat) = 2 ^ 63 * 1 := by decide
  have := Nat.two_pow_add_eq_or_of_lt (i := 63) (b := a) (by simpa using h) 1
  rw [Nat.or_comm, Nat.add_comm, e]; exact this.symm

theorem u_mant (a : Int) (h0 : 0 ≤ a) (h1 : a < 18446744073709551616) : bits .and .u64 a 4503599627370495 = a % 4503599627370496 := by
  obtain ⟨n, rfl⟩ : ∃ n : Nat, a = n := ⟨a.toNat, by omega⟩
  have h := bits_and_u64_nat n 4503599627370495 (by omega) (by decide)
  rw [n_mant] at h
  exact h

theorem u_exp (a : Int) (h0 : 0 ≤ a) (h1 : a < 18446744073709551616) :
    bits .and .u64 a 9218868437227405312 = a % 9223372036854775808 / 4503599627370496 * 4503599627370496 := by
  obtain ⟨n, rfl⟩ : ∃ n : Nat, a = n := ⟨a.toNat, by omega⟩
  have h := bits_and_u64_nat n 9218868437227405312 (by omega) (by decide)
  rw [n_exp] at h
  exact h

theorem u_top (a : Int) (h0 : 0 ≤ a) (h1 : a < 18446744073709551616) :
    bits .and .u64 a 9223372036854775808 = a / 9223372036854775808 * 9223372036854775808 := by
  obtain ⟨n, rfl⟩ : ∃ n : Nat, a = n := ⟨a.toNat, by omega⟩
  have h := bits_and_u64_nat n 9223372036854775808 (by omega) (by decide)
  rw [n_top _ (by omega)] at h
  exact h

theorem u_or (a : Int) (h0 : 0 ≤ a) (h1 : a < 9223372036854775808) :
    bits .or .u64 a 9223372036854775808 = a + 9223372036854775808 := by
  obtain ⟨n, rfl⟩ : ∃ n : Nat, a = n := ⟨a.toNat, by omega⟩
  have h := bits_or_u64_nat n 9223372036854775808 (by omega) (by decide)
  rw [n_or _ (by omega)] at h
  exact h

theorem n_not (a : Nat) (h : a < 18446744073709551616) : 18446744073709551615 ^^^ a = 18446744073709551615 - a := by
  apply Nat.eq_of_testBit_eq
  intro i
  have e : 18446744073709551615 - a = 2 ^ 64 - (a + 1) := by omega
  rw [e, Nat.testBit_two_pow_sub_succ (by omega), Nat.testBit_xor, show (18446744073709551615 : Nat) = 2 ^ 64 - 1 by decide, Nat.testBit_two_pow_sub_one]
  by_cases h2 : i < 64
  · simp [h2]
  · have : a.testBit i = false := Nat.testBit_lt_two_pow (Nat.lt_of_lt_of_le h (by rw [show (18446744073709551616:Nat) = 2^64 by decide]; exact Nat.pow_le_pow_right (by decide) (by omega)))
    simp [h2, this]

theorem u_not (a : Int) (h0 : 0 ≤ a) (h1 : a < 18446744073709551616) :
    bits .xor .u64 (IntKind.max .u64) a = 18446744073709551615 - a := by
  obtain ⟨n, rfl⟩ : ∃ n : Nat, a = n := ⟨a.toNat, by omega⟩
  have h := bits_xor_u64_nat 18446744073709551615 n (by decide) (by omega)
  rw [n_not _ (by omega)] at h
  have e : IntKind.max .u64 = ((18446744073709551615 : Nat) : Int) := by decide
  rw [e, h]
  omega
end Go.Proofs.YtlgpoapedgodoaaDoor

/- Contracts of the scalar package's small functions and of the reference's. -/
namespace Go.Proofs.YtlgpoapedgodoaaDoor
open Go.RowKit

/-- The class of a double, by its bits. -/
def classZ (z : Int) : Int :=
  if 9218868437227405312 < z % 9223372036854775808 then 0 else if z % 9223372036854775808 = 9218868437227405312 then 1
  else if z % 9223372036854775808 = 0 then 2 else if z % 9223372036854775808 < 4503599627370496 then 3 else 4

/-- Where a double stands. -/
def placeZ (z : Int) : Int :=
  if 9218868437227405312 < z % 9223372036854775808 then 18446744073709551615 else if z < 9223372036854775808 then z + 9223372036854775808 else 18446744073709551615 - z

/-- A word of 64 bits. -/
def word (z : Int) : Prop := 0 ≤ z ∧ z < 18446744073709551616

set_option maxHeartbeats 800000 in
theorem class_ok (z : Int) (hz : word z) (w : World) :
    Calls Tryd.prog 82 #[.int .u64 z] w fun e w' => e = .returned (.int .i64 (classZ z)) ∧ w' = w := by
  obtain ⟨h0, h1⟩ := hz
  have e1 := u_exp z h0 h1
  have e2 := u_mant z h0 h1
  obtain ⟨R, HR⟩ : ∃ R, Hid (R = classZ z) := ⟨_, Lib.hid rfl⟩
  rw [← HR.out]
  obtain ⟨x, hx⟩ : ∃ x, x = z % 9223372036854775808 / 4503599627370496 * 4503599627370496 := ⟨_, rfl⟩
  obtain ⟨y, hy⟩ : ∃ y, y = z % 4503599627370496 := ⟨_, rfl⟩
  rw [← hx] at e1
  rw [← hy] at e2
  have HX : Hid (x = z % 9223372036854775808 / 4503599627370496 * 4503599627370496 ∧ y = z % 4503599627370496) := ⟨hx, hy⟩
  clear hx hy
  go_enter Tryd.func82, Tryd.ntmps82
  go_wp2
  all_goals first | (exfalso; omega) | skip
  all_goals
    go_ret
    refine ⟨?_, rfl⟩
    rw [HR.out]
    have hx := HX.out.1
    have hy := HX.out.2
    clear e1 e2 HX
    simp_all [classZ]
    try omega

set_option maxHeartbeats 800000 in
theorem rclass_ok (z : Int) (hz : word z) (w : World) :
    Calls Tryd.prog 64 #[.int .u64 z] w fun e w' => e = .returned (.int .i64 (classZ z)) ∧ w' = w := by
  obtain ⟨h0, h1⟩ := hz
  obtain ⟨R, HR⟩ : ∃ R, Hid (R = classZ z) := ⟨_, Lib.hid rfl⟩
  rw [← HR.out]
  have e1 : Int.tmod z 9223372036854775808 = z % 9223372036854775808 := Int.tmod_eq_emod_of_nonneg h0
  go_enter Tryd.func64, Tryd.ntmps64
  go_wp2
  all_goals first | (exfalso; omega) | skip
  all_goals
    go_ret
    refine ⟨?_, rfl⟩
    rw [HR.out]
    simp_all [classZ]
    try omega

set_option maxHeartbeats 800000 in
theorem place_ok (z : Int) (hz : word z) (w : World) :
    Calls Tryd.prog 76 #[.int .u64 z] w fun e w' => e = .returned (.int .u64 (placeZ z)) ∧ w' = w := by
  have HZ : Hid (word z) := Lib.hid hz
  obtain ⟨h0, h1⟩ := hz
  have e1 := u_top z h0 h1
  have e2 := fun h => u_or z h0 h
  obtain ⟨C, hC⟩ : ∃ C, C = classZ z := ⟨_, rfl⟩
  have HC := Lib.hid hC
  obtain ⟨R, HR⟩ : ∃ R, Hid (R = placeZ z) := ⟨_, Lib.hid rfl⟩
  rw [← HR.out]
  clear hC
  go_enter Tryd.func76, Tryd.ntmps76
  go_wp2_with fail
  refine (class_ok _ HZ.out _).mono ?_
  rintro e w1 ⟨rfl, rfl⟩
  rw [← HC.out]
  go_wp2_with fail
  all_goals first | (exfalso; omega) | skip
  all_goals
    go_ret
    refine ⟨?_, rfl⟩
    rw [HR.out]
    have hc := HC.out
    clear HC HR HZ
    unfold classZ at hc
    unfold placeZ
    have e3 := u_not z h0 h1
    have hn : (C == 0) = decide (9218868437227405312 < z % 9223372036854775808) := by
      rw [hc]
      repeat' split
      all_goals simp_all
    simp [hn] at *
    try rw [e3]
    try (rw [e2 (by omega)])
    simp_all
    try omega

set_option maxHeartbeats 800000 in
theorem texty_ok (k : Int) (w : World) :
    Calls Tryd.prog 73 #[.int .i64 k] w fun e w' => e = .returned (.bool (decide (k = 7 ∨ k = 8))) ∧ w' = w := by
  go_enter Tryd.func73, Tryd.ntmps73
  go_wp2
  all_goals first | (exfalso; omega) | skip
  all_goals
    go_ret
    refine ⟨?_, rfl⟩
    simp_all
    try omega
    try (rw [Bool.eq_iff_iff]; simp)

set_option maxHeartbeats 800000 in
theorem rtexts_ok (k : Int) (w : World) :
    Calls Tryd.prog 62 #[.int .i64 k] w fun e w' => e = .returned (.bool (decide (k = 7 ∨ k = 8))) ∧ w' = w := by
  go_enter Tryd.func62, Tryd.ntmps62
  go_wp2
  all_goals first | (exfalso; omega) | skip
  all_goals
    go_ret
    refine ⟨?_, rfl⟩
    simp_all
    try omega
    try (rw [Bool.eq_iff_iff]; simp)

set_option maxHeartbeats 800000 in
theorem signed_ok (k : Int) (w : World) :
    Calls Tryd.prog 95 #[.int .i64 k] w fun e w' => e = .returned (.bool (decide (k = 2 ∨ k = 3))) ∧ w' = w := by
  go_enter Tryd.func95, Tryd.ntmps95
  go_wp2
  all_goals first | (exfalso; omega) | skip
  all_goals
    go_ret
    refine ⟨?_, rfl⟩
    simp_all
    try omega
    try (rw [Bool.eq_iff_iff]; simp)

set_option maxHeartbeats 800000 in
theorem is_ok (k : Int) (w : World) :
    Calls Tryd.prog 45 #[.int .i64 k] w fun e w' => e = .returned (.bool (decide (1 ≤ k ∧ k ≤ 9))) ∧ w' = w := by
  go_enter Tryd.func45, Tryd.ntmps45
  go_wp2
  all_goals first | (exfalso; omega) | skip
  all_goals
    go_ret
    refine ⟨?_, rfl⟩
    simp_all
    try omega
    try (rw [Bool.eq_iff_iff]; simp)

set_option maxHeartbeats 800000 in
theorem ris_ok (k : Int) (w : World) :
    Calls Tryd.prog 58 #[.int .i64 k] w fun e w' => e = .returned (.bool (decide (1 ≤ k ∧ k ≤ 9))) ∧ w' = w := by
  go_enter Tryd.func58, Tryd.ntmps58
  go_wp2
  all_goals first | (exfalso; omega) | skip
  all_goals
    go_ret
    refine ⟨?_, rfl⟩
    simp_all
    try omega
    try (rw [Bool.eq_iff_iff]; simp)
end Go.Proofs.YtlgpoapedgodoaaDoor

/- Contracts of Cmp of scalars, the program's and the reference's. -/
namespace Go.Proofs.YtlgpoapedgodoaaDoor
open Go.RowKit

/-- How two scalars of one kind stand. -/
def scalC (k z : Int) (t : ByteArray) (z' : Int) (t' : ByteArray) : Int :=
  if ¬ (1 ≤ k ∧ k ≤ 9) then 0 else if k = 7 ∨ k = 8 then cmpT t t'
  else if k = 2 ∨ k = 3 then cmpI (wrap64 z) (wrap64 z')
  else if k = 6 then cmpI (placeZ z) (placeZ z') else cmpI z z'

/-- How two scalars stand. -/
def scalF (k z : Int) (t : ByteArray) (k' z' : Int) (t' : ByteArray) : Int := if k = k' then scalC k z t z' t' else cmpI k k'

set_option maxRecDepth 4000 in
set_option maxHeartbeats 1000000 in
theorem scal_ne (k z k' z' : Int) (t t' : ByteArray) (l p s r l' p' s' r' : Value) (h : (k != k') = true) (w : World) :
    Calls Tryd.prog 36 #[.agg #[.int .i64 k, .int .u64 z, .string t, l, p, s, r], .agg #[.int .i64 k', .int .u64 z', .string t', l', p', s', r']] w
      fun e w' => e = .returned (.int .i64 (cmpI k k')) ∧ Below w.heap.size w w' := by
  obtain ⟨R, HR⟩ : ∃ R : Int, Hid (R = cmpI k k') := ⟨_, Lib.hid rfl⟩
  rw [← HR.out]
  go_enter Tryd.func36, Tryd.ntmps36
  go_wp2_with fail
  refine (cmpI_ok _ _ _).mono ?_
  rintro e w1 ⟨rfl, rfl⟩
  go_wp2_with fail
  go_ret
  refine ⟨?_, by go_grown⟩
  try rw [HR.out]
  try rfl

set_option maxRecDepth 4000 in
set_option maxHeartbeats 1000000 in
theorem scal_not (k z z' : Int) (t t' : ByteArray) (l p s r l' p' s' r' : Value) (h : decide (1 ≤ k ∧ k ≤ 9) = false) (w : World) :
    Calls Tryd.prog 36 #[.agg #[.int .i64 k, .int .u64 z, .string t, l, p, s, r], .agg #[.int .i64 k, .int .u64 z', .string t', l', p', s', r']] w
      fun e w' => e = .returned (.int .i64 (0)) ∧ Below w.heap.size w w' := by
  obtain ⟨R, HR⟩ : ∃ R : Int, Hid (R = 0) := ⟨_, Lib.hid rfl⟩
  rw [← HR.out]
  go_enter Tryd.func36, Tryd.ntmps36
  go_wp2_with fail
  refine (is_ok _ _).mono ?_
  rintro e w1 ⟨rfl, rfl⟩
  rw [h]
  go_wp2_with fail
  go_ret
  refine ⟨?_, by go_grown⟩
  try rw [HR.out]
  try rfl

set_option maxRecDepth 4000 in
set_option maxHeartbeats 1000000 in
theorem scal_text (k z z' : Int) (t t' : ByteArray) (l p s r l' p' s' r' : Value) (h : decide (1 ≤ k ∧ k ≤ 9) = true) (h2 : decide (k = 7 ∨ k = 8) = true) (w : World) :
    Calls Tryd.prog 36 #[.agg #[.int .i64 k, .int .u64 z, .string t, l, p, s, r], .agg #[.int .i64 k, .int .u64 z', .string t', l', p', s', r']] w
      fun e w' => e = .returned (.int .i64 (cmpT t t')) ∧ Below w.heap.size w w' := by
  obtain ⟨R, HR⟩ : ∃ R : Int, Hid (R = cmpT t t') := ⟨_, Lib.hid rfl⟩
  rw [← HR.out]
  go_enter Tryd.func36, Tryd.ntmps36
  go_wp2_with fail
  refine (is_ok _ _).mono ?_
  rintro e w1 ⟨rfl, rfl⟩
  rw [h]
  go_wp2_with fail
  refine (texty_ok _ _).mono ?_
  rintro e w1 ⟨rfl, rfl⟩
  rw [h2]
  go_wp2_with fail
  refine (cmpT_ok _ _ _).mono ?_
  rintro e w1 ⟨rfl, rfl⟩
  go_wp2_with fail
  go_ret
  refine ⟨?_, by go_grown⟩
  try rw [HR.out]
  try rfl

set_option maxRecDepth 4000 in
set_option maxHeartbeats 1000000 in
theorem scal_s2 (z z' : Int) (t t' : ByteArray) (l p s r l' p' s' r' : Value)  (w : World) :
    Calls Tryd.prog 36 #[.agg #[.int .i64 2, .int .u64 z, .string t, l, p, s, r], .agg #[.int .i64 2, .int .u64 z', .string t', l', p', s', r']] w
      fun e w' => e = .returned (.int .i64 (cmpI (wrap64 z) (wrap64 z'))) ∧ Below w.heap.size w w' := by
  obtain ⟨R, HR⟩ : ∃ R : Int, Hid (R = cmpI (wrap64 z) (wrap64 z')) := ⟨_, Lib.hid rfl⟩
  rw [← HR.out]
  go_enter Tryd.func36, Tryd.ntmps36
  go_wp2_with fail
  refine (is_ok _ _).mono ?_
  rintro e w1 ⟨rfl, rfl⟩
  rw [show decide ((1:Int) ≤ 2 ∧ (2:Int) ≤ 9) = true by decide]
  go_wp2_with fail
  refine (texty_ok _ _).mono ?_
  rintro e w1 ⟨rfl, rfl⟩
  rw [show decide ((2:Int) = 7 ∨ (2:Int) = 8) = false by decide]
  go_wp2_with fail
  refine (cmpI_ok _ _ _).mono ?_
  rintro e w1 ⟨rfl, rfl⟩
  go_wp2_with fail
  go_ret
  refine ⟨?_, by go_grown⟩
  try rw [HR.out]
  try rfl

set_option maxRecDepth 4000 in
set_option maxHeartbeats 1000000 in
theorem scal_s3 (z z' : Int) (t t' : ByteArray) (l p s r l' p' s' r' : Value)  (w : World) :
    Calls Tryd.prog 36 #[.agg #[.int .i64 3, .int .u64 z, .string t, l, p, s, r], .agg #[.int .i64 3, .int .u64 z', .string t', l', p', s', r']] w
      fun e w' => e = .returned (.int .i64 (cmpI (wrap64 z) (wrap64 z'))) ∧ Below w.heap.size w w' := by
  obtain ⟨R, HR⟩ : ∃ R : Int, Hid (R = cmpI (wrap64 z) (wrap64 z')) := ⟨_, Lib.hid rfl⟩
  rw [← HR.out]
  go_enter Tryd.func36, Tryd.ntmps36
  go_wp2_with fail
  refine (is_ok _ _).mono ?_
  rintro e w1 ⟨rfl, rfl⟩
  rw [show decide ((1:Int) ≤ 3 ∧ (3:Int) ≤ 9) = true by decide]
  go_wp2_with fail
  refine (texty_ok _ _).mono ?_
  rintro e w1 ⟨rfl, rfl⟩
  rw [show decide ((3:Int) = 7 ∨ (3:Int) = 8) = false by decide]
  go_wp2_with fail
  refine (cmpI_ok _ _ _).mono ?_
  rintro e w1 ⟨rfl, rfl⟩
  go_wp2_with fail
  go_ret
  refine ⟨?_, by go_grown⟩
  try rw [HR.out]
  try rfl

set_option maxRecDepth 4000 in
set_option maxHeartbeats 1000000 in
theorem scal_bits (k z z' : Int) (t t' : ByteArray) (l p s r l' p' s' r' : Value) (h : decide (1 ≤ k ∧ k ≤ 9) = true) (h2 : decide (k = 7 ∨ k = 8) = false) (h3 : (k == 2) = false) (h4 : (k == 3) = false) (h6 : (k == 6) = false) (w : World) :
    Calls Tryd.prog 36 #[.agg #[.int .i64 k, .int .u64 z, .string t, l, p, s, r], .agg #[.int .i64 k, .int .u64 z', .string t', l', p', s', r']] w
      fun e w' => e = .returned (.int .i64 (cmpI z z')) ∧ Below w.heap.size w w' := by
  obtain ⟨R, HR⟩ : ∃ R : Int, Hid (R = cmpI z z') := ⟨_, Lib.hid rfl⟩
  rw [← HR.out]
  go_enter Tryd.func36, Tryd.ntmps36
  go_wp2_with fail
  refine (is_ok _ _).mono ?_
  rintro e w1 ⟨rfl, rfl⟩
  rw [h]
  go_wp2_with fail
  refine (texty_ok _ _).mono ?_
  rintro e w1 ⟨rfl, rfl⟩
  rw [h2]
  go_wp2_with fail
  refine (cmpU_ok _ _ _).mono ?_
  rintro e w1 ⟨rfl, rfl⟩
  go_wp2_with fail
  go_ret
  refine ⟨?_, by go_grown⟩
  try rw [HR.out]
  try rfl

end Go.Proofs.YtlgpoapedgodoaaDoor

/- How values stand: the plain law on trees. -/
namespace Go.Proofs.YtlgpoapedgodoaaDoor

/-- The first that is not zero. -/
def orI (a b : Int) : Int := if a = 0 then b else a

/-- Lists: the first difference decides, then the lengths. -/
def cmpL {α : Type} (f : α → α → Int) : List α → List α → Int
  | [], [] => 0
  | [], _ :: _ => -1
  | _ :: _, [] => 1
  | a :: l, b :: m => orI (f a b) (cmpL f l m)

def cmpR (a b : RawT) : Int := orI (cmpI a.num b.num) (orI (cmpI a.wire b.wire) (orI (cmpI a.bits b.bits) (cmpT a.data b.data)))
def cmpP {α : Type} (f : α → α → Int) (a b : α × α) : Int := orI (f a.1 b.1) (f a.2 b.2)
def cmpS {α : Type} (f : α → α → Int) (a b : Int × α) : Int := orI (cmpI a.1 b.1) (f a.2 b.2)

/-- One level. -/
def cmpN {α : Type} (f : α → α → Int) (x y : VS α) : Int :=
  if x.kind ≠ y.kind then cmpI x.kind y.kind
  else if 1 ≤ x.kind ∧ x.kind ≤ 9 then scalC x.kind x.bits x.text y.bits y.text
  else if x.kind = 11 then cmpL f x.list y.list
  else if x.kind = 12 then cmpL (cmpP f) x.pairs y.pairs
  else if x.kind = 10 then orI (cmpL (cmpS f) x.slots y.slots) (cmpL cmpR x.raws y.raws)
  else 0

def cmpV : (n : Nat) → VT n → VT n → Int
  | 0, _, _ => 0
  | n + 1, x, y => cmpN (cmpV n) x y

theorem cmpL_drop {α : Type} (f : α → α → Int) : ∀ (k : Nat) (l m : List α), k < l.length → k < m.length → ∀ a b, l[k]? = some a → m[k]? = some b →
    cmpL f (l.drop k) (m.drop k) = orI (f a b) (cmpL f (l.drop (k + 1)) (m.drop (k + 1)))
  | 0, a :: l, b :: m, _, _, a', b', h1, h2 => by
    simp at h1 h2; subst h1; subst h2; rfl
  | k + 1, a :: l, b :: m, h, h', a', b', h1, h2 => by
    simp only [List.length_cons] at h h'
    simp only [List.drop_succ_cons]
    exact cmpL_drop f k l m (by omega) (by omega) a' b' (by simpa using h1) (by simpa using h2)

theorem cmpL_end {α : Type} (f : α → α → Int) (k : Nat) (l m : List α) (h : k = l.length) (h' : k ≤ m.length) : cmpL f (l.drop k) (m.drop k) = if l.length < m.length then -1 else 0 := by
  subst h
  rw [List.drop_of_length_le (Nat.le_refl _)]
  cases e : m.drop l.length with
  | nil =>
    have := congrArg List.length e
    simp at this
    rw [if_neg (by omega)]; rfl
  | cons b r =>
    have := congrArg List.length e
    simp at this
    rw [if_pos (by omega)]; rfl

theorem cmpL_more {α : Type} (f : α → α → Int) (k : Nat) (l m : List α) (h : k < l.length) (h' : k = m.length) : cmpL f (l.drop k) (m.drop k) = 1 := by
  subst h'
  rw [List.drop_of_length_le (l := m) (Nat.le_refl _)]
  cases e : l.drop m.length with
  | nil =>
    have := congrArg List.length e
    simp at this
    omega
  | cons b r => rfl

theorem orI_ne {a b : Int} (h : a ≠ 0) : orI a b = a := by simp [orI, h]
theorem orI_zero {b : Int} : orI 0 b = b := by simp [orI]

theorem RowAt.form {α : Type} {k : Nat} {R : World → List Value → α → Prop} {w : World} {v : Value} {xs : List α} (h : RowAt k R w v xs) : ∃ ao l c, v = .slice ao l c := by
  obtain ⟨ao, c, hv, _⟩ := h
  exact ⟨_, _, _, hv⟩

/-- Every reading has seven cells. -/
theorem RVal.seven {n : Nat} {w : World} {cs : List Value} {x : VT n} (h : RVal n w cs x) :
    ∃ k z t d1 l1 c1 d2 l2 c2 d3 l3 c3 d4 l4 c4, cs = [.int .i64 k, .int .u64 z, .string t, .slice d1 l1 c1, .slice d2 l2 c2, .slice d3 l3 c3, .slice d4 l4 c4] := by
  cases n with
  | zero => exact h.elim
  | succ n =>
    obtain ⟨l, p, s, r, hcs, _, h1, h2, h3, h4⟩ := h
    obtain ⟨d1, l1, c1, rfl⟩ := h1.form
    obtain ⟨d2, l2, c2, rfl⟩ := h2.form
    obtain ⟨d3, l3, c3, rfl⟩ := h3.form
    obtain ⟨d4, l4, c4, rfl⟩ := h4.form
    exact ⟨_, _, _, _, _, _, _, _, _, _, _, _, _, _, _, hcs⟩
end Go.Proofs.YtlgpoapedgodoaaDoor

/- A region that draws its order, walked once, in whatever world of a class: its own operations only read, its callees leave a world of the class. -/
namespace Go.Proofs.YtlgpoapedgodoaaDoor

/-- A world of which S holds. -/
structure InClass (S : World → Prop) where
  w : World
  h : S w

theorem wp_region_class {P : Program} {id : Nat} {Q : Exit → Act → World → Prop} {a : Act} {w : World} {l : List Oper} (S : World → Prop) (hm : P.follows .mixedOrders = true) (hB : Region.lexB .any l.toArray = true) (h0 : S w.drew)
    (h : wpQuiet P l.toArray (fun w' => ∃ s : InClass S, w' = s.w) (fun a' => ∀ w', (∃ s : InClass S, w' = s.w) → Q .normal a' w') l a) : (Code.region id l.toArray true).wp P Q a w :=
  wp_region_quiet (C := fun w' => ∃ s : InClass S, w' = s.w) hm hB ⟨⟨_, h0⟩, rfl⟩ (by simpa using h)

/-- A callee's contract, met in a world of the class. -/
theorem calls_class {P : Program} {f : FuncId} {args : Array Value} {S : World → Prop} {s : InClass S} {v : Value} {R : World → Prop}
    (h : Calls P f args s.w fun e w' => e = .returned v ∧ R w') (hR : ∀ w', R w' → S w') : Calls P f args s.w fun e w'' => e = .returned v ∧ ∃ s' : InClass S, w'' = s'.w :=
  h.mono fun _ w' ⟨he, hw⟩ => ⟨he, ⟨w', hR w' hw⟩, rfl⟩
end Go.Proofs.YtlgpoapedgodoaaDoor

/- Worlds: what a call that only makes memory leaves behind a new block. -/
namespace Go.Proofs.YtlgpoapedgodoaaDoor

/-- What a call leaves that was made in a world with one new block at its end. -/
theorem keep1 {w1 w2 : World} {C : Array Value} {T : TypeId} (hb : RowKit.Below (w1.alloc (.cells C T)).heap.size (w1.alloc (.cells C T)) w2) :
    (∀ {b o : Nat} {v : Value}, b < w1.heap.size → w1.cell? ⟨b, o, none⟩ = some v → w2.cell? ⟨b, o, none⟩ = some v) ∧ (∀ o, w2.cell? ⟨w1.heap.size, o, none⟩ = C[o]?) ∧ w1.heap.size < w2.heap.size ∧ RowKit.Below w1.heap.size w1 w2 := by
  have e : (w1.alloc (.cells C T)).heap.size = w1.heap.size + 1 := by simp
  rw [e] at hb
  refine ⟨fun {b o v} hl h => ?_, fun o => ?_, by have := hb.size; rw [e] at this; omega, ((RowKit.Below.refl _ _).alloc (Nat.le_refl _) _).trans (hb.mono (by omega))⟩
  · exact (hb.cell (p := ⟨b, o, none⟩) (by show b < _; omega)).trans ((World.cell?_alloc_past (.cells C T) b o hl).trans h)
  · exact (hb.cell (p := ⟨w1.heap.size, o, none⟩) (by simp)).trans (by simp)

/-- A block that is known whole. -/
theorem blk_cell {w : World} {g : Nat} {cs : Array Value} {t : TypeId} {fr : Nat × Nat} (h : w.heap[g]? = some (.cells cs t fr)) (i : Nat) {v : Value} (hv : cs[i]? = some v) : w.cell? ⟨g, i, none⟩ = some v := by simp [World.cell?, h, hv]
theorem blk_free {w : World} {g : Nat} {cs : Array Value} {t : TypeId} (h : w.heap[g]? = some (.cells cs t (0, 0))) (i : Nat) : w.frozen? ⟨g, i, none⟩ = false := by simp [World.frozen?, h]
theorem blk_lt {w : World} {g : Nat} {o : Obj} (h : w.heap[g]? = some o) : g < w.heap.size := by
  by_cases hg : g < w.heap.size
  · exact hg
  · rw [Array.getElem?_eq_none (by omega)] at h; cases h
theorem blk_keep {w w' : World} (hb : RowKit.Below w.heap.size w w') {g : Nat} {o : Obj} (h : w.heap[g]? = some o) : w'.heap[g]? = some o := (hb.block g (blk_lt h)).trans h
theorem blk_new (w : World) (o : Obj) : (w.alloc o).heap[w.heap.size]? = some o := heap_alloc_new w o
theorem blk_new' (w : World) (o : Obj) {n : Nat} (hn : n = w.heap.size) : (w.alloc o).heap[n]? = some o := by subst hn; exact heap_alloc_new w o
theorem blk_old {w : World} {g : Nat} {o : Obj} (h : w.heap[g]? = some o) (o' : Obj) : (w.alloc o').heap[g]? = some o := (RowKit.Below.heap_alloc w o' g (blk_lt h)).trans h
theorem blk_set {w : World} {g i : Nat} {cs : Array Value} {t : TypeId} {fr : Nat × Nat} (h : w.heap[g]? = some (.cells cs t fr)) (v : Value) : (w.setCell ⟨g, i, none⟩ v).heap[g]? = some (.cells (cs.setIfInBounds i v) t fr) := by
  simp [World.setCell, Array.getElem?_modify, h]
theorem blk_set_ne {w : World} {g : Nat} {a : Addr} {o : Obj} (h : w.heap[g]? = some o) (hne : g ≠ a.block) (v : Value) : (w.setCell a v).heap[g]? = some o := (RowKit.Below.heap_setCell w a v g hne).trans h

/-- Three cells stored. -/
def set3 (w : World) (g : Nat) (y0 y1 y2 : Value) : World := ((w.setCell ⟨g, 0, none⟩ y0).setCell ⟨g, 1, none⟩ y1).setCell ⟨g, 2, none⟩ y2
theorem set3_blk {w : World} {g : Nat} {x0 x1 x2 : Value} {t : TypeId} {fr : Nat × Nat} (h : w.heap[g]? = some (.cells #[x0, x1, x2] t fr)) (y0 y1 y2 : Value) : (set3 w g y0 y1 y2).heap[g]? = some (.cells #[y0, y1, y2] t fr) :=
  blk_set (blk_set (blk_set h y0) y1) y2
theorem set3_ne {w : World} {g k : Nat} {o : Obj} (h : w.heap[k]? = some o) (hne : k ≠ g) (y0 y1 y2 : Value) : (set3 w g y0 y1 y2).heap[k]? = some o :=
  blk_set_ne (blk_set_ne (blk_set_ne h hne y0) hne y1) hne y2
theorem set3_size (w : World) (g : Nat) (y0 y1 y2 : Value) : (set3 w g y0 y1 y2).heap.size = w.heap.size := by simp [set3, World.setCell]
theorem set3_below {B : Nat} {a w : World} (h : RowKit.Below B a w) {g : Nat} (hg : B ≤ g) (y0 y1 y2 : Value) : RowKit.Below B a (set3 w g y0 y1 y2) := ((h.setCell (p := ⟨g, 0, none⟩) hg y0).setCell (p := ⟨g, 1, none⟩) hg y1).setCell (p := ⟨g, 2, none⟩) hg y2
theorem set3_owns {w : World} {base : Nat} {e : TypeId} {size : Nat} {v : Value} {n : Nat} {xs : List Value} (h : w.ownsRow base e size v n xs) {g : Nat} (hg : g < base) (y0 y1 y2 : Value) : (set3 w g y0 y1 y2).ownsRow base e size v n xs :=
  RowKit.ownsRow_setCell_below (RowKit.ownsRow_setCell_below (RowKit.ownsRow_setCell_below h (a := ⟨g, 0, none⟩) hg y0) (a := ⟨g, 1, none⟩) hg y1) (a := ⟨g, 2, none⟩) hg y2

/-- An owned row stays owned behind a call that only makes memory. -/
theorem owns_keep {w w' : World} {base : Nat} {e : TypeId} {size : Nat} {v : Value} {n : Nat} {xs : List Value} (h : w.ownsRow base e size v n xs) (hb : RowKit.Below w.heap.size w w') : w'.ownsRow base e size v n xs := by
  obtain ⟨h1, h2⟩ := h
  refine ⟨h1, ?_⟩
  rcases h2 with h2 | ⟨g, cap, cur, hv, hg, hh, r⟩
  · exact Or.inl h2
  · exact Or.inr ⟨g, cap, cur, hv, hg, blk_keep hb hh, r⟩
end Go.Proofs.YtlgpoapedgodoaaDoor

/- A region that draws its order, whose calls only make memory: walked once, in whatever world lies above the one that it began in. -/
namespace Go.Proofs.YtlgpoapedgodoaaDoor
open Go.RowKit

/-- What lies above a world. -/
abbrev Up (W : World) := InClass (fun w' => Below W.heap.size W w')
instance (W : World) : Nonempty (Up W) := ⟨⟨W, Below.refl _ _⟩⟩

theorem wp_region_up {P : Program} {id : Nat} {Q : Exit → Act → World → Prop} {a : Act} {W : World} {l : List Oper} (hm : P.follows .mixedOrders = true) (hB : Region.lexB .any l.toArray = true)
    (h : wpQuiet P l.toArray (fun w' => ∃ s : Up W, w' = s.w) (fun a' => ∀ w', (∃ s : Up W, w' = s.w) → Q .normal a' w') l a) : (Code.region id l.toArray true).wp P Q a W :=
  wp_region_class (fun w' => Below W.heap.size W w') hm hB ((Below.refl _ _).drew) h

/-- A callee's contract, met above a world. -/
theorem calls_up {P : Program} {f : FuncId} {args : Array Value} {W : World} {s : Up W} {v : Value}
    (h : Calls P f args s.w fun e w' => e = .returned v ∧ Below s.w.heap.size s.w w') : Calls P f args s.w fun e w'' => e = .returned v ∧ ∃ s' : Up W, w'' = s'.w :=
  calls_class h fun _ hb => s.h.trans (hb.mono s.h.size)
theorem calls_up_same {P : Program} {f : FuncId} {args : Array Value} {W : World} {s : Up W} {v : Value}
    (h : Calls P f args s.w fun e w' => e = .returned v ∧ w' = s.w) : Calls P f args s.w fun e w'' => e = .returned v ∧ ∃ s' : Up W, w'' = s'.w :=
  h.mono fun _ _ ⟨he, hw⟩ => ⟨he, s, hw⟩

/-- A cell of the world below. -/
theorem Up.cell {W : World} {b o : Nat} {v : Value} (h : W.cell? ⟨b, o, none⟩ = some v) (s : Up W) : s.w.cell? ⟨b, o, none⟩ = some v :=
  (s.h.cell (p := ⟨b, o, none⟩) (World.block_lt_of_cell? _ _ h)).trans h

/-- What a later world holds of an earlier one. -/
theorem held {W w : World} (hb : Below W.heap.size W w) {b o : Nat} {v : Value} (h : W.cell? ⟨b, o, none⟩ = some v) : w.cell? ⟨b, o, none⟩ = some v :=
  (hb.cell (p := ⟨b, o, none⟩) (World.block_lt_of_cell? _ _ h)).trans h
theorem above {W w w' : World} (h : Below W.heap.size W w) (h' : Below w.heap.size w w') : Below W.heap.size W w' := h.trans (h'.mono h.size)
end Go.Proofs.YtlgpoapedgodoaaDoor

/- A region that draws its order: its first n operations are quiet in a class of worlds, the others come one behind the other at its end. -/
namespace Go.Proofs.YtlgpoapedgodoaaDoor
open Go.RowKit

section
variable {P : Program} {ops : Array Oper} {md : Region.Mode} {C : World → Prop}

/-- Whatever order is picked among the first n, in whatever world of the class. -/
def headAny (P : Program) (md : Region.Mode) (ops : Array Oper) (C : World → Prop) (n : Nat) (L : Array Bool → Act → Prop) : Nat → Array Bool → Act → Prop
  | 0, listed, a => L listed a
  | f + 1, listed, a => Region.ready md ops listed ≠ [] ∧ ∀ i ∈ Region.ready md ops listed, i < n ∧ qOp P ops C i (headAny P md ops C n L f (listed.setIfInBounds i true)) a

theorem any_of_head {n g : Nat} {L : Array Bool → Act → Prop} {Q' : Exit → Act → World → Prop} (hL : ∀ listed a w, C w → L listed a → wpAny P md ops Q' g listed a w) :
    ∀ (f : Nat) (listed : Array Bool) (a : Act) (w : World), C w → headAny P md ops C n L f listed a → wpAny P md ops Q' (f + g) listed a w
  | 0, listed, a, w, hw, h => by rw [Nat.zero_add]; exact hL _ _ _ hw h
  | f + 1, listed, a, w, hw, h => by
    rw [show f + 1 + g = (f + g) + 1 by omega]
    exact ⟨fun h0 => absurd h0 h.1, fun i hi => wpOp_of_qOp hw (fun a' w' hw' h' => any_of_head hL f _ a' w' hw' h') (h.2 i hi).2⟩

theorem headAny_first {n i : Nat} {oi : Oper} {v : Value} {L : Array Bool → Act → Prop} (hi : ops[i]? = some oi) (hsel : ∀ (j : Nat) (o : Oper) cs b, ops[j]? = some o → o.op ≠ .select cs b)
    (hs : Region.sinkB md ops n = true) (hc : Region.chainB md ops n = true) (hn : n < ops.size) (hin : i < n)
    (hdone : ∀ listed a, L listed a → ∀ j ∈ Region.ready md ops listed, n ≤ j) :
    ∀ (f : Nat) (listed : Array Bool) (a : Act), HeadInv md ops n listed →
      (∀ j oj, ops[j]? = some oj → j ≠ i → listed.getD j true = false → (∀ e ∈ oj.after, Region.binds md e = true → e.on ≠ i) → oi.apart ops oj = true) →
      i ∈ Region.ready md ops listed → YieldsIn P ops C oi v a →
      headAny P md ops C n L f (listed.setIfInBounds i true) (a.put oi.dst v) → headAny P md ops C n L (f + 1) listed a := by
  intro f
  induction f with
  | zero =>
    intro listed a inv _ hr hy H
    have hun := (mem_ready.1 hr).1
    refine ⟨fun h => (by rw [h] at hr; cases hr), fun j hj => ?_⟩
    have hjn : j < n := by
      rcases Nat.lt_or_ge j n with h | h
      · exact h
      · exact absurd hj (tail_waits hs hc hn inv _ i rfl hin hun j h)
    refine ⟨hjn, ?_⟩
    by_cases hji : j = i
    · subst hji; exact hy.qOp hi H
    · have := hdone _ _ H j (ready_mono hj hji)
      omega
  | succ f ih =>
    intro listed a inv hfree hr hy H
    have hun := (mem_ready.1 hr).1
    refine ⟨fun h => (by rw [h] at hr; cases hr), fun j hj => ?_⟩
    have hjn : j < n := by
      rcases Nat.lt_or_ge j n with h | h
      · exact h
      · exact absurd hj (tail_waits hs hc hn inv _ i rfl hin hun j h)
    refine ⟨hjn, ?_⟩
    by_cases hji : j = i
    · subst hji; exact hy.qOp hi H
    · have h1 := (H.2 j (ready_mono hj hji)).2
      obtain ⟨hjun, oj, hoj, hall⟩ := mem_ready.1 hj
      have hnot : ∀ e ∈ oj.after, Region.binds md e = true → e.on ≠ i := fun e he hb heq => by
        have h1 := hall e he hb
        rw [heq, getD_both hun] at h1
        cases h1
      have h2 := qOp_put hoj (hfree j oj hoj hji hjun hnot) (fun cs b => hsel i oi cs b hi) (fun cs b => hsel j oj cs b hoj) hy h1
      have hfree' : ∀ k ok, ops[k]? = some ok → k ≠ i → (listed.setIfInBounds j true).getD k true = false →
          (∀ e ∈ ok.after, Region.binds md e = true → e.on ≠ i) → oi.apart ops ok = true := fun k ok hk hki hun hno => by
        refine hfree k ok hk hki ?_ hno
        by_cases hjk : j = k
        · subst hjk; exact hjun
        · rw [getD_set_ne true hjk] at hun; exact hun
      refine qOp_mono (fun a' h3 => ih (listed.setIfInBounds j true) a' (inv.set hj hjn) hfree' (ready_mono hr (Ne.symm hji)) h3.1 ?_) h2
      rw [Array.setIfInBounds_comm _ _ hji]
      exact h3.2

theorem headAny_lex {n g : Nat} {Lq : Act → Prop} (hsel : Region.noSelect ops = true) (hs : Region.sinkB md ops n = true) (hc : Region.chainB md ops n = true) (hn : n < ops.size) :
    ∀ (l : List Oper) (k : Nat) (listed : Array Bool) (a : Act), (∀ j, j < l.length → l[j]? = ops[k + j]?) → k + l.length = n → HeadInv md ops n listed →
    Region.lexHead md ops g l.length k listed = true → wpQuiet P ops C Lq l a →
    headAny P md ops C n (fun listed' a' => Region.seqB md ops g n listed' = true ∧ Lq a') l.length listed a
  | [], k, listed, a, _, hk, _, hB, h => by
    have : k = n := by simpa using hk
    subst this
    exact ⟨by simpa [Region.lexHead] using hB, h⟩
  | o :: l, k, listed, a, hl, hk, inv, hB, h => by
    have h0 : ops[k]? = some o := by simpa using (hl 0 (by simp)).symm
    simp only [List.length_cons, Region.lexHead, Bool.and_eq_true] at hB
    obtain ⟨⟨hr, hf⟩, hB'⟩ := hB
    have hkn : k < n := by simp only [List.length_cons] at hk; omega
    have hr' : k ∈ Region.ready md ops listed := by simpa using hr
    have hst : qOp P ops C k (wpQuiet P ops C Lq l) a := by unfold qOp; simp only [h0]; exact h
    obtain ⟨v, hy, hK⟩ := yieldsIn_of_qOp h0 hst
    exact headAny_first h0 (Region.noSelect_spec hsel) hs hc hn hkn (fun listed' a' hL => seqB_ready hL.1) l.length listed a inv (Region.free_spec h0 hf) hr' hy
      (headAny_lex hsel hs hc hn l (k + 1) _ _ (fun j hj => by have := hl (j + 1) (by simp; omega); simpa [Nat.add_assoc, Nat.add_comm 1 j] using this) (by simp only [List.length_cons] at hk; omega) (inv.set hr' hkn) hB' hK)

theorem wp_region_tail {id : Nat} {Q : Exit → Act → World → Prop} {a : Act} {w : World} {l : List Oper} (n : Nat) (hm : P.follows .mixedOrders = true) (hB : Region.lexTailB .any l.toArray n = true) (hC : C { w with drawn := w.drawn + 1 })
    (h : wpQuiet P l.toArray C (fun a' => ∀ w', C w' → wpList P l.toArray Q (l.drop n) a' w') (l.take n) a) : (Code.region id l.toArray true).wp P Q a w := by
  simp only [Region.lexTailB, Bool.and_eq_true, decide_eq_true_eq] at hB
  obtain ⟨⟨⟨⟨hsel, hn⟩, hs⟩, hc⟩, hlex⟩ := hB
  have hn' : n < l.length := by simpa using hn
  have htl : (l.take n).length = n := by simp; omega
  have hdl : (l.drop n).length = l.toArray.size - n := by simp
  have inv0 : HeadInv .any l.toArray n (Array.replicate l.toArray.size false) :=
    ⟨by simp, fun j oj _ hl => (by rw [getD_replicate_false] at hl; cases hl), fun t _ ht => getD_in (by simpa using ht) (getD_replicate_false _ _)⟩
  have H := headAny_lex (md := .any) (g := l.toArray.size - n) hsel hs hc hn (l.take n) 0 _ a (fun j hj => by
    have hj' : j < n := by rw [htl] at hj; exact hj
    simp [hj']) (by simpa using htl) inv0 (by rw [htl]; exact hlex) h
  refine wp_region_any hm ?_
  have := any_of_head (Q' := Q) (g := l.toArray.size - n) (fun listed a' w' hw' hL => by
    have := wpAny_of_seq (md := .any) (Q' := Q) (l.drop n) n listed a' w' (fun j => by simp [List.getElem?_drop]) (by rw [hdl]; exact hL.1) (hL.2 w' hw')
    rwa [hdl] at this) _ _ _ _ hC H
  rw [htl, show n + (l.toArray.size - n) = l.toArray.size by omega] at this
  exact this
end

/-- The same above a world. -/
theorem wp_region_up_tail {P : Program} {id : Nat} {Q : Exit → Act → World → Prop} {a : Act} {W : World} {l : List Oper} (n : Nat) (hm : P.follows .mixedOrders = true) (hB : Region.lexTailB .any l.toArray n = true)
    (h : wpQuiet P l.toArray (fun w' => ∃ s : Up W, w' = s.w) (fun a' => ∀ w', (∃ s : Up W, w' = s.w) → wpList P l.toArray Q (l.drop n) a' w') (l.take n) a) : (Code.region id l.toArray true).wp P Q a W :=
  wp_region_tail n hm hB ⟨⟨_, (Below.refl _ _).drew⟩, rfl⟩ h
end Go.Proofs.YtlgpoapedgodoaaDoor

/- Blocks that boxed arguments make, read cell by cell. -/
namespace Go.Proofs.YtlgpoapedgodoaaDoor
open Go.RowKit

theorem cells2 {W : World} {b : Nat} {a0 a1 : Value} {t : TypeId} {fr : Nat × Nat} (h : W.heap[b]? = some (.cells #[a0, a1] t fr)) :
    W.cell? ⟨b, 0, none⟩ = some a0 ∧ W.cell? ⟨b, 1, none⟩ = some a1 :=
  ⟨blk_cell h 0 rfl, blk_cell h 1 rfl⟩
theorem up2 {W : World} {b : Nat} {a0 a1 : Value} {t : TypeId} {fr : Nat × Nat} (h : W.heap[b]? = some (.cells #[a0, a1] t fr)) :
    (∀ s : Up W, s.w.cell? ⟨b, 0, none⟩ = some a0) ∧ (∀ s : Up W, s.w.cell? ⟨b, 1, none⟩ = some a1) :=
  ⟨fun s => Up.cell (blk_cell h 0 rfl) s, fun s => Up.cell (blk_cell h 1 rfl) s⟩
theorem cells4 {W : World} {b : Nat} {a0 a1 a2 a3 : Value} {t : TypeId} {fr : Nat × Nat} (h : W.heap[b]? = some (.cells #[a0, a1, a2, a3] t fr)) :
    W.cell? ⟨b, 0, none⟩ = some a0 ∧ W.cell? ⟨b, 1, none⟩ = some a1 ∧ W.cell? ⟨b, 2, none⟩ = some a2 ∧ W.cell? ⟨b, 3, none⟩ = some a3 :=
  ⟨blk_cell h 0 rfl, blk_cell h 1 rfl, blk_cell h 2 rfl, blk_cell h 3 rfl⟩
theorem up4 {W : World} {b : Nat} {a0 a1 a2 a3 : Value} {t : TypeId} {fr : Nat × Nat} (h : W.heap[b]? = some (.cells #[a0, a1, a2, a3] t fr)) :
    (∀ s : Up W, s.w.cell? ⟨b, 0, none⟩ = some a0) ∧ (∀ s : Up W, s.w.cell? ⟨b, 1, none⟩ = some a1) ∧ (∀ s : Up W, s.w.cell? ⟨b, 2, none⟩ = some a2) ∧ (∀ s : Up W, s.w.cell? ⟨b, 3, none⟩ = some a3) :=
  ⟨fun s => Up.cell (blk_cell h 0 rfl) s, fun s => Up.cell (blk_cell h 1 rfl) s, fun s => Up.cell (blk_cell h 2 rfl) s, fun s => Up.cell (blk_cell h 3 rfl) s⟩
theorem cells7 {W : World} {b : Nat} {a0 a1 a2 a3 a4 a5 a6 : Value} {t : TypeId} {fr : Nat × Nat} (h : W.heap[b]? = some (.cells #[a0, a1, a2, a3, a4, a5, a6] t fr)) :
    W.cell? ⟨b, 0, none⟩ = some a0 ∧ W.cell? ⟨b, 1, none⟩ = some a1 ∧ W.cell? ⟨b, 2, none⟩ = some a2 ∧ W.cell? ⟨b, 3, none⟩ = some a3 ∧ W.cell? ⟨b, 4, none⟩ = some a4 ∧ W.cell? ⟨b, 5, none⟩ = some a5 ∧ W.cell? ⟨b, 6, none⟩ = some a6 :=
  ⟨blk_cell h 0 rfl, blk_cell h 1 rfl, blk_cell h 2 rfl, blk_cell h 3 rfl, blk_cell h 4 rfl, blk_cell h 5 rfl, blk_cell h 6 rfl⟩
theorem up7 {W : World} {b : Nat} {a0 a1 a2 a3 a4 a5 a6 : Value} {t : TypeId} {fr : Nat × Nat} (h : W.heap[b]? = some (.cells #[a0, a1, a2, a3, a4, a5, a6] t fr)) :
    (∀ s : Up W, s.w.cell? ⟨b, 0, none⟩ = some a0) ∧ (∀ s : Up W, s.w.cell? ⟨b, 1, none⟩ = some a1) ∧ (∀ s : Up W, s.w.cell? ⟨b, 2, none⟩ = some a2) ∧ (∀ s : Up W, s.w.cell? ⟨b, 3, none⟩ = some a3) ∧ (∀ s : Up W, s.w.cell? ⟨b, 4, none⟩ = some a4) ∧ (∀ s : Up W, s.w.cell? ⟨b, 5, none⟩ = some a5) ∧ (∀ s : Up W, s.w.cell? ⟨b, 6, none⟩ = some a6) :=
  ⟨fun s => Up.cell (blk_cell h 0 rfl) s, fun s => Up.cell (blk_cell h 1 rfl) s, fun s => Up.cell (blk_cell h 2 rfl) s, fun s => Up.cell (blk_cell h 3 rfl) s, fun s => Up.cell (blk_cell h 4 rfl) s, fun s => Up.cell (blk_cell h 5 rfl) s, fun s => Up.cell (blk_cell h 6 rfl) s⟩
theorem cells8 {W : World} {b : Nat} {a0 a1 a2 a3 a4 a5 a6 a7 : Value} {t : TypeId} {fr : Nat × Nat} (h : W.heap[b]? = some (.cells #[a0, a1, a2, a3, a4, a5, a6, a7] t fr)) :
    W.cell? ⟨b, 0, none⟩ = some a0 ∧ W.cell? ⟨b, 1, none⟩ = some a1 ∧ W.cell? ⟨b, 2, none⟩ = some a2 ∧ W.cell? ⟨b, 3, none⟩ = some a3 ∧ W.cell? ⟨b, 4, none⟩ = some a4 ∧ W.cell? ⟨b, 5, none⟩ = some a5 ∧ W.cell? ⟨b, 6, none⟩ = some a6 ∧ W.cell? ⟨b, 7, none⟩ = some a7 :=
  ⟨blk_cell h 0 rfl, blk_cell h 1 rfl, blk_cell h 2 rfl, blk_cell h 3 rfl, blk_cell h 4 rfl, blk_cell h 5 rfl, blk_cell h 6 rfl, blk_cell h 7 rfl⟩
theorem up8 {W : World} {b : Nat} {a0 a1 a2 a3 a4 a5 a6 a7 : Value} {t : TypeId} {fr : Nat × Nat} (h : W.heap[b]? = some (.cells #[a0, a1, a2, a3, a4, a5, a6, a7] t fr)) :
    (∀ s : Up W, s.w.cell? ⟨b, 0, none⟩ = some a0) ∧ (∀ s : Up W, s.w.cell? ⟨b, 1, none⟩ = some a1) ∧ (∀ s : Up W, s.w.cell? ⟨b, 2, none⟩ = some a2) ∧ (∀ s : Up W, s.w.cell? ⟨b, 3, none⟩ = some a3) ∧ (∀ s : Up W, s.w.cell? ⟨b, 4, none⟩ = some a4) ∧ (∀ s : Up W, s.w.cell? ⟨b, 5, none⟩ = some a5) ∧ (∀ s : Up W, s.w.cell? ⟨b, 6, none⟩ = some a6) ∧ (∀ s : Up W, s.w.cell? ⟨b, 7, none⟩ = some a7) :=
  ⟨fun s => Up.cell (blk_cell h 0 rfl) s, fun s => Up.cell (blk_cell h 1 rfl) s, fun s => Up.cell (blk_cell h 2 rfl) s, fun s => Up.cell (blk_cell h 3 rfl) s, fun s => Up.cell (blk_cell h 4 rfl) s, fun s => Up.cell (blk_cell h 5 rfl) s, fun s => Up.cell (blk_cell h 6 rfl) s, fun s => Up.cell (blk_cell h 7 rfl) s⟩
theorem cells14 {W : World} {b : Nat} {a0 a1 a2 a3 a4 a5 a6 a7 a8 a9 a10 a11 a12 a13 : Value} {t : TypeId} {fr : Nat × Nat} (h : W.heap[b]? = some (.cells #[a0, a1, a2, a3, a4, a5, a6, a7, a8, a9, a10, a11, a12, a13] t fr)) :
    W.cell? ⟨b, 0, none⟩ = some a0 ∧ W.cell? ⟨b, 1, none⟩ = some a1 ∧ W.cell? ⟨b, 2, none⟩ = some a2 ∧ W.cell? ⟨b, 3, none⟩ = some a3 ∧ W.cell? ⟨b, 4, none⟩ = some a4 ∧ W.cell? ⟨b, 5, none⟩ = some a5 ∧ W.cell? ⟨b, 6, none⟩ = some a6 ∧ W.cell? ⟨b, 7, none⟩ = some a7 ∧ W.cell? ⟨b, 8, none⟩ = some a8 ∧ W.cell? ⟨b, 9, none⟩ = some a9 ∧ W.cell? ⟨b, 10, none⟩ = some a10 ∧ W.cell? ⟨b, 11, none⟩ = some a11 ∧ W.cell? ⟨b, 12, none⟩ = some a12 ∧ W.cell? ⟨b, 13, none⟩ = some a13 :=
  ⟨blk_cell h 0 rfl, blk_cell h 1 rfl, blk_cell h 2 rfl, blk_cell h 3 rfl, blk_cell h 4 rfl, blk_cell h 5 rfl, blk_cell h 6 rfl, blk_cell h 7 rfl, blk_cell h 8 rfl, blk_cell h 9 rfl, blk_cell h 10 rfl, blk_cell h 11 rfl, blk_cell h 12 rfl, blk_cell h 13 rfl⟩
theorem up14 {W : World} {b : Nat} {a0 a1 a2 a3 a4 a5 a6 a7 a8 a9 a10 a11 a12 a13 : Value} {t : TypeId} {fr : Nat × Nat} (h : W.heap[b]? = some (.cells #[a0, a1, a2, a3, a4, a5, a6, a7, a8, a9, a10, a11, a12, a13] t fr)) :
    (∀ s : Up W, s.w.cell? ⟨b, 0, none⟩ = some a0) ∧ (∀ s : Up W, s.w.cell? ⟨b, 1, none⟩ = some a1) ∧ (∀ s : Up W, s.w.cell? ⟨b, 2, none⟩ = some a2) ∧ (∀ s : Up W, s.w.cell? ⟨b, 3, none⟩ = some a3) ∧ (∀ s : Up W, s.w.cell? ⟨b, 4, none⟩ = some a4) ∧ (∀ s : Up W, s.w.cell? ⟨b, 5, none⟩ = some a5) ∧ (∀ s : Up W, s.w.cell? ⟨b, 6, none⟩ = some a6) ∧ (∀ s : Up W, s.w.cell? ⟨b, 7, none⟩ = some a7) ∧ (∀ s : Up W, s.w.cell? ⟨b, 8, none⟩ = some a8) ∧ (∀ s : Up W, s.w.cell? ⟨b, 9, none⟩ = some a9) ∧ (∀ s : Up W, s.w.cell? ⟨b, 10, none⟩ = some a10) ∧ (∀ s : Up W, s.w.cell? ⟨b, 11, none⟩ = some a11) ∧ (∀ s : Up W, s.w.cell? ⟨b, 12, none⟩ = some a12) ∧ (∀ s : Up W, s.w.cell? ⟨b, 13, none⟩ = some a13) :=
  ⟨fun s => Up.cell (blk_cell h 0 rfl) s, fun s => Up.cell (blk_cell h 1 rfl) s, fun s => Up.cell (blk_cell h 2 rfl) s, fun s => Up.cell (blk_cell h 3 rfl) s, fun s => Up.cell (blk_cell h 4 rfl) s, fun s => Up.cell (blk_cell h 5 rfl) s, fun s => Up.cell (blk_cell h 6 rfl) s, fun s => Up.cell (blk_cell h 7 rfl) s, fun s => Up.cell (blk_cell h 8 rfl) s, fun s => Up.cell (blk_cell h 9 rfl) s, fun s => Up.cell (blk_cell h 10 rfl) s, fun s => Up.cell (blk_cell h 11 rfl) s, fun s => Up.cell (blk_cell h 12 rfl) s, fun s => Up.cell (blk_cell h 13 rfl) s⟩

theorem box1_facts (w : World) (c1 : Array Value) (t1 : TypeId) : (w.alloc (.cells c1 t1)).heap[w.heap.size]? = some (.cells c1 t1 (0, 0)) ∧ Below w.heap.size w (w.alloc (.cells c1 t1)) :=
  ⟨blk_new w _, (Below.refl _ _).alloc (Nat.le_refl _) _⟩
theorem box2_facts (w : World) (c1 : Array Value) (t1 : TypeId) (c2 : Array Value) (t2 : TypeId) :
    ((w.alloc (.cells c1 t1)).alloc (.cells c2 t2)).heap[w.heap.size]? = some (.cells c1 t1 (0, 0)) ∧ ((w.alloc (.cells c1 t1)).alloc (.cells c2 t2)).heap[w.heap.size + 1]? = some (.cells c2 t2 (0, 0)) ∧ Below w.heap.size w ((w.alloc (.cells c1 t1)).alloc (.cells c2 t2)) :=
  ⟨blk_old (blk_new w _) _, blk_new' _ _ (by simp), ((Below.refl _ _).alloc (Nat.le_refl _) _).alloc (by simp) _⟩

/-- A boxed argument: the world behind a letter. -/
theorem wp_box1 {P : Program} {c : Code} {Q : Exit → Act → World → Prop} {a : Act} {w : World} {c1 : Array Value} {t1 : TypeId}
    (h : ∀ W : World, W.heap[w.heap.size]? = some (.cells c1 t1 (0, 0)) → Below w.heap.size w W → c.wp P Q a W) : c.wp P Q a (w.alloc (.cells c1 t1)) :=
  h _ (box1_facts w c1 t1).1 (box1_facts w c1 t1).2
theorem calls_box1 {P : Program} {f : FuncId} {args : Array Value} {Q : Ending → World → Prop} {w : World} {c1 : Array Value} {t1 : TypeId}
    (h : ∀ W : World, W.heap[w.heap.size]? = some (.cells c1 t1 (0, 0)) → Below w.heap.size w W → Calls P f args W Q) : Calls P f args (w.alloc (.cells c1 t1)) Q :=
  h _ (box1_facts w c1 t1).1 (box1_facts w c1 t1).2
theorem wp_box2 {P : Program} {c : Code} {Q : Exit → Act → World → Prop} {a : Act} {w : World} {c1 : Array Value} {t1 : TypeId} {c2 : Array Value} {t2 : TypeId}
    (h : ∀ W : World, W.heap[w.heap.size]? = some (.cells c1 t1 (0, 0)) → W.heap[w.heap.size + 1]? = some (.cells c2 t2 (0, 0)) → Below w.heap.size w W → c.wp P Q a W) : c.wp P Q a ((w.alloc (.cells c1 t1)).alloc (.cells c2 t2)) :=
  h _ (box2_facts w c1 t1 c2 t2).1 (box2_facts w c1 t1 c2 t2).2.1 (box2_facts w c1 t1 c2 t2).2.2
theorem calls_box2 {P : Program} {f : FuncId} {args : Array Value} {Q : Ending → World → Prop} {w : World} {c1 : Array Value} {t1 : TypeId} {c2 : Array Value} {t2 : TypeId}
    (h : ∀ W : World, W.heap[w.heap.size]? = some (.cells c1 t1 (0, 0)) → W.heap[w.heap.size + 1]? = some (.cells c2 t2 (0, 0)) → Below w.heap.size w W → Calls P f args W Q) : Calls P f args ((w.alloc (.cells c1 t1)).alloc (.cells c2 t2)) Q :=
  h _ (box2_facts w c1 t1 c2 t2).1 (box2_facts w c1 t1 c2 t2).2.1 (box2_facts w c1 t1 c2 t2).2.2

/-- A callee that only makes memory: what follows is asked above its world. -/
theorem calls_on {P : Program} {f : FuncId} {args : Array Value} {W : World} {v : Value} {Q : Ending → World → Prop}
    (h : Calls P f args W fun e w' => e = .returned v ∧ Below W.heap.size W w') (hQ : ∀ w', Below W.heap.size W w' → Q (.returned v) w') : Calls P f args W Q :=
  h.mono fun e w' ⟨he, hb⟩ => by subst he; exact hQ w' hb
theorem calls_same {P : Program} {f : FuncId} {args : Array Value} {W : World} {v : Value} {Q : Ending → World → Prop}
    (h : Calls P f args W fun e w' => e = .returned v ∧ w' = W) (hQ : Q (.returned v) W) : Calls P f args W Q :=
  h.mono fun e w' ⟨he, hb⟩ => by subst he; subst hb; exact hQ
end Go.Proofs.YtlgpoapedgodoaaDoor

/- A row of elements, opened element by element. -/
namespace Go.Proofs.YtlgpoapedgodoaaDoor
open Go.RowKit

theorem ret_int {k : IntKind} {a b : Int} (h : a = b) : Ending.returned (.int k a) = .returned (.int k b) := by rw [h]

theorem ret_bool {a b : Bool} (h : a = b) : Ending.returned (.bool a) = .returned (.bool b) := by rw [h]

/-- Element i of a row. -/
def ElemAt {α : Type} (k : Nat) (R : World → List Value → α → Prop) (w : World) (ao : Option Addr) (i : Nat) (x : α) : Prop :=
  ∃ b o, ao = some ⟨b, o, none⟩ ∧ ∃ cs : List Value, cs.length = k ∧ (∀ (j : Nat) u, cs[j]? = some u → w.cell? ⟨b, o + (i * k + j), none⟩ = some u) ∧ R w cs x

theorem RowAt.opened {α : Type} {k : Nat} {R : World → List Value → α → Prop} {w : World} {v : Value} {xs : List α} (h : RowAt k R w v xs) :
    ∃ ao c, v = .slice ao xs.length c ∧ xs.length ≤ c ∧ c ≤ maxLen ∧ ∀ (i : Nat) x, xs[i]? = some x → ElemAt k R w ao i x := by
  obtain ⟨ao, c, hv, hc, hm, hn, hr⟩ := h
  refine ⟨ao, c, hv, hc, hm.1, fun i x hi => ?_⟩
  cases ao with
  | none => rw [hn rfl] at hi; simp at hi
  | some a =>
    rcases hr a rfl with h0 | ⟨b, o, rfl, hcell⟩
    · rw [h0] at hi; simp at hi
    · obtain ⟨cs, h1, h2, h3⟩ := hcell i x hi
      exact ⟨b, o, rfl, cs, h1, h2, h3⟩

theorem RowAt.short {α : Type} {k : Nat} {R : World → List Value → α → Prop} {w : World} {v : Value} {xs : List α} (h : RowAt k R w v xs) : xs.length ≤ 140737488351232 := by
  obtain ⟨ao, c, hv, hc, hm, _⟩ := h
  exact hm.2

theorem ElemAt.keep {α : Type} {k : Nat} {R : World → List Value → α → Prop} {w w' : World} {ao : Option Addr} {i : Nat} {x : α} (h : ElemAt k R w ao i x) (hb : Below w.heap.size w w')
    (hR : ∀ cs x, R w cs x → R w' cs x) : ElemAt k R w' ao i x := by
  obtain ⟨b, o, ha, cs, h1, h2, h3⟩ := h
  exact ⟨b, o, ha, cs, h1, fun j u hj => held hb (h2 j u hj), hR _ _ h3⟩

/-- An entry's fourteen cells; a slot's eight. -/
def RPair (n : Nat) (w : World) (cs : List Value) (y : VT n × VT n) : Prop := ∃ c1 c2, cs = c1 ++ c2 ∧ RVal n w c1 y.1 ∧ RVal n w c2 y.2
def RSlot (n : Nat) (w : World) (cs : List Value) (y : Int × VT n) : Prop := ∃ c2, cs = .int .i64 y.1 :: c2 ∧ (-9223372036854775808 ≤ y.1 ∧ y.1 ≤ 9223372036854775807) ∧ RVal n w c2 y.2
theorem RPair.keep {n : Nat} {w w' : World} (hb : Below w.heap.size w w') {cs : List Value} {y : VT n × VT n} (h : RPair n w cs y) : RPair n w' cs y := by
  obtain ⟨c1, c2, e, h1, h2⟩ := h
  exact ⟨c1, c2, e, RVal.keep hb n _ _ h1, RVal.keep hb n _ _ h2⟩
theorem RSlot.keep {n : Nat} {w w' : World} (hb : Below w.heap.size w w') {cs : List Value} {y : Int × VT n} (h : RSlot n w cs y) : RSlot n w' cs y := by
  obtain ⟨c2, e, h1, h2⟩ := h
  exact ⟨c2, e, h1, RVal.keep hb n _ _ h2⟩

/-- A value that is passed by value, and how it reads. -/
def IsV (n : Nat) (w : World) (v : Value) (x : VT n) : Prop :=
  ∃ k z t d1 l1 c1 d2 l2 c2 d3 l3 c3 d4 l4 c4, v = .agg #[.int .i64 k, .int .u64 z, .string t, .slice d1 l1 c1, .slice d2 l2 c2, .slice d3 l3 c3, .slice d4 l4 c4] ∧
    RVal n w [.int .i64 k, .int .u64 z, .string t, .slice d1 l1 c1, .slice d2 l2 c2, .slice d3 l3 c3, .slice d4 l4 c4] x
def IsP (n : Nat) (w : World) (v : Value) (y : VT n × VT n) : Prop :=
  ∃ ekx ezx etx d1x l1x c1x d2x l2x c2x d3x l3x c3x d4x l4x c4x eky ezy ety d1y l1y c1y d2y l2y c2y d3y l3y c3y d4y l4y c4y, v = .agg #[.int .i64 ekx, .int .u64 ezx, .string etx, .slice d1x l1x c1x, .slice d2x l2x c2x, .slice d3x l3x c3x, .slice d4x l4x c4x, .int .i64 eky, .int .u64 ezy, .string ety, .slice d1y l1y c1y, .slice d2y l2y c2y, .slice d3y l3y c3y, .slice d4y l4y c4y] ∧
    RVal n w [.int .i64 ekx, .int .u64 ezx, .string etx, .slice d1x l1x c1x, .slice d2x l2x c2x, .slice d3x l3x c3x, .slice d4x l4x c4x] y.1 ∧ RVal n w [.int .i64 eky, .int .u64 ezy, .string ety, .slice d1y l1y c1y, .slice d2y l2y c2y, .slice d3y l3y c3y, .slice d4y l4y c4y] y.2
def IsS (n : Nat) (w : World) (v : Value) (y : Int × VT n) : Prop :=
  ∃ eky ezy ety d1y l1y c1y d2y l2y c2y d3y l3y c3y d4y l4y c4y, v = .agg #[.int .i64 y.1, .int .i64 eky, .int .u64 ezy, .string ety, .slice d1y l1y c1y, .slice d2y l2y c2y, .slice d3y l3y c3y, .slice d4y l4y c4y] ∧ (-9223372036854775808 ≤ y.1 ∧ y.1 ≤ 9223372036854775807) ∧ RVal n w [.int .i64 eky, .int .u64 ezy, .string ety, .slice d1y l1y c1y, .slice d2y l2y c2y, .slice d3y l3y c3y, .slice d4y l4y c4y] y.2
def IsR (_ : World) (v : Value) (r : RawT) : Prop := v = .agg #[.int .i64 r.num, .int .i64 r.wire, .int .u64 r.bits, .string r.data] ∧ -9223372036854775808 ≤ r.num ∧ r.num ≤ 9223372036854775807 ∧
  -9223372036854775808 ≤ r.wire ∧ r.wire ≤ 9223372036854775807 ∧ 0 ≤ r.bits ∧ r.bits ≤ 18446744073709551615 ∧ r.data.size ≤ 140737488351232
theorem IsV.keep {n : Nat} {w w' : World} (hb : Below w.heap.size w w') {v : Value} {x : VT n} (h : IsV n w v x) : IsV n w' v x := by
  obtain ⟨k, z, t, d1, l1, c1, d2, l2, c2, d3, l3, c3, d4, l4, c4, e, h⟩ := h
  exact ⟨k, z, t, d1, l1, c1, d2, l2, c2, d3, l3, c3, d4, l4, c4, e, RVal.keep hb n _ _ h⟩

/-- The contracts of the program's comparing functions, at one number of levels. -/
def OCmp (n : Nat) : Prop := ∀ (v v' : Value) (x y : VT n) (w : World), IsV n w v x → IsV n w v' y →
  Calls Tryd.prog 13 #[v, v'] w fun e w' => e = .returned (.int .i64 (cmpV n x y)) ∧ Below w.heap.size w w'
def OPair (n : Nat) : Prop := ∀ (v v' : Value) (x y : VT n × VT n) (w : World), IsP n w v x → IsP n w v' y →
  Calls Tryd.prog 39 #[v, v'] w fun e w' => e = .returned (.int .i64 (cmpP (cmpV n) x y)) ∧ Below w.heap.size w w'
def OSlot (n : Nat) : Prop := ∀ (v v' : Value) (x y : Int × VT n) (w : World), IsS n w v x → IsS n w v' y →
  Calls Tryd.prog 42 #[v, v'] w fun e w' => e = .returned (.int .i64 (cmpS (cmpV n) x y)) ∧ Below w.heap.size w w'
def ORaw : Prop := ∀ (v v' : Value) (x y : RawT) (w : World), IsR w v x → IsR w v' y →
  Calls Tryd.prog 44 #[v, v'] w fun e w' => e = .returned (.int .i64 (cmpR x y)) ∧ Below w.heap.size w w'
end Go.Proofs.YtlgpoapedgodoaaDoor

/- How a statement's arguments are opened. -/
namespace Go.Proofs.YtlgpoapedgodoaaDoor
open Go.ChangeShapes Go.WideShapes Go.ChangeAt Go.RowKit

theorem own : ownKnob Tryd.prog.godebug = none := by kernel_rfl
theorem laidOut : laidOutB Tryd.prog = true := by kernel_rfl

theorem laidMetH_bare (P : Program) (l : List (String × DataW Unit)) (w : World) (h : (l.filter fun x => x.2.handleName?.isSome) = []) : laidMetH P l w = laidMet P l w := by
  unfold laidMetH; rw [h]

theorem maxLen_cell {W : World} (h : W.ShapedOpen Tryd.prog) : ∃ m, W.cell? ⟨0, 0, none⟩ = some (.int .i64 m) :=
  cell_of_shapedOpen_int (P := Tryd.prog) (g := 0) (t := 3) (zero := #[.int .i64 0]) h (of_decide_eq_true (by kernel_rfl)) (by kernel_rfl) rfl (by kernel_rfl) (by kernel_rfl) Tryd.underlying3

section
variable {H : Type} {enc : TypeId × Value → H} {W : World} {base : Nat} {spare : Nat → Bool} {held : Bool} {d : DataW H} {p : List MemPlace} {v : Value}

theorem open_arg (h : DataW.Trod enc Tryd.prog W base spare held 28 v d p) (hw : Light 28 d) : ∃ (n : Nat) (x : VT n), IsV n W v x := by
  obtain ⟨m, hm⟩ := h
  obtain ⟨x, hx⟩ := open_value m _ _ hm hw
  obtain ⟨k, z, t, d1, l1, c1, d2, l2, c2, d3, l3, c3, d4, l4, c4, e⟩ := hx.seven
  have hv : v = .agg #[.int .i64 k, .int .u64 z, .string t, .slice d1 l1 c1, .slice d2 l2 c2, .slice d3 l3 c3, .slice d4 l4 c4] := by
    have hl := congrArg List.length e
    cases v with
    | agg cs =>
      have : cs = #[.int .i64 k, .int .u64 z, .string t, .slice d1 l1 c1, .slice d2 l2 c2, .slice d3 l3 c3, .slice d4 l4 c4] := Array.ext' e
      rw [this]
    | _ => simp [Value.cells] at hl
  rw [e] at hx
  exact ⟨m, x, k, z, t, d1, l1, c1, d2, l2, c2, d3, l3, c3, d4, l4, c4, hv, hx⟩
end

/-- At more levels. -/
theorem IsV.upTo {n : Nat} {w : World} {v : Value} {x : VT n} (h : IsV n w v x) (m : Nat) (hm : n ≤ m) : ∃ y : VT m, IsV m w v y := by
  obtain ⟨k, z, t, d1, l1, c1, d2, l2, c2, d3, l3, c3, d4, l4, c4, e, hx⟩ := h
  obtain ⟨y, hy⟩ := hx.upTo m hm
  exact ⟨y, k, z, t, d1, l1, c1, d2, l2, c2, d3, l3, c3, d4, l4, c4, e, hy⟩
end Go.Proofs.YtlgpoapedgodoaaDoor

/- How a string argument is opened. -/
namespace Go.Proofs.YtlgpoapedgodoaaDoor
open Go.ChangeShapes Go.WideShapes Go.ChangeAt Go.RowKit

set_option maxRecDepth 100000 in
theorem open_text {H : Type} {enc : TypeId × Value → H} {W : World} {base : Nat} {spare : Nat → Bool} {held : Bool} {d : DataW H} {p : List MemPlace} {v : Value} {r : Reach} {b0 : Nat}
    (hval : Value.okWide Tryd.prog W r b0 9 v) (h : DataW.Trod enc Tryd.prog W base spare held 9 v d p) (hw : Light 9 d) : ∃ s : ByteArray, v = .string s ∧ s.size ≤ 140737488351232 := by
  have hu : Tryd.prog.underlying 9 = some .string := Tryd.underlying9
  generalize Tryd.prog = P at hval hu
  obtain ⟨s, rfl⟩ := okWide_string hu hval
  obtain ⟨m, hm⟩ := h
  have := light_string hm (d := s) rfl hw
  exact ⟨s, rfl, this⟩
end Go.Proofs.YtlgpoapedgodoaaDoor

/- The text of a key: its zero bytes escaped. -/
namespace Go.Proofs.YtlgpoapedgodoaaDoor

/-- Each zero byte with 255 behind it. -/
def escT : List UInt8 → List UInt8
  | [] => []
  | b :: l => if b = 0 then 0 :: 255 :: escT l else b :: escT l

theorem escT_none : ∀ l : List UInt8, l.count 0 = 0 → escT l = l
  | [], _ => rfl
  | b :: l, h => by
    by_cases hb : b = 0
    · subst hb; simp at h
    · rw [List.count_cons_of_ne (by simpa using hb)] at h
      simp only [escT, hb, if_false, escT_none l h]

theorem escT_length (l : List UInt8) : (escT l).length = l.length + l.count 0 := by
  induction l with
  | nil => rfl
  | cons b l ih =>
    by_cases hb : b = 0
    · subst hb; simp [escT, ih]; omega
    · rw [List.count_cons_of_ne (by simpa using hb)]
      simp [escT, hb, ih]; omega

theorem replaceK_esc : ∀ (l : List UInt8) (k : Nat), l.count 0 ≤ k → Lib.replaceK [0] [0, 255] k l = escT l
  | [], 0, _ => rfl
  | [], k + 1, _ => rfl
  | b :: l, 0, h => by
    rw [escT_none _ (by omega)]; rfl
  | b :: l, k + 1, h => by
    by_cases hb : b = 0
    · subst hb
      have hi : Lib.index (0 :: l) [0] = ((0 : Nat) : Int) := by rw [Lib.index_one]; rfl
      rw [Lib.replaceK_hit _ _ _ _ 0 hi]
      have := replaceK_esc l k (by simp at h; omega)
      simp [escT, this]
    · rw [List.count_cons_of_ne (by simpa using hb)] at h
      have ih := replaceK_esc l (k + 1) h
      have hge := Lib.indexByte_ge l 0
      by_cases hm : Lib.indexByte l 0 = -1
      · have h1 : Lib.index (b :: l) [0] = -1 := by rw [Lib.index_one]; unfold Lib.indexByte; simp [hb, hm]
        have h2 : Lib.index l [0] = -1 := by rw [Lib.index_one]; exact hm
        simp only [Lib.replaceK, h1, h2, beq_self_eq_true, if_true] at ih ⊢
        simp only [escT, hb, if_false, ← ih]
      · obtain ⟨i, hi⟩ : ∃ i : Nat, Lib.indexByte l 0 = i := ⟨(Lib.indexByte l 0).toNat, by omega⟩
        have h1 : Lib.index (b :: l) [0] = ((i + 1 : Nat) : Int) := by rw [Lib.index_one]; unfold Lib.indexByte; simp [hb, hi]
        have h2 : Lib.index l [0] = (i : Int) := by rw [Lib.index_one]; exact hi
        rw [Lib.replaceK_hit _ _ _ _ _ h1]
        rw [Lib.replaceK_hit _ _ _ _ _ h2] at ih
        simp only [escT, hb, if_false, ← ih]
        simp

theorem replaceAll_esc (l : List UInt8) : Lib.replaceAll l [0] [0, 255] = escT l := by
  unfold Lib.replaceAll Lib.replace
  rw [if_neg (by decide)]
  have : Lib.replaceNum l [0] (-1) = l.count 0 := by
    unfold Lib.replaceNum
    rw [if_pos (.inl (by decide)), Lib.count_one]
  rw [this]
  exact replaceK_esc l _ (Nat.le_refl _)
end Go.Proofs.YtlgpoapedgodoaaDoor
