/- From the form's reading to the tree: every api.Value that can be read is a tree of some number of levels. -/
import Derived.Test.YtlgpoapedgodoaaDoorVal
import Derived.Test.YtlgpoapedgodoaaDoorRows
import Derived.ProofKit
import Derived.OpenShut
import Derived.Deep.Slices
import Derived.Deep.Strs
namespace Go.Proofs.YtlgpoapedgodoaaDoor
open Go.ChangeShapes Go.WideShapes Go.ChangeAt Go.RowKit

theorem cellsValue : Tryd.prog.cellsOf 28 = 7 := by kernel_rfl
theorem cellsPair : Tryd.prog.cellsOf 44 = 14 := by kernel_rfl
theorem cellsSlot : Tryd.prog.cellsOf 48 = 8 := by kernel_rfl
theorem cellsRaw : Tryd.prog.cellsOf 71 = 4 := by kernel_rfl

theorem addr_add (b o n : Nat) : (⟨b, o, none⟩ : Addr).add n = ⟨b, o + n, none⟩ := by
  unfold Addr.add
  split
  · rename_i h; subst h; rfl
  · rfl

theorem list_of {α : Type} {P : Nat → α → Prop} : ∀ n : Nat, (∀ i, i < n → ∃ x, P i x) → ∃ xs : List α, xs.length = n ∧ ∀ (i : Nat) x, xs[i]? = some x → P i x
  | 0, _ => ⟨[], rfl, fun i x h => by simp at h⟩
  | n + 1, h => by
    obtain ⟨xs, hl, hx⟩ := list_of n (fun i hi => h i (by omega))
    obtain ⟨y, hy⟩ := h n (by omega)
    refine ⟨xs ++ [y], by simp [hl], fun i x hi => ?_⟩
    by_cases hin : i < n
    · rw [List.getElem?_append_left (by omega)] at hi; exact hx i x hi
    · rw [List.getElem?_append_right (by omega)] at hi
      by_cases e : i = n
      · subst e; rw [hl] at hi; simp at hi; subst hi; exact hy
      · rw [List.getElem?_eq_none (by simp; omega)] at hi; cases hi

section
variable {H : Type} {enc : TypeId × Value → H} {W : World} {base : Nat} {spare : Nat → Bool} {held : Bool}

/-- Nothing in it weighs more than the form's reach. -/
def Light (t : TypeId) (d : DataW H) : Prop := ∀ x ∈ DataW.weights Tryd.prog t d, x ≤ 140737488351232

theorem weightsEach_mem : ∀ (ts : List TypeId) (ds : List (DataW H)) (i : Nat) (t : TypeId) (d : DataW H), ts[i]? = some t → ds[i]? = some d → ∀ x ∈ DataW.weights Tryd.prog t d, x ∈ DataW.weightsEach Tryd.prog ts ds
  | [], _, i, _, _, h, _, _, _ => by simp at h
  | _ :: _, [], i, _, _, _, h, _, _ => by simp at h
  | t' :: ts, d' :: ds, 0, t, d, h1, h2, x, hx => by
    simp at h1 h2; subst h1; subst h2
    simp only [DataW.weightsEach, List.mem_append]; exact .inl hx
  | t' :: ts, d' :: ds, i + 1, t, d, h1, h2, x, hx => by
    simp only [DataW.weightsEach, List.mem_append]
    exact .inr (weightsEach_mem ts ds i t d (by simpa using h1) (by simpa using h2) x hx)
theorem weightsAll_mem (e : TypeId) : ∀ (ds : List (DataW H)) (i : Nat) (d : DataW H), ds[i]? = some d → ∀ x ∈ DataW.weights Tryd.prog e d, x ∈ DataW.weightsAll Tryd.prog e ds
  | [], i, _, h, _, _ => by simp at h
  | d' :: ds, 0, d, h2, x, hx => by
    simp at h2; subst h2
    simp only [DataW.weightsAll, List.mem_append]; exact .inl hx
  | d' :: ds, i + 1, d, h2, x, hx => by
    simp only [DataW.weightsAll, List.mem_append]
    exact .inr (weightsAll_mem e ds i d (by simpa using h2) x hx)
theorem Light.part {t : TypeId} {fs : Array Field} {ps : List (DataW H)} (ht : Tryd.prog.underlying t = some (.struct fs)) (h : Light t (.agg ps)) {i : Nat} {f : Field} {d : DataW H} (hf : fs[i]? = some f) (hd : ps[i]? = some d) : Light f.type d := by
  intro x hx
  refine h x ?_
  simp only [DataW.weights, ht]
  exact weightsEach_mem _ _ i f.type d (by simp [hf]) hd x hx
theorem Light.elem {t e : TypeId} {es sp : List (DataW H)} (ht : Tryd.prog.underlying t = some (.slice e)) (h : Light t (.slice es sp)) {i : Nat} {d : DataW H} (hd : es[i]? = some d) : Light e d := by
  intro x hx
  refine h x ?_
  simp only [DataW.weights, ht, List.mem_cons, List.mem_append]
  exact .inr (.inl (weightsAll_mem e es i d hd x hx))
theorem Light.short {t e : TypeId} {es sp : List (DataW H)} (ht : Tryd.prog.underlying t = some (.slice e)) (h : Light t (.slice es sp)) (hb : 1 ≤ Tryd.prog.bytesOf e) : es.length ≤ 140737488351232 := by
  have := h ((es.length + sp.length) * Tryd.prog.bytesOf e) (by simp only [DataW.weights, ht, List.mem_cons, true_or])
  have h2 : (es.length + sp.length) * 1 ≤ (es.length + sp.length) * Tryd.prog.bytesOf e := Nat.mul_le_mul_left _ hb
  omega

theorem open_row {α : Type} {k : Nat} {R : World → List Value → α → Prop} {t e : TypeId} {fuel : Nat} {v : Value} {y : DataW H × List MemPlace} (ht : Tryd.prog.underlying t = some (.slice e)) (hk : Tryd.prog.cellsOf e = k) (hk0 : 0 < k) (hby : 1 ≤ Tryd.prog.bytesOf e)
    (h : DataW.trod enc Tryd.prog W base spare held (fuel + 1) t [v] = some y) (hw : Light t y.1)
    (hel : ∀ cs z, DataW.trod enc Tryd.prog W base spare held fuel e cs = some z → Light e z.1 → ∃ x : α, R W cs x) : ∃ xs, RowAt k R W v xs := by
  rcases DataW.trod_slice ht h with ⟨hc, _⟩ | ⟨a, len, cap, elems, rest, n, hn, hc, hy, hb, hl, hm, hlen, helem, _⟩
  · simp at hc; subst hc
    exact ⟨[], none, 0, rfl, Nat.le_refl _, ⟨Nat.zero_le _, Nat.zero_le _⟩, fun _ => rfl, fun a ha => by cases ha⟩
  · simp at hc; subst hc
    subst hy
    have hsh := Light.short ht hw hby
    rw [List.length_map] at hsh
    obtain rfl : n = fuel := by omega
    have key : ∀ i, i < len → ∃ x : α, ∃ cs : List Value, cs.length = k ∧ (∀ j, j < k → W.cell? ((a.add (i * k)).add j) = cs[j]?) ∧ R W cs x := by
      intro i hi
      have h1 := helem i hi
      rw [List.getElem?_eq_getElem (by omega), Option.bind_eq_some_iff] at h1
      obtain ⟨cs, hc1, hc2⟩ := h1
      rw [hk] at hc1
      obtain ⟨_, hl1, hc3⟩ := World.cells?_some hc1
      obtain ⟨x, hx⟩ := hel cs _ hc2 (Light.elem ht hw (i := i) (by rw [List.getElem?_map, List.getElem?_eq_getElem (by omega)]; rfl))
      exact ⟨x, cs, hl1, hc3, hx⟩
    obtain ⟨xs, hxl, hxs⟩ := list_of len key
    refine ⟨xs, some a, cap, by rw [hxl], by omega, ⟨hm, by omega⟩, (fun h => by cases h), ?_⟩
    intro a' ha'
    cases ha'
    by_cases h0 : len = 0
    · left; exact List.length_eq_zero_iff.1 (by omega)
    right
    obtain ⟨b, o, spot⟩ := a
    obtain ⟨x0, cs0, hl0, hc0, _⟩ := key 0 (by omega)
    have hz := hc0 0 hk0
    rw [List.getElem?_eq_getElem (by omega)] at hz
    have hspot : spot = none := by
      have := World.cell?_spot hz
      simpa [Addr.add] using this
    subst hspot
    refine ⟨b, o, rfl, fun i x hi => ?_⟩
    obtain ⟨cs, hl1, hc1, hr⟩ := hxs i x hi
    refine ⟨cs, hl1, fun j u hj => ?_, hr⟩
    have hjk : j < k := by
      by_cases hjk : j < k
      · exact hjk
      · rw [List.getElem?_eq_none (by omega)] at hj; cases hj
    have := hc1 j hjk
    rw [addr_add, addr_add, hj] at this
    rw [← this, Nat.add_assoc]

/-- One level more. -/
theorem RowAt.map {α β : Type} {k : Nat} {R : World → List Value → α → Prop} {S : World → List Value → β → Prop} {w : World} {v : Value} {xs : List α} (h : RowAt k R w v xs)
    (hR : ∀ cs x, R w cs x → ∃ y, S w cs y) : ∃ ys, RowAt k S w v ys := by
  obtain ⟨ao, c, hv, hc, hm, hn, hr⟩ := h
  rcases ao with _ | a
  · have := hn rfl
    subst this
    exact ⟨[], none, c, hv, hc, hm, fun _ => rfl, fun a ha => by cases ha⟩
  rcases hr a rfl with h0 | ⟨b, o, rfl, hcell⟩
  · subst h0
    exact ⟨[], some a, c, hv, hc, hm, fun _ => rfl, fun _ _ => .inl rfl⟩
  have key : ∀ i, i < xs.length → ∃ y : β, ∃ cs : List Value, cs.length = k ∧ (∀ (j : Nat) u, cs[j]? = some u → w.cell? ⟨b, o + (i * k + j), none⟩ = some u) ∧ S w cs y := by
    intro i hi
    obtain ⟨cs, h1, h2, h3⟩ := hcell i xs[i] (List.getElem?_eq_getElem hi)
    obtain ⟨y, hy⟩ := hR cs _ h3
    exact ⟨y, cs, h1, h2, hy⟩
  obtain ⟨ys, hl, hy⟩ := list_of xs.length key
  exact ⟨ys, some ⟨b, o, none⟩, c, by rw [hl]; exact hv, by omega, ⟨hm.1, by rw [hl]; exact hm.2⟩, (fun h => by cases h), (fun a ha => by cases ha; exact .inr ⟨b, o, rfl, hy⟩)⟩

theorem RVal.up {w : World} : ∀ (n : Nat) (cs : List Value) (x : VT n), RVal n w cs x → ∃ y : VT (n + 1), RVal (n + 1) w cs y
  | 0, _, _, h => h.elim
  | n + 1, cs, x, h => by
    obtain ⟨l, p, s, r, hcs, hbd, h1, h2, h3, h4⟩ := h
    obtain ⟨ys1, g1⟩ := h1.map (S := RVal (n + 1)) (fun cs x hx => RVal.up n cs x hx)
    obtain ⟨ys2, g2⟩ := h2.map (S := fun w cs (y : VT (n + 1) × VT (n + 1)) => ∃ c1 c2, cs = c1 ++ c2 ∧ RVal (n + 1) w c1 y.1 ∧ RVal (n + 1) w c2 y.2) (fun cs x ⟨c1, c2, e, k1, k2⟩ => by
      obtain ⟨y1, q1⟩ := RVal.up n c1 _ k1
      obtain ⟨y2, q2⟩ := RVal.up n c2 _ k2
      exact ⟨(y1, y2), c1, c2, e, q1, q2⟩)
    obtain ⟨ys3, g3⟩ := h3.map (S := fun w cs (y : Int × VT (n + 1)) => ∃ c2, cs = .int .i64 y.1 :: c2 ∧ (-9223372036854775808 ≤ y.1 ∧ y.1 ≤ 9223372036854775807) ∧ RVal (n + 1) w c2 y.2) (fun cs x ⟨c2, e, k1, k2⟩ => by
      obtain ⟨y2, q2⟩ := RVal.up n c2 _ k2
      exact ⟨(x.1, y2), c2, e, k1, q2⟩)
    exact ⟨({ kind := VS.kind x, bits := VS.bits x, text := VS.text x, list := ys1, pairs := ys2, slots := ys3, raws := VS.raws x } : VS (VT (n + 1))), l, p, s, r, hcs, hbd, g1, g2, g3, h4⟩

theorem RVal.upTo {w : World} {cs : List Value} {n : Nat} {x : VT n} (h : RVal n w cs x) (m : Nat) (hm : n ≤ m) : ∃ y : VT m, RVal m w cs y := by
  obtain ⟨d, rfl⟩ : ∃ d, m = n + d := ⟨m - n, by omega⟩
  clear hm
  induction d with
  | zero => exact ⟨x, h⟩
  | succ d ih => obtain ⟨y, hy⟩ := ih; exact RVal.up _ _ y hy

theorem list7 {α : Type} {l : List α} (h : l.length = 7) : ∃ a b c d e f g, l = [a, b, c, d, e, f, g] := by
  match l, h with
  | [a, b, c, d, e, f, g], _ => exact ⟨a, b, c, d, e, f, g, rfl⟩
theorem list4 {α : Type} {l : List α} (h : l.length = 4) : ∃ a b c d, l = [a, b, c, d] := by
  match l, h with
  | [a, b, c, d], _ => exact ⟨a, b, c, d, rfl⟩

theorem fld {t : TypeId} {fs : Array Field} {xs : List (DataW H × List MemPlace)} {cs : List Value} {n i : Nat} {f : Field} (ht : Tryd.prog.underlying t = some (.struct fs)) (hw : Light t (.agg (xs.map (·.1)))) (hl : xs.length = fs.size)
    (h : ∀ (i : Nat) (f : Field), fs[i]? = some f → DataW.trod enc Tryd.prog W base spare held n f.type ((cs.drop f.offset).take (Tryd.prog.cellsOf f.type)) = xs[i]?) (hf : fs[i]? = some f) :
    ∃ z, DataW.trod enc Tryd.prog W base spare held n f.type ((cs.drop f.offset).take (Tryd.prog.cellsOf f.type)) = some z ∧ Light f.type z.1 := by
  have hi : i < fs.size := by
    by_cases hi : i < fs.size
    · exact hi
    · rw [Array.getElem?_eq_none (by omega)] at hf; cases hf
  have e : xs[i]? = some xs[i] := List.getElem?_eq_getElem (by omega)
  exact ⟨xs[i], (h i f hf).trans e, hw.part ht hf (by rw [List.getElem?_map, e]; rfl)⟩

theorem light_string {n : Nat} {cs : List Value} {z : DataW H × List MemPlace} {d : ByteArray} (h : DataW.trod enc Tryd.prog W base spare held n 9 cs = some z) (hc : cs = [.string d]) (hw : Light 9 z.1) : d.size ≤ 140737488351232 := by
  obtain ⟨d', e, hz, _⟩ := DataW.trod_string Tryd.underlying9 h
  rw [hc] at e
  simp at e
  subst e
  have := hw d.size (by rw [hz]; simp [DataW.weights])
  exact this

theorem c3 : Tryd.prog.cellsOf 3 = 1 := by kernel_rfl
theorem c22 : Tryd.prog.cellsOf 22 = 1 := by kernel_rfl
theorem c9 : Tryd.prog.cellsOf 9 = 1 := by kernel_rfl
theorem cLV : Tryd.prog.cellsOf 23 = 1 := by kernel_rfl
theorem cLP : Tryd.prog.cellsOf 24 = 1 := by kernel_rfl
theorem cLS : Tryd.prog.cellsOf 25 = 1 := by kernel_rfl
theorem cLR : Tryd.prog.cellsOf 26 = 1 := by kernel_rfl

theorem open_raw {n : Nat} {cs : List Value} {z : DataW H × List MemPlace} (h : DataW.trod enc Tryd.prog W base spare held n 71 cs = some z) (hw : Light 71 z.1) : ∃ x, RRaw W cs x := by
  obtain ⟨xs, m, _, rfl, hcl, hxl, hf⟩ := DataW.trod_struct Tryd.underlying71 h
  rw [cellsRaw] at hcl
  obtain ⟨u0, u1, u2, u3, rfl⟩ := list4 hcl
  obtain ⟨z0, h0, w0⟩ := fld Tryd.underlying71 hw hxl hf (i := 0) rfl
  obtain ⟨z1, h1, w1⟩ := fld Tryd.underlying71 hw hxl hf (i := 1) rfl
  obtain ⟨z2, h2, w2⟩ := fld Tryd.underlying71 hw hxl hf (i := 2) rfl
  obtain ⟨z3, h3, w3⟩ := fld Tryd.underlying71 hw hxl hf (i := 3) rfl
  replace h0 : DataW.trod enc Tryd.prog W base spare held m 3 ((List.drop 0 [u0, u1, u2, u3]).take (Tryd.prog.cellsOf 3)) = some z0 := h0
  replace h1 : DataW.trod enc Tryd.prog W base spare held m 3 ((List.drop 1 [u0, u1, u2, u3]).take (Tryd.prog.cellsOf 3)) = some z1 := h1
  replace h2 : DataW.trod enc Tryd.prog W base spare held m 22 ((List.drop 2 [u0, u1, u2, u3]).take (Tryd.prog.cellsOf 22)) = some z2 := h2
  replace h3 : DataW.trod enc Tryd.prog W base spare held m 9 ((List.drop 3 [u0, u1, u2, u3]).take (Tryd.prog.cellsOf 9)) = some z3 := h3
  rw [c3] at h0 h1
  rw [c22] at h2
  rw [c9] at h3
  obtain ⟨a, e0, _, wa⟩ := DataW.trod_int Tryd.underlying3 h0
  obtain ⟨b, e1, _, wb⟩ := DataW.trod_int Tryd.underlying3 h1
  obtain ⟨c, e2, _, wc⟩ := DataW.trod_int Tryd.underlying22 h2
  obtain ⟨d, e3, _, wd⟩ := DataW.trod_string Tryd.underlying9 h3
  have ld := light_string h3 (by simpa using e3) w3
  simp at e0 e1 e2 e3
  subst e0 e1 e2 e3
  have ba := bounds_i64 wa
  have bb := bounds_i64 wb
  have bc := bounds_u64 wc
  exact ⟨⟨a, b, c, d⟩, rfl, ba.1, ba.2, bb.1, bb.2, bc.1, bc.2, ld⟩

theorem open_value : ∀ (n : Nat) (cs : List Value) (z : DataW H × List MemPlace), DataW.trod enc Tryd.prog W base spare held n 28 cs = some z → Light 28 z.1 → ∃ x : VT n, RVal n W cs x := by
  intro n
  induction n using Nat.strongRecOn with
  | _ n ih =>
    intro cs z h hw
    obtain ⟨xs, m, rfl, rfl, hcl, hxl, hf⟩ := DataW.trod_struct Tryd.underlying28 h
    rw [cellsValue] at hcl
    obtain ⟨u0, u1, u2, u3, u4, u5, u6, rfl⟩ := list7 hcl
    obtain ⟨z0, h0, q0⟩ := fld Tryd.underlying28 hw hxl hf (i := 0) rfl
    obtain ⟨z1, h1, q1⟩ := fld Tryd.underlying28 hw hxl hf (i := 1) rfl
    obtain ⟨z2, h2, q2⟩ := fld Tryd.underlying28 hw hxl hf (i := 2) rfl
    obtain ⟨z3, h3, q3⟩ := fld Tryd.underlying28 hw hxl hf (i := 3) rfl
    obtain ⟨z4, h4, q4⟩ := fld Tryd.underlying28 hw hxl hf (i := 4) rfl
    obtain ⟨z5, h5, q5⟩ := fld Tryd.underlying28 hw hxl hf (i := 5) rfl
    obtain ⟨z6, h6, q6⟩ := fld Tryd.underlying28 hw hxl hf (i := 6) rfl
    replace h0 : DataW.trod enc Tryd.prog W base spare held m 3 ((List.drop 0 [u0, u1, u2, u3, u4, u5, u6]).take (Tryd.prog.cellsOf 3)) = some z0 := h0
    rw [c3] at h0
    replace h1 : DataW.trod enc Tryd.prog W base spare held m 22 ((List.drop 1 [u0, u1, u2, u3, u4, u5, u6]).take (Tryd.prog.cellsOf 22)) = some z1 := h1
    rw [c22] at h1
    replace h2 : DataW.trod enc Tryd.prog W base spare held m 9 ((List.drop 2 [u0, u1, u2, u3, u4, u5, u6]).take (Tryd.prog.cellsOf 9)) = some z2 := h2
    rw [c9] at h2
    replace h3 : DataW.trod enc Tryd.prog W base spare held m 23 ((List.drop 3 [u0, u1, u2, u3, u4, u5, u6]).take (Tryd.prog.cellsOf 23)) = some z3 := h3
    rw [cLV] at h3
    replace h4 : DataW.trod enc Tryd.prog W base spare held m 24 ((List.drop 4 [u0, u1, u2, u3, u4, u5, u6]).take (Tryd.prog.cellsOf 24)) = some z4 := h4
    rw [cLP] at h4
    replace h5 : DataW.trod enc Tryd.prog W base spare held m 25 ((List.drop 5 [u0, u1, u2, u3, u4, u5, u6]).take (Tryd.prog.cellsOf 25)) = some z5 := h5
    rw [cLS] at h5
    replace h6 : DataW.trod enc Tryd.prog W base spare held m 26 ((List.drop 6 [u0, u1, u2, u3, u4, u5, u6]).take (Tryd.prog.cellsOf 26)) = some z6 := h6
    rw [cLR] at h6
    obtain ⟨a, e0, _, wa⟩ := DataW.trod_int Tryd.underlying3 h0
    obtain ⟨b, e1, _, wb⟩ := DataW.trod_int Tryd.underlying22 h1
    obtain ⟨c, e2, _, wc⟩ := DataW.trod_string Tryd.underlying9 h2
    have lc := light_string h2 (by simpa using e2) q2
    simp at e0 e1 e2
    subst e0 e1 e2
    simp only [List.drop_succ_cons, List.drop_zero, List.take_succ_cons, List.take_zero] at h3 h4 h5 h6
    have val : ∀ k, k < m → ∀ cs z, DataW.trod enc Tryd.prog W base spare held k 28 cs = some z → Light 28 z.1 → ∃ x : VT m, RVal m W cs x := fun k hk cs z hz hw => by
      obtain ⟨x, hx⟩ := ih k (by omega) cs z hz hw
      exact hx.upTo m (by omega)
    have pair : ∀ k, k < m → ∀ cs z, DataW.trod enc Tryd.prog W base spare held k 44 cs = some z → Light 44 z.1 → ∃ y : VT m × VT m, ∃ c1 c2, cs = c1 ++ c2 ∧ RVal m W c1 y.1 ∧ RVal m W c2 y.2 := fun k hk cs z hz hw => by
      obtain ⟨xs, q, rfl, rfl, hcl, hxl, hf⟩ := DataW.trod_struct Tryd.underlying44 hz
      rw [cellsPair] at hcl
      obtain ⟨y0, g0, q0⟩ := fld Tryd.underlying44 hw hxl hf (i := 0) rfl
      obtain ⟨y1, g1, q1⟩ := fld Tryd.underlying44 hw hxl hf (i := 1) rfl
      replace g0 : DataW.trod enc Tryd.prog W base spare held q 28 ((cs.drop 0).take (Tryd.prog.cellsOf 28)) = some y0 := g0
      replace g1 : DataW.trod enc Tryd.prog W base spare held q 28 ((cs.drop 7).take (Tryd.prog.cellsOf 28)) = some y1 := g1
      rw [cellsValue] at g0 g1
      obtain ⟨x0, r0⟩ := val q (by omega) _ _ g0 q0
      obtain ⟨x1, r1⟩ := val q (by omega) _ _ g1 q1
      refine ⟨(x0, x1), _, _, ?_, r0, r1⟩
      rw [List.drop_zero, List.take_of_length_le (l := cs.drop 7) (by simp; omega), List.take_append_drop]
    have slot : ∀ k, k < m → ∀ cs z, DataW.trod enc Tryd.prog W base spare held k 48 cs = some z → Light 48 z.1 → ∃ y : Int × VT m, ∃ c2, cs = .int .i64 y.1 :: c2 ∧ (-9223372036854775808 ≤ y.1 ∧ y.1 ≤ 9223372036854775807) ∧ RVal m W c2 y.2 := fun k hk cs z hz hw => by
      obtain ⟨xs, q, rfl, rfl, hcl, hxl, hf⟩ := DataW.trod_struct Tryd.underlying48 hz
      rw [cellsSlot] at hcl
      obtain ⟨y0, g0, q0⟩ := fld Tryd.underlying48 hw hxl hf (i := 0) rfl
      obtain ⟨y1, g1, q1⟩ := fld Tryd.underlying48 hw hxl hf (i := 1) rfl
      replace g0 : DataW.trod enc Tryd.prog W base spare held q 3 ((cs.drop 0).take (Tryd.prog.cellsOf 3)) = some y0 := g0
      replace g1 : DataW.trod enc Tryd.prog W base spare held q 28 ((cs.drop 1).take (Tryd.prog.cellsOf 28)) = some y1 := g1
      rw [c3] at g0
      rw [cellsValue] at g1
      obtain ⟨n0, e0, _, w0⟩ := DataW.trod_int Tryd.underlying3 g0
      obtain ⟨x1, r1⟩ := val q (by omega) _ _ g1 q1
      have b0 := bounds_i64 w0
      cases cs with
      | nil => simp at hcl
      | cons c0 cs =>
        simp at e0
        subst e0
        refine ⟨(n0, x1), cs, rfl, b0, ?_⟩
        simp only [List.drop_succ_cons, List.drop_zero] at r1
        rw [List.take_of_length_le (by simp at hcl; omega)] at r1
        exact r1
    obtain ⟨m', rfl⟩ : ∃ m', m = m' + 1 := by
      cases m with
      | zero => simp [DataW.trod] at h3
      | succ m' => exact ⟨m', rfl⟩
    obtain ⟨l1, g1⟩ := open_row Tryd.underlying23 cellsValue (by decide) (of_decide_eq_true (by kernel_rfl)) h3 q3 (fun cs z hz hw => val m' (by omega) cs z hz hw)
    obtain ⟨l2, g2⟩ := open_row (R := fun w cs (y : VT (m' + 1) × VT (m' + 1)) => ∃ c1 c2, cs = c1 ++ c2 ∧ RVal (m' + 1) w c1 y.1 ∧ RVal (m' + 1) w c2 y.2) Tryd.underlying24 cellsPair (by decide) (of_decide_eq_true (by kernel_rfl)) h4 q4 (fun cs z hz hw => pair m' (by omega) cs z hz hw)
    obtain ⟨l3, g3⟩ := open_row (R := fun w cs (y : Int × VT (m' + 1)) => ∃ c2, cs = .int .i64 y.1 :: c2 ∧ (-9223372036854775808 ≤ y.1 ∧ y.1 ≤ 9223372036854775807) ∧ RVal (m' + 1) w c2 y.2) Tryd.underlying25 cellsSlot (by decide) (of_decide_eq_true (by kernel_rfl)) h5 q5 (fun cs z hz hw => slot m' (by omega) cs z hz hw)
    obtain ⟨l4, g4⟩ := open_row Tryd.underlying26 cellsRaw (by decide) (of_decide_eq_true (by kernel_rfl)) h6 q6 (fun cs z hz hw => open_raw hz hw)
    have ba := bounds_i64 wa
    have bb := bounds_u64 wb
    exact ⟨({ kind := a, bits := b, text := c, list := l1, pairs := l2, slots := l3, raws := l4 } : VS (VT (m' + 1))), u3, u4, u5, u6, rfl, ⟨ba.1, ba.2, bb.1, bb.2, lc⟩, g1, g2, g3, g4⟩
end
end Go.Proofs.YtlgpoapedgodoaaDoor
