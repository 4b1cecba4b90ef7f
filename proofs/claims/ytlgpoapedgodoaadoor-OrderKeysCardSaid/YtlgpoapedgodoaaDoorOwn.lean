/- Bytes appended to a slice of the call's own. -/
import Derived.Laws.AppendOwn
import Derived.Laws.OwnMore
import Derived.Laws.BytesArg
import Derived.Test.YtlgpoapedgodoaaDoorRow
namespace Go.Proofs.YtlgpoapedgodoaaDoor
open Go.RowKit

/-- A slice value that owns these bytes, in a block from base on. -/
def OwnB (base : Nat) (v : Value) (xs : List Int) (w : World) : Prop := w.ownsRow base 5 1 v xs.length (xs.map (Value.int .u8))

theorem OwnB.nil (base : Nat) (w : World) : OwnB base (.slice none 0 0) [] w := ⟨rfl, .inl ⟨rfl, rfl⟩⟩
theorem OwnB.lit (base : Nat) (w : World) (y : Int) (hb : base ≤ w.heap.size) : OwnB base (.slice (some ⟨w.heap.size, 0, none⟩) 1 1) [y] (w.alloc (.cells #[.int .u8 y] 5)) :=
  ⟨rfl, .inr ⟨w.heap.size, 1, #[.int .u8 y], rfl, hb, blk_new w _, Nat.le_refl _, by decide, rfl, rfl⟩⟩

theorem OwnB.keep {base : Nat} {v : Value} {xs : List Int} {w w' : World} (h : OwnB base v xs w) (hb : Below w.heap.size w w') : OwnB base v xs w' := owns_keep h hb
theorem OwnB.block {base : Nat} {v : Value} {xs : List Int} {w : World} (h : OwnB base v xs w) : ∀ k, v.ownBlock = some k → base ≤ k := by
  intro k hk
  rcases h.2 with ⟨rfl, _⟩ | ⟨g, cap, cur, rfl, hg, _⟩
  · cases hk
  · simp [Value.ownBlock] at hk; omega

theorem infoByte : (Tryd.prog.info? 5).map (fun i => (i.zero, i.size, i.bytes)) = some (some (.int .u8 0), 1, 1) := by kernel_rfl

theorem appB {ops : Array Oper} {rest : List Oper} {o : Oper} {a : Act} {Q : Exit → Act → World → Prop} {w : World} (ys : List Int) (hgd : o.guard = none) (s x : Operand)
    (ho : o.op = .call { callee := .builtin .append, args := #[s, x], argTypes := #[51, 51] }) (base : Nat) (v : Value) (xs : List Int) (hs : a.eval s = v) (hown : OwnB base v xs w) (n : Nat) (hn : n = w.heap.size)
    (hx : a.eval x = .slice (some ⟨n, 0, none⟩) ys.length ys.length) (hlen : xs.length + ys.length ≤ 140737488355328) (hb : base ≤ w.heap.size)
    (h : ∀ v' w', OwnB base v' (xs ++ ys) w' → Below base w w' → w.heap.size < w'.heap.size → wpList Tryd.prog ops Q rest (a.put o.dst v') w') :
    wpList Tryd.prog ops Q (o :: rest) a (w.alloc (.cells (ys.map (Value.int .u8)).toArray 5)) := by
  subst hn
  obtain ⟨i0, hi, hz0, hz1, hz2⟩ := info_parts infoByte
  refine wpList_append_own _ hgd s x 51 ho base 5 i0 (.int .u8 0) 1 1 Tryd.underlying51 hi hz0 hz1 hz2 rfl (by decide) v xs.length (xs.map (Value.int .u8)) hs
    (hown.keep ((Below.refl _ _).alloc (Nat.le_refl _) _)) ⟨w.heap.size, 0, none⟩ ys.length ys.length (ys.map (Value.int .u8)) hx (by simp) (fun j u hj => ?_) (fun u hu => ?_) (by unfold maxLen; omega) (by omega) (by simp; omega) ?_
  · have e : (⟨w.heap.size, 0, none⟩ : Addr).add j = ⟨w.heap.size, j, none⟩ := by unfold Addr.add; split <;> simp_all
    rw [e]
    exact blk_cell (blk_new w _) j (by rw [← Array.getElem?_toList]; simpa using hj)
  · obtain ⟨y, _, rfl⟩ := List.mem_map.1 hu
    rfl
  · intro v' w' hown' hgrow _
    refine h v' w' ?_ ?_ ?_
    · unfold OwnB
      rw [List.length_append, List.map_append]
      exact hown'
    · exact (((Below.refl base w).alloc hb _)).grown hgrow (by simp; omega) hown.block
    · have := hgrow.size
      simp at this
      omega

theorem appB1 {ops : Array Oper} {rest : List Oper} {o : Oper} {a : Act} {Q : Exit → Act → World → Prop} {w : World} (y : Int) (hgd : o.guard = none) (s x : Operand)
    (ho : o.op = .call { callee := .builtin .append, args := #[s, x], argTypes := #[51, 51] }) (base : Nat) (v : Value) (xs : List Int) (hs : a.eval s = v) (hown : OwnB base v xs w) (n : Nat) (hn : n = w.heap.size)
    (hx : a.eval x = .slice (some ⟨n, 0, none⟩) 1 1) (hlen : xs.length + 1 ≤ 140737488355328) (hb : base ≤ w.heap.size)
    (h : ∀ v' w', OwnB base v' (xs ++ [y]) w' → Below base w w' → w.heap.size < w'.heap.size → wpList Tryd.prog ops Q rest (a.put o.dst v') w') :
    wpList Tryd.prog ops Q (o :: rest) a (w.alloc (.cells #[.int .u8 y] 5)) :=
  appB [y] hgd s x ho base v xs hs hown n hn hx hlen hb h
theorem appB2 {ops : Array Oper} {rest : List Oper} {o : Oper} {a : Act} {Q : Exit → Act → World → Prop} {w : World} (y z : Int) (hgd : o.guard = none) (s x : Operand)
    (ho : o.op = .call { callee := .builtin .append, args := #[s, x], argTypes := #[51, 51] }) (base : Nat) (v : Value) (xs : List Int) (hs : a.eval s = v) (hown : OwnB base v xs w) (n : Nat) (hn : n = w.heap.size)
    (hx : a.eval x = .slice (some ⟨n, 0, none⟩) 2 2) (hlen : xs.length + 2 ≤ 140737488355328) (hb : base ≤ w.heap.size)
    (h : ∀ v' w', OwnB base v' (xs ++ [y, z]) w' → Below base w w' → w.heap.size < w'.heap.size → wpList Tryd.prog ops Q rest (a.put o.dst v') w') :
    wpList Tryd.prog ops Q (o :: rest) a (w.alloc (.cells #[.int .u8 y, .int .u8 z] 5)) :=
  appB [y, z] hgd s x ho base v xs hs hown n hn hx hlen hb h

/-- string(b) of such a slice. -/
theorem OwnB.str {base : Nat} {v : Value} {xs : List Int} {w : World} (h : OwnB base v xs w) : (convert 51 9 v).run Tryd.prog w = .ok (.string (strOfNums xs)) w := by
  obtain ⟨hl, h⟩ := h
  rcases h with ⟨rfl, hn⟩ | ⟨g, cap, cur, rfl, _, hh, hc, _, hs, ht⟩
  · have : xs = [] := List.length_eq_zero_iff.1 hn
    subst this
    exact run_convert_bytes_nil w _ _ Tryd.underlying51 Tryd.underlying5 0 0 _ Tryd.underlying9
  · refine run_convert_bytes_arg w _ _ Tryd.underlying51 Tryd.underlying5 g 0 xs.length cap xs rfl (fun i hi => ?_) _ Tryd.underlying9
    rw [Nat.zero_add]
    refine blk_cell hh i ?_
    have h1 : (xs.map (Value.int .u8))[i]? = some (.int .u8 (xs.getD i 0)) := by
      rw [List.getElem?_map, List.getElem?_eq_getElem hi]
      simp [List.getD, hi]
    rw [← ht, List.getElem?_take] at h1
    rw [← Array.getElem?_toList]
    split at h1
    · exact h1
    · cases h1
end Go.Proofs.YtlgpoapedgodoaaDoor
