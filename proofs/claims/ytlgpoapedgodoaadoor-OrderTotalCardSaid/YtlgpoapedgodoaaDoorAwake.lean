/- awake: what the statements ask beside. -/
import Derived.Test.YtlgpoapedgodoaaDoorKeyB
import Derived.Test.YtlgpoapedgodoaaDoorOcmp
import Derived.Deep.DeepCutAuto
namespace Go.Proofs.YtlgpoapedgodoaaDoor
open Go.RowKit
set_option linter.unusedVariables false
set_option linter.unusedSimpArgs false

theorem heap_alloc_at (w : World) (o : Obj) (n : Nat) : (w.alloc o).heap[n]? = if n = w.heap.size then some o else w.heap[n]? := by
  show (w.heap.push o)[n]? = _
  rw [Array.getElem?_push]
theorem heap_drew_at (w : World) (n : Nat) : (w.drew).heap[n]? = w.heap[n]? := rfl

/-- What the literals of the two lists leave in memory. -/
def ALit (g h n : Nat) (w : World) : Prop :=
  w.heap[g]? = some (.cells #[.int .i64 11, .int .u64 0, .string ⟨#[]⟩, .slice (some ⟨h, 0, none⟩) n n, .slice none 0 0, .slice none 0 0, .slice none 0 0] 28 (0, 0))
def ACut (w : World) (s3 s4 s8 s12 : Value) (wx : World) : Prop :=
  ∃ g3 g4 h3 h4 : Nat, s3 = .pointer (some ⟨g3, 0, none⟩) ∧ s4 = .pointer (some ⟨g4, 0, none⟩) ∧ s8 = .slice (some ⟨h3, 0, none⟩) 1 1 ∧ s12 = .slice (some ⟨h4, 0, none⟩) 2 2 ∧ ALit g3 h3 1 wx ∧ ALit g4 h4 2 wx ∧
    wx.heap[h3]? = some (.cells #[.int .i64 2, .int .u64 1, .string ⟨#[]⟩, .slice none 0 0, .slice none 0 0, .slice none 0 0, .slice none 0 0] 28 (0, 0)) ∧
    wx.heap[h4]? = some (.cells #[.int .i64 2, .int .u64 1, .string ⟨#[]⟩, .slice none 0 0, .slice none 0 0, .slice none 0 0, .slice none 0 0, .int .i64 2, .int .u64 2, .string ⟨#[]⟩, .slice none 0 0, .slice none 0 0, .slice none 0 0, .slice none 0 0] 28 (0, 0)) ∧
    Below w.heap.size w wx

/-- A literal as a tree. -/
def lit1 (z : Int) : VT 1 := ({ kind := 2, bits := z, text := ⟨#[]⟩, list := [], pairs := [], slots := [], raws := [] } : VS (VT 0))
def lit2 (l : List (VT 1)) : VT 2 := ({ kind := 11, bits := 0, text := ⟨#[]⟩, list := l, pairs := [], slots := [], raws := [] } : VS (VT 1))

theorem row_nil {α : Type} (k : Nat) (R : World → List Value → α → Prop) (w : World) : RowAt k R w (.slice none 0 0) ([] : List α) :=
  ⟨none, 0, rfl, Nat.le_refl _, ⟨Nat.zero_le _, Nat.zero_le _⟩, fun _ => rfl, fun a ha => by cases ha⟩
theorem lit1_reads (z : Int) (h0 : 0 ≤ z) (h1 : z ≤ 18446744073709551615) (w : World) : RVal 1 w [.int .i64 2, .int .u64 z, .string ⟨#[]⟩, .slice none 0 0, .slice none 0 0, .slice none 0 0, .slice none 0 0] (lit1 z) :=
  ⟨_, _, _, _, rfl, ⟨by show (-9223372036854775808 : Int) ≤ 2; decide, by show (2 : Int) ≤ 9223372036854775807; decide, h0, h1, Nat.zero_le _⟩, row_nil _ _ _, row_nil _ _ _, row_nil _ _ _, row_nil _ _ _⟩
theorem lit2_reads (l : List (VT 1)) (h n : Nat) (w : World) (hn : n = l.length) (hl : l.length ≤ 10) (hr : ∀ (i : Nat) x, l[i]? = some x → ∃ cs : List Value, cs.length = 7 ∧ (∀ (j : Nat) u, cs[j]? = some u → w.cell? ⟨h, 0 + (i * 7 + j), none⟩ = some u) ∧ RVal 1 w cs x) :
    RVal 2 w [.int .i64 11, .int .u64 0, .string ⟨#[]⟩, .slice (some ⟨h, 0, none⟩) n n, .slice none 0 0, .slice none 0 0, .slice none 0 0] (lit2 l) := by
  subst hn
  refine ⟨_, _, _, _, rfl, ⟨by show (-9223372036854775808 : Int) ≤ 11; decide, by show (11 : Int) ≤ 9223372036854775807; decide, by show (0 : Int) ≤ 0; decide, by show (0 : Int) ≤ 18446744073709551615; decide, Nat.zero_le _⟩, ?_, row_nil _ _ _, row_nil _ _ _, row_nil _ _ _⟩
  refine ⟨some ⟨h, 0, none⟩, l.length, rfl, Nat.le_refl _, ⟨by unfold maxLen; omega, by show l.length ≤ _; omega⟩, (fun x => by cases x), fun a ha => ?_⟩
  cases ha
  exact .inr ⟨h, 0, rfl, hr⟩

theorem awake_cmp (g3 g4 h3 h4 : Nat) (w : World) (hh3 : w.heap[h3]? = some (.cells #[.int .i64 2, .int .u64 1, .string ⟨#[]⟩, .slice none 0 0, .slice none 0 0, .slice none 0 0, .slice none 0 0] 28 (0, 0)))
    (hh4 : w.heap[h4]? = some (.cells #[.int .i64 2, .int .u64 1, .string ⟨#[]⟩, .slice none 0 0, .slice none 0 0, .slice none 0 0, .slice none 0 0, .int .i64 2, .int .u64 2, .string ⟨#[]⟩, .slice none 0 0, .slice none 0 0, .slice none 0 0, .slice none 0 0] 28 (0, 0))) :
    Calls Tryd.prog 13 #[.agg #[.int .i64 11, .int .u64 0, .string ⟨#[]⟩, .slice (some ⟨h3, 0, none⟩) 1 1, .slice none 0 0, .slice none 0 0, .slice none 0 0], .agg #[.int .i64 11, .int .u64 0, .string ⟨#[]⟩, .slice (some ⟨h4, 0, none⟩) 2 2, .slice none 0 0, .slice none 0 0, .slice none 0 0]] w
      fun e w' => e = .returned (.int .i64 (-1)) ∧ Below w.heap.size w w' := by
  have key : cmpV 2 (lit2 [lit1 1]) (lit2 [lit1 1, lit1 2]) = -1 := by decide +kernel
  rw [← key]
  refine ocmp_all 2 _ _ _ _ w ⟨_, _, _, _, _, _, _, _, _, _, _, _, _, _, _, rfl, lit2_reads [lit1 1] h3 1 w rfl (by decide) (fun i x hi => ?_)⟩ ⟨_, _, _, _, _, _, _, _, _, _, _, _, _, _, _, rfl, lit2_reads [lit1 1, lit1 2] h4 2 w rfl (by decide) (fun i x hi => ?_)⟩
  · match i, hi with
    | 0, hi =>
      simp at hi; subst hi
      refine ⟨_, rfl, fun j u hj => ?_, lit1_reads 1 (by decide) (by decide) w⟩
      exact blk_cell hh3 _ (by rw [← Array.getElem?_toList]; simpa using hj)
  · match i, hi with
    | 0, hi =>
      simp at hi; subst hi
      refine ⟨_, rfl, fun j u hj => ?_, lit1_reads 1 (by decide) (by decide) w⟩
      refine blk_cell hh4 _ ?_
      rw [← Array.getElem?_toList]
      have hj7 : j < 7 := (List.getElem?_eq_some_iff.1 hj).1
      simp only [Nat.zero_mul, Nat.zero_add]
      match j, hj7, hj with
      | 0, _, hj => exact hj
      | 1, _, hj => exact hj
      | 2, _, hj => exact hj
      | 3, _, hj => exact hj
      | 4, _, hj => exact hj
      | 5, _, hj => exact hj
      | 6, _, hj => exact hj
    | 1, hi =>
      simp at hi; subst hi
      refine ⟨_, rfl, fun j u hj => ?_, lit1_reads 2 (by decide) (by decide) w⟩
      refine blk_cell hh4 _ ?_
      rw [← Array.getElem?_toList]
      have hj7 : j < 7 := (List.getElem?_eq_some_iff.1 hj).1
      match j, hj7, hj with
      | 0, _, hj => exact hj
      | 1, _, hj => exact hj
      | 2, _, hj => exact hj
      | 3, _, hj => exact hj
      | 4, _, hj => exact hj
      | 5, _, hj => exact hj
      | 6, _, hj => exact hj

theorem awake_key (m : Int) (w : World) (hm : w.cell? ⟨0, 0, none⟩ = some (.int .i64 m)) :
    Calls Tryd.prog 10 #[.agg #[.int .i64 7, .int .u64 0, .string ⟨#[97, 0]⟩, .slice none 0 0, .slice none 0 0, .slice none 0 0, .slice none 0 0]] w
      fun e w' => e = .returned (.string ⟨#[7, 97, 0, 255, 0, 0]⟩) ∧ Below w.heap.size w w' := by
  have h := key_ok 7 0 ⟨#[97, 0]⟩ 0 0 0 0 0 0 0 0 none none none none ⟨by decide, by decide⟩ (by decide) (by decide) (by decide) (by decide) m w hm
  have e : keyT 7 0 ⟨#[97, 0]⟩ (noneB 0 0 0 0) = ⟨#[7, 97, 0, 255, 0, 0]⟩ := by decide +kernel
  rw [e] at h
  exact h

set_option maxRecDepth 8000 in
set_option maxHeartbeats 8000000 in
theorem awake_ok (m : Int) (w : World) (hm : w.cell? ⟨0, 0, none⟩ = some (.int .i64 m)) :
    Calls Tryd.prog 12 #[] w fun e w' => e = .returned (.bool true) ∧ Below w.heap.size w w' := by
  have HM := Lib.hid hm
  clear hm
  go_enter Tryd.func12, Tryd.ntmps12
  go_upto_region 2 with fail
  go_cut [3, 4, 8, 12] (fun s3 s4 s8 s12 wx => ACut w s3 s4 s8 s12 wx)
  case first =>
    go_region
    all_goals
      go_wp2_with fail
      go_meet
      refine ⟨_, _, _, _, rfl, rfl, rfl, rfl, ?_, ?_, ?_, ?_, by go_grown⟩
      · unfold ALit; simp only [heap_alloc_at, heap_drew_at, World.size_alloc]; repeat (first | rw [if_pos trivial] | rw [if_neg (by omega)])
      · unfold ALit; simp only [heap_alloc_at, heap_drew_at, World.size_alloc]; repeat (first | rw [if_pos trivial] | rw [if_neg (by omega)])
      · simp only [heap_alloc_at, heap_drew_at, World.size_alloc]; repeat (first | rw [if_pos trivial] | rw [if_neg (by omega)])
      · simp only [heap_alloc_at, heap_drew_at, World.size_alloc]; repeat (first | rw [if_pos trivial] | rw [if_neg (by omega)])
  case rest =>
    obtain ⟨g3, g4, h3, h4, rfl, rfl, rfl, rfl, hg3, hg4, hh3, hh4, hb⟩ := hcut
    obtain ⟨a0, a1, a2, a3, a4, a5, a6⟩ := cells7 hg3
    obtain ⟨b0, b1, b2, b3, b4, b5, b6⟩ := cells7 hg4
    have HB := Lib.hid hb
    have KC := awake_cmp g3 g4 h3 h4 wc hh3 hh4
    have HKC := Lib.hid KC
    clear hb KC hh3 hh4 hg3 hg4
    go_wp2_with fail
    refine calls_on HKC.out ?_
    intro w2 hb2
    have HB2 := Lib.hid (above HB.out hb2)
    clear hb2 a0 a1 a2 a3 a4 a5 a6 b0 b1 b2 b3 b4 b5 b6
    go_wp2_with fail
    refine calls_on (awake_key m w2 (held HB2.out HM.out)) ?_
    intro w3 hb3
    have HB3 := Lib.hid (above HB2.out hb3)
    clear hb3
    go_wp2_with fail
    go_ret
    exact ⟨rfl, HB3.out⟩
end Go.Proofs.YtlgpoapedgodoaaDoor
