/- Plain laws of policies, budgets and pauses: what the program and the reference compute, as plain functions of integers. -/
import Derived.Below
import Derived.Laws.BitsLemmas
namespace Go.Proofs.Ytmihbfknhflfiaa

/-- The lowest bit. -/
theorem and_one_i64 (n : Int) : bits .and .i64 n 1 = n % 2 := by
  have h1 : (BitVec.ofInt 64 1).toNat = 2 ^ 1 - 1 := by decide
  have key : (BitVec.ofInt 64 n &&& BitVec.ofInt 64 1).toNat = (n % ((2 ^ 64 : Nat) : Int)).toNat % 2 ^ 1 := by
    rw [BitVec.toNat_and, BitVec.toNat_ofInt, h1, Nat.and_two_pow_sub_one_eq_mod]
  show IntKind.i64.wrap ((BitVec.ofInt 64 n &&& BitVec.ofInt 64 1).toNat : Nat) = n % 2
  rw [key, IntKind.wrap_i64]
  omega

/-- What a call that changes no old memory leaves: every old cell and every old mark reads as before. -/
theorem bcell {W w1 : World} (hb : RowKit.Below W.heap.size W w1) : (∀ b o, b < W.heap.size → w1.cell? ⟨b, o, none⟩ = W.cell? ⟨b, o, none⟩) ∧ (∀ b o, b < W.heap.size → w1.frozen? ⟨b, o, none⟩ = W.frozen? ⟨b, o, none⟩) :=
  ⟨fun b o h => hb.cell (p := ⟨b, o, none⟩) h, fun b o h => hb.frozen (p := ⟨b, o, none⟩) h⟩

theorem held_cell {w' w'' : World} (hb : RowKit.Below w'.heap.size w' w'') {b o : Nat} {v : Value} (hs : b + 1 ≤ w'.heap.size) (h : w'.cell? ⟨b, o, none⟩ = some v) : w''.cell? ⟨b, o, none⟩ = some v :=
  (hb.cell (p := ⟨b, o, none⟩) hs).trans h
theorem held_size {w' w'' : World} (hb : RowKit.Below w'.heap.size w' w'') {b : Nat} (hs : b ≤ w'.heap.size) : b ≤ w''.heap.size := Nat.le_trans hs hb.size
theorem held_below {w w' w'' : World} (hb : RowKit.Below w'.heap.size w' w'') {b : Nat} (hs : b + 1 ≤ w'.heap.size) (h : RowKit.Below b w w') : RowKit.Below b w w'' := h.trans (hb.mono (Nat.le_of_succ_le hs))

/-- A valid policy. -/
def okP (a b c d : Int) : Prop := 1 ≤ a ∧ a ≤ 10 ∧ 1 ≤ b ∧ b ≤ c ∧ c ≤ 1099511627776 ∧ 0 ≤ d ∧ d < 16384 ∧ d % 2 = 0
instance (a b c d : Int) : Decidable (okP a b c d) := by unfold okP; infer_instance
/-- A valid budget. -/
def okB (t m g : Int) : Prop := m ≤ 1000000 ∧ 0 ≤ t ∧ t ≤ m ∧ 0 ≤ g ∧ g ≤ 1000
instance (t m g : Int) : Decidable (okB t m g) := by unfold okB; infer_instance

/-- A pause that is doubled r times more, up to c. -/
def dbl (c : Int) : Nat → Int → Int
  | 0, x => min x c
  | r + 1, x => dbl c r (2 * x)

theorem dbl_cap (c : Int) (hc : 1 ≤ c) (r : Nat) : ∀ x, c ≤ x → dbl c r x = c := by
  induction r with
  | zero => intro x h; simp only [dbl]; omega
  | succ r ih => intro x h; simp only [dbl]; exact ih _ (by omega)

theorem dbl_min (c : Int) (hc : 1 ≤ c) (r : Nat) (x : Int) (_hx : 1 ≤ x) : dbl c r (min (2 * x) c) = dbl c r (2 * x) := by
  by_cases h : 2 * x ≤ c
  · rw [Int.min_eq_left h]
  · rw [dbl_cap c hc r (2 * x) (by omega), dbl_cap c hc r _ (by omega)]

theorem dbl_le (c : Int) (r : Nat) : ∀ x, dbl c r x ≤ c := by
  induction r with
  | zero => intro x; simp only [dbl]; omega
  | succ r ih => intro x; exact ih _

theorem dbl_ge (c : Int) (r : Nat) : ∀ x, 1 ≤ x → x ≤ c → x ≤ dbl c r x := by
  induction r with
  | zero => intro x _ h; simp only [dbl]; omega
  | succ r ih =>
    intro x h0 h
    simp only [dbl]
    by_cases h2 : 2 * x ≤ c
    · have := ih (2 * x) (by omega) h2; omega
    · rw [dbl_cap c (by omega) r _ (by omega)]; exact h

/-- One doubling more. -/
theorem dbl_succ (c : Int) (hc : 1 ≤ c) (r : Nat) : ∀ x, 1 ≤ x → dbl c (r + 1) x = min c (2 * dbl c r x) := by
  induction r with
  | zero => intro x h; simp only [dbl]; omega
  | succ r ih => intro x h; rw [dbl, ih (2 * x) (by omega), dbl]

/-- After so many doublings that the cap is surely reached. -/
theorem dbl_pow (c : Int) (hc : 1 ≤ c) (k : Nat) : ∀ (r : Nat) (x : Int), 1 ≤ x → c ≤ x * 2 ^ k → k ≤ r → dbl c r x = c := by
  induction k with
  | zero => intro r x _ h _; exact dbl_cap c hc r x (by simpa using h)
  | succ k ih =>
    intro r x hx h hr
    obtain ⟨r', rfl⟩ : ∃ r', r = r' + 1 := ⟨r - 1, by omega⟩
    rw [dbl]
    exact ih r' (2 * x) (by omega) (by rw [Int.pow_succ] at h; rw [Int.mul_comm 2 x, Int.mul_assoc, Int.mul_comm 2 (2 ^ k)]; exact h) (by omega)

/-- Pause. -/
def pauseOf (a b c d n : Int) : Int := if n < 1 ∨ ¬ okP a b c d then 0 else dbl c (n - 1).toNat b

/-- Is a code listed? -/
def listedB (d code : Int) : Bool := decide (0 ≤ code ∧ code ≤ 13 ∧ d / 2 ^ code.toNat % 2 = 1)

/-- May. -/
def mayB (a b c d t m g n code : Int) (safe : Bool) : Bool :=
  decide (okP a b c d ∧ okB t m g ∧ 1 ≤ n ∧ n < a) && listedB d code && (safe || decide (code = 12)) && decide (1000 ≤ t)
end Go.Proofs.Ytmihbfknhflfiaa
