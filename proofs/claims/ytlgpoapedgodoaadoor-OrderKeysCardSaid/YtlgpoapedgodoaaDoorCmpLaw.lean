/- How values stand: the plain law on trees. -/
import Derived.Test.YtlgpoapedgodoaaDoorVal
import Derived.Test.YtlgpoapedgodoaaDoorCmpC
namespace Go.Proofs.YtlgpoapedgodoaaDoor

/-- The first that is not zero. -/
def orI (a b : Int) : Int := if a = 0 then b else a

/-- Lists: the first difference decides, then the lengths. -/
def cmpL {α : Type} (f : α → α → Int) : List α → List α → Int
  | [], [] => 0
  | [], _ :: _ => -1
  | _ :: _, [] => 1
  | a :: l, b :: m => orI (f a b) (cmpL f l m)

def cmpR (a b : RawT) : Int := orI (cmpI a.num b.num) (orI (cmpI a.wire b.wire) (orI (cmpI a.bits b.bits) (cmpT a.data b.data)))
def cmpP {α : Type} (f : α → α → Int) (a b : α × α) : Int := orI (f a.1 b.1) (f a.2 b.2)
def cmpS {α : Type} (f : α → α → Int) (a b : Int × α) : Int := orI (cmpI a.1 b.1) (f a.2 b.2)

/-- One level. -/
def cmpN {α : Type} (f : α → α → Int) (x y : VS α) : Int :=
  if x.kind ≠ y.kind then cmpI x.kind y.kind
  else if 1 ≤ x.kind ∧ x.kind ≤ 9 then scalC x.kind x.bits x.text y.bits y.text
  else if x.kind = 11 then cmpL f x.list y.list
  else if x.kind = 12 then cmpL (cmpP f) x.pairs y.pairs
  else if x.kind = 10 then orI (cmpL (cmpS f) x.slots y.slots) (cmpL cmpR x.raws y.raws)
  else 0

def cmpV : (n : Nat) → VT n → VT n → Int
  | 0, _, _ => 0
  | n + 1, x, y => cmpN (cmpV n) x y

theorem cmpL_drop {α : Type} (f : α → α → Int) : ∀ (k : Nat) (l m : List α), k < l.length → k < m.length → ∀ a b, l[k]? = some a → m[k]? = some b →
    cmpL f (l.drop k) (m.drop k) = orI (f a b) (cmpL f (l.drop (k + 1)) (m.drop (k + 1)))
  | 0, a :: l, b :: m, _, _, a', b', h1, h2 => by
    simp at h1 h2; subst h1; subst h2; rfl
  | k + 1, a :: l, b :: m, h, h', a', b', h1, h2 => by
    simp only [List.length_cons] at h h'
    simp only [List.drop_succ_cons]
    exact cmpL_drop f k l m (by omega) (by omega) a' b' (by simpa using h1) (by simpa using h2)

theorem cmpL_end {α : Type} (f : α → α → Int) (k : Nat) (l m : List α) (h : k = l.length) (h' : k ≤ m.length) : cmpL f (l.drop k) (m.drop k) = if l.length < m.length then -1 else 0 := by
  subst h
  rw [List.drop_of_length_le (Nat.le_refl _)]
  cases e : m.drop l.length with
  | nil =>
    have := congrArg List.length e
    simp at this
    rw [if_neg (by omega)]; rfl
  | cons b r =>
    have := congrArg List.length e
    simp at this
    rw [if_pos (by omega)]; rfl

theorem cmpL_more {α : Type} (f : α → α → Int) (k : Nat) (l m : List α) (h : k < l.length) (h' : k = m.length) : cmpL f (l.drop k) (m.drop k) = 1 := by
  subst h'
  rw [List.drop_of_length_le (l := m) (Nat.le_refl _)]
  cases e : l.drop m.length with
  | nil =>
    have := congrArg List.length e
    simp at this
    omega
  | cons b r => rfl

theorem orI_ne {a b : Int} (h : a ≠ 0) : orI a b = a := by simp [orI, h]
theorem orI_zero {b : Int} : orI 0 b = b := by simp [orI]

theorem RowAt.form {α : Type} {k : Nat} {R : World → List Value → α → Prop} {w : World} {v : Value} {xs : List α} (h : RowAt k R w v xs) : ∃ ao l c, v = .slice ao l c := by
  obtain ⟨ao, c, hv, _⟩ := h
  exact ⟨_, _, _, hv⟩

/-- Every reading has seven cells. -/
theorem RVal.seven {n : Nat} {w : World} {cs : List Value} {x : VT n} (h : RVal n w cs x) :
    ∃ k z t d1 l1 c1 d2 l2 c2 d3 l3 c3 d4 l4 c4, cs = [.int .i64 k, .int .u64 z, .string t, .slice d1 l1 c1, .slice d2 l2 c2, .slice d3 l3 c3, .slice d4 l4 c4] := by
  cases n with
  | zero => exact h.elim
  | succ n =>
    obtain ⟨l, p, s, r, hcs, _, h1, h2, h3, h4⟩ := h
    obtain ⟨d1, l1, c1, rfl⟩ := h1.form
    obtain ⟨d2, l2, c2, rfl⟩ := h2.form
    obtain ⟨d3, l3, c3, rfl⟩ := h3.form
    obtain ⟨d4, l4, c4, rfl⟩ := h4.form
    exact ⟨_, _, _, _, _, _, _, _, _, _, _, _, _, _, _, hcs⟩
end Go.Proofs.YtlgpoapedgodoaaDoor
