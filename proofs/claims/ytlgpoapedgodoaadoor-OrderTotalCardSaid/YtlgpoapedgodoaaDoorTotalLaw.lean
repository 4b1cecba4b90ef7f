/- Comparing values is a total order: the plain law. -/
import Derived.Test.YtlgpoapedgodoaaDoorCmpLaw
namespace Go.Proofs.YtlgpoapedgodoaaDoor

/-- A total order, as a comparing function. -/
structure TO {α : Type} (f : α → α → Int) : Prop where
  anti : ∀ a b, f b a = - f a b
  trans : ∀ a b c, f a b ≤ 0 → f b c ≤ 0 → f a c = min (f a b) (f b c)
  lo : ∀ a b, -1 ≤ f a b
  hi : ∀ a b, f a b ≤ 1

theorem TO.const {α : Type} : TO (fun _ _ : α => (0 : Int)) := ⟨fun _ _ => rfl, fun _ _ _ _ _ => rfl, fun _ _ => by decide, fun _ _ => by decide⟩
theorem TO.pull {α β : Type} {f : α → α → Int} (h : TO f) (p : β → α) : TO (fun a b => f (p a) (p b)) :=
  ⟨fun _ _ => h.anti _ _, fun _ _ _ => h.trans _ _ _, fun _ _ => h.lo _ _, fun _ _ => h.hi _ _⟩

theorem TO.int : TO cmpI := by
  refine ⟨fun a b => ?_, fun a b c h1 h2 => ?_, fun a b => ?_, fun a b => ?_⟩
  · unfold cmpI; repeat' split
    all_goals omega
  · unfold cmpI at *; repeat' split at *
    all_goals omega
  · unfold cmpI; repeat' split
    all_goals omega
  · unfold cmpI; repeat' split
    all_goals omega

theorem TO.or {α : Type} {f g : α → α → Int} (hf : TO f) (hg : TO g) : TO (fun a b => orI (f a b) (g a b)) := by
  refine ⟨fun a b => ?_, fun a b c h1 h2 => ?_, fun a b => ?_, fun a b => ?_⟩
  · have := hf.anti a b; have := hg.anti a b
    unfold orI; repeat' split
    all_goals omega
  · have f1 := hf.lo a b; have f2 := hf.lo b c; have f3 := hf.trans a b c
    have g1 := hg.lo a b; have g2 := hg.lo b c; have g3 := hg.trans a b c
    simp only [orI] at *
    by_cases e1 : f a b = 0
    · rw [if_pos e1] at h1
      by_cases e2 : f b c = 0
      · rw [if_pos e2] at h2
        have e3 : f a c = 0 := by have := f3 (by omega) (by omega); omega
        rw [if_pos e1, if_pos e2, if_pos e3]
        exact g3 h1 h2
      · rw [if_neg e2] at h2
        have e3 : f a c = -1 := by have := f3 (by omega) (by omega); omega
        rw [if_pos e1, if_neg e2, if_neg (by omega)]
        omega
    · rw [if_neg e1] at h1
      by_cases e2 : f b c = 0
      · rw [if_pos e2] at h2
        have e3 : f a c = -1 := by have := f3 (by omega) (by omega); omega
        rw [if_neg e1, if_pos e2, if_neg (by omega)]
        omega
      · rw [if_neg e2] at h2
        have e3 : f a c = -1 := by have := f3 (by omega) (by omega); omega
        rw [if_neg e1, if_neg e2, if_neg (by omega)]
        omega
  · have := hf.lo a b; have := hg.lo a b
    simp only [orI]; split <;> omega
  · have := hf.hi a b; have := hg.hi a b
    simp only [orI]; split <;> omega

theorem cmpL_nil_le {α : Type} (f : α → α → Int) (m : List α) : cmpL f [] m ≤ 0 ∧ (cmpL f [] m = 0 ↔ m = []) ∧ -1 ≤ cmpL f [] m := by
  cases m <;> simp [cmpL]

theorem TO.list {α : Type} {f : α → α → Int} (hf : TO f) : TO (cmpL f) := by
  have lo : ∀ l m : List α, -1 ≤ cmpL f l m ∧ cmpL f l m ≤ 1 := by
    intro l
    induction l with
    | nil => intro m; cases m <;> simp [cmpL]
    | cons a l ih =>
      intro m
      cases m with
      | nil => simp [cmpL]
      | cons b m =>
        have := ih m; have := hf.lo a b; have := hf.hi a b
        simp only [cmpL, orI]; split <;> omega
  refine ⟨?_, ?_, fun l m => (lo l m).1, fun l m => (lo l m).2⟩
  · intro l
    induction l with
    | nil => intro m; cases m <;> rfl
    | cons a l ih =>
      intro m
      cases m with
      | nil => rfl
      | cons b m =>
        have := ih m; have := hf.anti a b
        simp only [cmpL, orI]; repeat' split
        all_goals omega
  · intro l
    induction l with
    | nil =>
      intro m n h1 h2
      cases m with
      | nil =>
        cases n with
        | nil => rfl
        | cons c n => rfl
      | cons b m =>
        cases n with
        | nil => simp [cmpL] at h2
        | cons c n =>
          have := (lo (b :: m) (c :: n)).1
          show (-1 : Int) = min (-1) _
          omega
    | cons a l ih =>
      intro m n h1 h2
      cases m with
      | nil => simp [cmpL] at h1
      | cons b m =>
        cases n with
        | nil => simp [cmpL] at h2
        | cons c n =>
          have f1 := hf.lo a b; have f2 := hf.lo b c; have f3 := hf.trans a b c
          have g1 := (lo l m).1; have g2 := (lo m n).1; have g3 := ih m n
          simp only [cmpL, orI] at *
          by_cases e1 : f a b = 0
          · rw [if_pos e1] at h1
            by_cases e2 : f b c = 0
            · rw [if_pos e2] at h2
              have e3 : f a c = 0 := by have := f3 (by omega) (by omega); omega
              rw [if_pos e1, if_pos e2, if_pos e3]
              exact g3 h1 h2
            · rw [if_neg e2] at h2
              have e3 : f a c = -1 := by have := f3 (by omega) (by omega); omega
              rw [if_pos e1, if_neg e2, if_neg (by omega)]
              omega
          · rw [if_neg e1] at h1
            by_cases e2 : f b c = 0
            · rw [if_pos e2] at h2
              have e3 : f a c = -1 := by have := f3 (by omega) (by omega); omega
              rw [if_neg e1, if_pos e2, if_neg (by omega)]
              omega
            · rw [if_neg e2] at h2
              have e3 : f a c = -1 := by have := f3 (by omega) (by omega); omega
              rw [if_neg e1, if_neg e2, if_neg (by omega)]
              omega

/-- Bytes. -/
def cmpB (a b : UInt8) : Int := cmpI (a.toNat : Int) (b.toNat : Int)
theorem TO.byte : TO cmpB := TO.int.pull (fun b : UInt8 => (b.toNat : Int))

theorem cmpB_self (a : UInt8) : cmpB a a = 0 := by simp [cmpB, cmpI]
theorem cmpB_zero {a b : UInt8} (h : cmpB a b = 0) : a = b := by
  unfold cmpB cmpI at h
  split at h
  · omega
  · split at h
    · omega
    · exact UInt8.toNat_inj.1 (by omega)

theorem less_cmp : ∀ l m : List UInt8, (Op.bytesLess l m = true ↔ cmpL cmpB l m = -1) ∧ (l = m ↔ cmpL cmpB l m = 0)
  | [], [] => by simp [Op.bytesLess, cmpL]
  | [], b :: m => by simp [Op.bytesLess, cmpL]
  | a :: l, [] => by simp [Op.bytesLess, cmpL]
  | a :: l, b :: m => by
    have ih := less_cmp l m
    have h0 := TO.byte.lo a b
    have h1 := TO.byte.hi a b
    have hlt : a < b ↔ cmpB a b = -1 := by
      rw [UInt8.lt_iff_toNat_lt]
      unfold cmpB cmpI
      constructor
      · intro h; rw [if_pos (by omega)]
      · intro h; split at h
        · omega
        · split at h <;> omega
    by_cases e : a = b
    · subst e
      have : ¬ a < a := by rw [UInt8.lt_iff_toNat_lt]; omega
      simp [Op.bytesLess, cmpL, cmpB_self, orI, this, ih]
    · have hne : cmpB a b ≠ 0 := fun h => e (cmpB_zero h)
      have e1 : cmpL cmpB (a :: l) (b :: m) = cmpB a b := by simp [cmpL, orI, hne]
      rw [e1]
      constructor
      · simp [Op.bytesLess, e, hlt]
      · simp [e, hne]

theorem cmpT_list (a b : ByteArray) : cmpT a b = cmpL cmpB a.toList b.toList := by
  have h := less_cmp a.toList b.toList
  have lo := TO.byte.list.lo a.toList b.toList
  have hi := TO.byte.list.hi a.toList b.toList
  unfold cmpT
  by_cases h1 : Op.bytesLess a.toList b.toList = true
  · rw [if_pos h1]; exact (h.1.1 h1).symm
  · rw [if_neg h1]
    by_cases h2 : a.toList = b.toList
    · rw [if_neg (by simp [h2]), h.2.1 h2]
    · rw [if_pos (by simp [h1, h2])]
      have : cmpL cmpB a.toList b.toList ≠ 0 := fun x => h2 (h.2.2 x)
      have : cmpL cmpB a.toList b.toList ≠ -1 := fun x => h1 (h.1.2 x)
      omega
theorem TO.text : TO cmpT := by
  have : cmpT = fun a b => cmpL cmpB a.toList b.toList := by funext a b; exact cmpT_list a b
  rw [this]
  exact TO.byte.list.pull ByteArray.toList

theorem TO.scal (k : Int) : TO (fun a b : Int × ByteArray => scalC k a.1 a.2 b.1 b.2) := by
  unfold scalC
  by_cases h1 : ¬ (1 ≤ k ∧ k ≤ 9)
  · simp only [if_pos h1]; exact TO.const
  simp only [if_neg h1]
  by_cases h2 : k = 7 ∨ k = 8
  · simp only [if_pos h2]; exact TO.text.pull (fun a : Int × ByteArray => a.2)
  simp only [if_neg h2]
  by_cases h3 : k = 2 ∨ k = 3
  · simp only [if_pos h3]; exact TO.int.pull (fun a : Int × ByteArray => RowKit.wrap64 a.1)
  simp only [if_neg h3]
  by_cases h4 : k = 6
  · simp only [if_pos h4]; exact TO.int.pull (fun a : Int × ByteArray => placeZ a.1)
  simp only [if_neg h4]; exact TO.int.pull (fun a : Int × ByteArray => a.1)

theorem TO.raw : TO cmpR := by
  unfold cmpR
  exact (TO.int.pull RawT.num).or ((TO.int.pull RawT.wire).or ((TO.int.pull RawT.bits).or (TO.text.pull RawT.data)))

theorem TO.byKind {α : Type} {kind : α → Int} {g : Int → α → α → Int} (hg : ∀ k, TO (g k)) : TO (fun x y => if kind x ≠ kind y then cmpI (kind x) (kind y) else g (kind x) x y) := by
  refine ⟨fun a b => ?_, fun a b c h1 h2 => ?_, fun a b => ?_, fun a b => ?_⟩
  · by_cases e : kind a = kind b
    · simp only [e, ne_eq, not_true_eq_false, if_false]; exact (hg _).anti a b
    · have e' : ¬ kind b = kind a := fun h => e h.symm
      simp only [e, e', ne_eq, not_false_eq_true, if_true]; exact TO.int.anti _ _
  · have t := TO.int.trans (kind a) (kind b) (kind c)
    have l1 := TO.int.lo (kind a) (kind b); have l2 := TO.int.lo (kind b) (kind c)
    have nz : ∀ x y : Int, x ≠ y → cmpI x y ≠ 0 := by
      intro x y h; unfold cmpI; split <;> (try split) <;> omega
    have self : ∀ x : Int, cmpI x x = 0 := by intro x; simp [cmpI]
    by_cases e1 : kind a = kind b
    · have k1 : ¬ (kind a ≠ kind b) := fun h => h e1
      by_cases e2 : kind b = kind c
      · have k2 : ¬ (kind b ≠ kind c) := fun h => h e2
        have k3 : ¬ (kind a ≠ kind c) := fun h => h (e1.trans e2)
        simp only [if_neg k1, if_neg k2, if_neg k3] at *
        rw [← e1] at h2 ⊢
        exact (hg _).trans a b c h1 h2
      · have k3 : kind a ≠ kind c := fun h => e2 (e1.symm.trans h)
        have n2 := nz _ _ e2
        have lo := (hg (kind a)).lo a b
        simp only [if_neg k1, if_pos (show kind b ≠ kind c from e2), if_pos k3] at *
        rw [e1] at h1 lo ⊢
        omega
    · have n1 := nz _ _ e1
      by_cases e2 : kind b = kind c
      · have k2 : ¬ (kind b ≠ kind c) := fun h => h e2
        have k3 : kind a ≠ kind c := fun h => e1 (h.trans e2.symm)
        have lo := (hg (kind b)).lo b c
        simp only [if_pos (show kind a ≠ kind b from e1), if_neg k2, if_pos k3] at *
        rw [← e2]
        omega
      · have n2 := nz _ _ e2
        simp only [if_pos (show kind a ≠ kind b from e1), if_pos (show kind b ≠ kind c from e2)] at *
        have t' := t h1 h2
        have e3 : kind a ≠ kind c := fun h => by rw [h, self] at t'; omega
        rw [if_pos e3]; exact t'
  · split
    · exact TO.int.lo _ _
    · exact (hg _).lo _ _
  · split
    · exact TO.int.hi _ _
    · exact (hg _).hi _ _

theorem TO.node {α : Type} {f : α → α → Int} (hf : TO f) : TO (cmpN f) := by
  have := TO.byKind (α := VS α) (kind := VS.kind) (g := fun k x y =>
    if 1 ≤ k ∧ k ≤ 9 then scalC k x.bits x.text y.bits y.text else if k = 11 then cmpL f x.list y.list else if k = 12 then cmpL (cmpP f) x.pairs y.pairs
    else if k = 10 then orI (cmpL (cmpS f) x.slots y.slots) (cmpL cmpR x.raws y.raws) else 0) (fun k => by
    by_cases h1 : 1 ≤ k ∧ k ≤ 9
    · simp only [if_pos h1]; exact (TO.scal k).pull (fun x : VS α => (x.bits, x.text))
    simp only [if_neg h1]
    by_cases h2 : k = 11
    · simp only [if_pos h2]; exact hf.list.pull VS.list
    simp only [if_neg h2]
    by_cases h3 : k = 12
    · simp only [if_pos h3]; exact (TO.list ((hf.pull Prod.fst).or (hf.pull Prod.snd))).pull VS.pairs
    simp only [if_neg h3]
    by_cases h4 : k = 10
    · simp only [if_pos h4]; exact ((TO.list ((TO.int.pull Prod.fst).or (hf.pull Prod.snd))).pull VS.slots).or (TO.raw.list.pull VS.raws)
    simp only [if_neg h4]; exact TO.const)
  exact this

/-- **Comparing values is a total order.** -/
theorem TO.value : ∀ n : Nat, TO (cmpV n)
  | 0 => TO.const
  | n + 1 => (TO.value n).node
end Go.Proofs.YtlgpoapedgodoaaDoor
