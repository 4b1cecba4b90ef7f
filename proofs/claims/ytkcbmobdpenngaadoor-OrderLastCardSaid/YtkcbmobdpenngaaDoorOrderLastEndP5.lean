/- Part 6 of the texts that prove OrderLastEnd. -/
import Derived.Test.YtkcbmobdpenngaaDoorOrderLastEndP4
import Derived.Shelf.Strings.Builder1
import Derived.Shelf.Strings.Builder2
import Derived.Shelf.Strings.Search1
import Derived.Shelf.Strings.Search2
import Derived.Shelf.Strings.Search3
import Derived.Shelf.Strings.Count
import Derived.Shelf.LaysM
import Derived.Shelf.Strings.Shaped
import Derived.Shelf.Strings.Prefix
import Derived.Shelf.Strings.Split
import Derived.Shelf.Strings.Replace
import Derived.Shelf.Strings.SplitShaped
import Derived.Shelf.Unicode.DecodeSlow
import Derived.Test.YtkcbmobdpenngaaDoorProg
namespace Go.Proofs.YtkcbmobdpenngaaDoor.Lift
open Go.RowKit
set_option linter.unusedVariables false
set_option linter.unusedSimpArgs false
set_option linter.unnecessarySimpa false
set_option linter.unusedSectionVars false
set_option maxRecDepth 100000
abbrev Tp {α : Type} (c : α -> α -> Int) : Prop := Pre c (fun _ : α => True)
section
variable {α : Type} {c c1 c2 : α -> α -> Int}
theorem Tp.s (h : Tp c) (x y : α) : c x y < 0 ↔ 0 < c y x := h.sym x y trivial trivial
theorem Tp.t (h : Tp c) (x y z : α) : c x y <= 0 -> c y z <= 0 -> c x z <= 0 := h.trans x y z trivial trivial trivial
theorem or_sym (h : Tp c) {x y : α} {p q : Int} (hpq : p < 0 ↔ 0 < q) : (if c x y ≠ 0 then c x y else p) < 0 ↔ 0 < (if c y x ≠ 0 then c y x else q) := by
 have h1 := h.s x y
 have h2 := h.s y x
 by_cases hx : c x y = 0
 ·have hy : c y x = 0 := by omega
  rw [if_neg (by simp [hx]), if_neg (by simp [hy])]
  exact hpq
 ·have hy : c y x ≠ 0 := by omega
  rw [if_pos hx, if_pos hy]
  exact h1
theorem or_trans (h : Tp c) {x y z : α} {p q r : Int} (hp : p <= 0 -> q <= 0 -> r <= 0) (h1 : (if c x y ≠ 0 then c x y else p) <= 0) (h2 : (if c y z ≠ 0 then c y z else q) <= 0) : (if c x z ≠ 0 then c x z else r) <= 0 := by
 have sxy := h.s x y
 have syx := h.s y x
 have syz := h.s y z
 have szy := h.s z y
 have sxz := h.s x z
 have szx := h.s z x
 have t1 := h.t x y z
 have t2 := h.t y z x
 have t3 := h.t z x y
 by_cases hxz : c x z = 0
 ·rw [if_neg (by simp [hxz])]
  have e1 : c x y = 0 := by
   by_cases e : c x y = 0
   ·exact e
   ·rw [if_pos e] at h1
    by_cases e2 : c y z = 0
    ·have := t2 (by omega) (by omega); omega
    ·rw [if_pos e2] at h2
     have := t2 (by omega) (by omega); omega
  have e2 : c y z = 0 := by
   by_cases e : c y z = 0
   ·exact e
   ·rw [if_pos e] at h2
    have := t3 (by omega) (by omega); omega
  rw [if_neg (by simp [e1])] at h1
  rw [if_neg (by simp [e2])] at h2
  exact hp h1 h2
 ·rw [if_pos hxz]
  by_cases e1 : c x y = 0
  ·by_cases e2 : c y z = 0
   ·exact t1 (by omega) (by omega)
   ·rw [if_pos e2] at h2; exact t1 (by omega) (by omega)
  ·rw [if_pos e1] at h1
   by_cases e2 : c y z = 0
   ·exact t1 (by omega) (by omega)
   ·rw [if_pos e2] at h2; exact t1 (by omega) (by omega)
theorem tp_or (h1 : Tp c1) (h2 : Tp c2) : Tp (fun x y => orL [c1 x y, c2 x y]) := by
 refine ⟨fun x y _ _ => ?_, fun x y z _ _ _ => ?_⟩
 ·simp only [or2]; exact or_sym h1 (h2.s x y)
 ·simp only [or2]; exact or_trans h1 (h2.t x y z)
theorem tp_lexi (h : Tp c) : Tp (lexi c) := by
 refine ⟨fun l m _ _ => ?_, fun l m k _ _ _ => ?_⟩
 ·induction l generalizing m with
  | nil => cases m <;> simp [lexi]
  | cons x l ih =>
   cases m with
   | nil => simp [lexi]
   | cons y m => simp only [lexi]; exact or_sym h (ih m)
 ·induction l generalizing m k with
  | nil => cases m <;> cases k <;> simp [lexi]
  | cons x l ih =>
   cases m with
   | nil => simp [lexi]
   | cons y m =>
    cases k with
    | nil => simp only [lexi]; intro _ h2; exact h2
    | cons z k => simp only [lexi]; exact or_trans h (ih m k)
theorem tp_key (key : α -> Int) (f : Int -> α -> α -> Int) (hf : ∀ k, Tp (f k)) : Tp (fun a b => if key a ≠ key b then cmpI (key a) (key b) else f (key a) a b) := by
 refine ⟨fun x y _ _ => ?_, fun x y z _ _ _ h1 h2 => ?_⟩
 ·by_cases h : key x = key y
  ·simp only [h, ne_eq, not_true_eq_false, if_false]; exact (hf _).s x y
  ·simp only [ne_eq, h, not_false_eq_true, if_true, Ne.symm h]
   rcases cmpI_cases (key x) (key y) with g | g | g <;> rcases cmpI_cases (key y) (key x) with e | e | e <;> rw [g.2, e.2] <;> omega
 ·simp only [ne_eq] at h1 h2 ⊢
  by_cases e1 : key x = key y
  ·by_cases e2 : key y = key z
   ·rw [if_neg (by simp [e1, e2])]
    rw [if_neg (by simp [e1])] at h1
    rw [if_neg (by simp [e2])] at h2
    rw [← e1] at h2
    exact (hf _).t x y z h1 h2
   ·rw [if_pos e2] at h2
    rw [if_pos (by rw [e1]; exact e2), e1]
    exact h2
  ·rw [if_pos e1] at h1
   by_cases e2 : key y = key z
   ·rw [if_pos (by rw [← e2]; exact e1), ← e2]
    exact h1
   ·rw [if_pos e2] at h2
    rcases cmpI_cases (key x) (key y) with g | g | g <;> rcases cmpI_cases (key y) (key z) with e | e | e <;> rw [g.2] at h1 <;> rw [e.2] at h2 <;> first | omega | skip
    rw [if_pos (by omega)]
    rcases cmpI_cases (key x) (key z) with d | d | d <;> rw [d.2] <;> omega
theorem tp_zero : Tp (fun _ _ : α => 0) := ⟨fun x y _ _ => by simp, fun x y z _ _ _ _ _ => by simp⟩
theorem tp_on {β : Type} (h : Tp c) (f : β -> α) : Tp (fun x y => c (f x) (f y)) := ⟨fun x y _ _ => h.s _ _, fun x y z _ _ _ => h.t _ _ _⟩
theorem tp_if (p : Bool) (h1 : Tp c1) (h2 : Tp c2) : Tp (fun x y => if p = true then c1 x y else c2 x y) := by cases p <;> simpa
theorem tp_I : Tp cmpI := pre_num fun x : Int => x
end
theorem bytes_lexi : ∀ l m : List UInt8, (if Op.bytesLess l m = true then (-1 : Int) else if (!(Op.bytesLess l m || l == m)) = true then 1 else 0) = lexi (fun a b : UInt8 => cmpI a.toNat b.toNat) l m
 | [], [] => by simp [Op.bytesLess, lexi]
 | [], b :: m => by simp [Op.bytesLess, lexi]
 | a :: l, [] => by simp [Op.bytesLess, lexi]
 | a :: l, b :: m => by
  have ih := bytes_lexi l m
  simp only [lexi, Op.bytesLess]
  rw [← ih]
  have hab : a < b ↔ a.toNat < b.toNat := UInt8.lt_iff_toNat_lt
  have hba : b < a ↔ b.toNat < a.toNat := UInt8.lt_iff_toNat_lt
  rcases cmpI_cases (a.toNat : Int) (b.toNat : Int) with g | g | g
  ·have h1 : a < b := hab.2 (by omega)
   simp [h1, g.2]
  ·have h1 : a = b := UInt8.toNat_inj.1 (by omega)
   subst h1
   have h2 : ¬ a < a := UInt8.lt_irrefl a
   simp [h2, g.2]
  ·have h1 : ¬ a < b := fun h => by have := hab.1 h; omega
   have h2 : ¬ a = b := fun h => by subst h; omega
   simp [h1, h2, g.2]
theorem tp_B : Tp cmpB := by
 have h := tp_on (tp_lexi (tp_on tp_I fun a : UInt8 => (a.toNat : Int))) fun x : ByteArray => x.toList
 have e : cmpB = fun x y => lexi (fun a b : UInt8 => cmpI (a.toNat : Int) (b.toNat : Int)) x.toList y.toList := by
  funext x y
  exact bytes_lexi x.toList y.toList
 rw [e]; exact h
theorem tp_R : Tp cmpR := by
 have h := tp_or (tp_on tp_I fun x : GRaw => x.Num) (tp_or (tp_on tp_I fun x : GRaw => x.Wire) (tp_or (tp_on tp_I fun x : GRaw => x.Bits) (tp_on tp_B fun x : GRaw => x.Data)))
 have e : cmpR = fun x y : GRaw => orL [cmpI x.Num y.Num, orL [cmpI x.Wire y.Wire, orL [cmpI x.Bits y.Bits, cmpB x.Data y.Data]]] := by
  funext x y
  simp only [cmpR, orL]
  split
  ·rfl
  ·split
   ·simp [*]
   ·split
    ·simp [*]
    ·split <;> simp [*]
 rw [e]; exact h
def cmpSk (k : Int) (a b : GValue) : Int :=
 if ((k == 7) || (k == 8)) = true then cmpB a.Text b.Text
 else if ((k == 2) || (k == 3)) = true then cmpI (wI a.Bits) (wI b.Bits)
 else if (k == 6) = true then cmpI (placeI a.Bits) (placeI b.Bits)
 else cmpI a.Bits b.Bits
theorem tp_S (k : Int) : Tp (cmpSk k) := tp_if _ (tp_on tp_B fun v : GValue => v.Text) (tp_if _ (tp_on tp_I fun v : GValue => wI v.Bits) (tp_if _ (tp_on tp_I fun v : GValue => placeI v.Bits) (tp_on tp_I fun v : GValue => v.Bits)))
theorem tp_V : ∀ n, Tp (cmpVn n)
 | 0 => tp_zero
 | n + 1 => by
  have ih := tp_V n
  have h := tp_key (fun v : GValue => v.Kind) (fun k a b => if isS k = true then cmpSk k a b else if decide (k = 11) = true then lexi (cmpVn n) a.List_ b.List_ else if decide (k = 12) = true then lexi (fun x y => orL [cmpVn n x.1 y.1, cmpVn n x.2 y.2]) a.Pairs b.Pairs else if decide (k = 10) = true then orL [lexi (fun x y => orL [cmpI x.1 y.1, cmpVn n x.2 y.2]) a.Slots b.Slots, lexi cmpR a.Raws b.Raws] else 0)
   fun k => tp_if _ (tp_S k) (tp_if _ (tp_on (tp_lexi ih) fun v : GValue => v.List_) (tp_if _ (tp_on (tp_lexi (tp_or (tp_on ih fun x : GValue × GValue => x.1) (tp_on ih fun x : GValue × GValue => x.2))) fun v : GValue => v.Pairs) (tp_if _ (tp_or (tp_on (tp_lexi (tp_or (tp_on tp_I fun x : Int × GValue => x.1) (tp_on ih fun x : Int × GValue => x.2))) fun v : GValue => v.Slots) (tp_on (tp_lexi tp_R) fun v : GValue => v.Raws)) tp_zero)))
  have e : cmpVn (n + 1) = fun a b : GValue => if a.Kind ≠ b.Kind then cmpI a.Kind b.Kind else (fun (k : Int) (a b : GValue) => if isS k = true then cmpSk k a b else if decide (k = 11) = true then lexi (cmpVn n) a.List_ b.List_ else if decide (k = 12) = true then lexi (fun x y => orL [cmpVn n x.1 y.1, cmpVn n x.2 y.2]) a.Pairs b.Pairs else if decide (k = 10) = true then orL [lexi (fun x y => orL [cmpI x.1 y.1, cmpVn n x.2 y.2]) a.Slots b.Slots, lexi cmpR a.Raws b.Raws] else 0) a.Kind a b := by
   funext a b
   simp only [cmpVn, decide_eq_true_eq]
   rfl
  rw [e]; exact h
def lastsC {α : Type} (c : α -> α -> Int) : List α -> List α
 | [] => []
 | [x] => [x]
 | x :: y :: l => if c x y = 0 then lastsC c (y :: l) else x :: lastsC c (y :: l)
abbrev kc (N : Nat) (x y : GValue × GValue) : Int := cmpVn N x.1 y.1
def OkP (N : Nat) (x : GValue × GValue) : Prop := OkD x.1 /\ SizeOf.sizeOf x.1 <= N
theorem pairs_loop (N : Nat) (S : List (GValue × GValue)) (hl : S.length * 256 <= 140737488355328) (hS : ∀ x ∈ S, OkP N x) : ∀ (d i : Nat) (done : List (GValue × GValue)), S.length - i <= d -> i <= S.length -> done.length <= i -> order_Pairs_j4 i S done (done ++ lastsC (kc N) (S.drop i)) := by
 intro d
 induction d with
 | zero =>
  intro i done hd hi hn
  have e : i = S.length := by omega
  subst e
  exact order_Pairs_j4_step _ _ _ _ ⟨fun h => by simp at h, fun _ => by simp [lastsC]⟩
 | succ d ih =>
  intro i done hd hi hn
  rcases Nat.lt_or_ge i S.length with hlt | hge
  ·have e1 : wI ((i : Int) + 1) = ((i + 1 : Nat) : Int) := by rw [wI, wrapI (by omega)]; omega
   have dr : S.drop i = S[i] :: S.drop (i + 1) := List.drop_eq_getElem_cons hlt
   refine order_Pairs_j4_step _ _ _ _ ⟨fun _ => ⟨S[i], by simp, by omega, fun b => lastsC (kc N) (S.drop i) = if b then S[i] :: lastsC (kc N) (S.drop (i + 1)) else lastsC (kc N) (S.drop (i + 1)), fun b hb => ⟨fun h => ?_, fun h => ?_⟩, fun h => ?_, fun h => ?_⟩, fun h => by simp at h; omega⟩
   ·subst h
    refine ⟨by simp; omega, ?_⟩
    rw [e1, hb]
    have := ih (i + 1) (done ++ [S[i]]) (by omega) (by omega) (by simp; omega)
    simpa using this
   ·subst h
    rw [e1, hb]
    exact ih (i + 1) done (by omega) (by omega) (by omega)
   ·rw [e1] at h
    simp at h
    have : S.drop (i + 1) = [] := List.drop_eq_nil_of_le (by omega)
    rw [dr, this]
    rfl
   ·rw [e1] at h ⊢
    simp at h
    have h2 : i + 1 < S.length := by omega
    have dr2 : S.drop (i + 1) = S[i + 1] :: S.drop (i + 1 + 1) := List.drop_eq_getElem_cons h2
    have o1 := hS _ (List.getElem_mem hlt)
    have o2 := hS _ (List.getElem_mem h2)
    refine ⟨S[i + 1], by simp, by omega, _, order_Equal_step _ _ _ ⟨_, cmp_is N _ _ o1.1 o2.1 o1.2, rfl⟩, ?_⟩
    rw [dr, dr2]
    simp only [lastsC]
    rcases Classical.em (cmpVn N S[i].1 S[i + 1].1 = 0) with h3 | h3
    ·simp [kc, h3]
    ·simp [kc, h3]
  ·exact order_Pairs_j4_step _ _ _ _ ⟨fun h => by simp at h; omega, fun _ => by rw [List.drop_eq_nil_of_le hge]; simp [lastsC]⟩
theorem pre_pairs (N : Nat) : Pre (kc N) (OkP N) := by
 have h := tp_on (tp_V N) fun x : GValue × GValue => x.1
 exact ⟨fun x y _ _ => h.s x y, fun x y z _ _ _ => h.t x y z⟩
theorem pairs1_clo (N : Nat) (x y : GValue × GValue) (hx : OkP N x) (hy : OkP N y) : CGPair (⟨14, [], [], rfl⟩ : GFn) x y (kc N x y) :=
 ⟨14, [], [], rfl, (show plainL [AV.agg (eGPair x), AV.agg (eGPair y)] = true by simp [plainL, plain, pl_GPair]), order_Pairs_1_step _ _ _ ⟨_, cmp_is N _ _ hx.1 hy.1 hx.2, rfl⟩⟩
theorem pairs_is (N : Nat) (l : List (GValue × GValue)) (hl : l.length * 256 <= 140737488355328) (hok : ∀ x ∈ l, OkP N x) : ∃ S, Stably (kc N) l S /\ order_Pairs l (lastsC (kc N) S) := by
 rcases Classical.em (l = []) with h0 | h0
 ·subst h0
  refine ⟨[], ⟨[], .nil, by simp [places], rfl⟩, order_Pairs_step _ _ ⟨fun _ => ⟨?_, slices_SortStableFunc_LPair_Pair_nil_is _, order_Pairs_j2_step _ _ _ ⟨fun h => by simp at h, fun _ => rfl⟩⟩, fun h => (h rfl).elim⟩⟩
  exact slices_Clone_LPair_Pair_step _ _ fun b _ => ⟨fun _ => rfl, fun _ => ⟨by simp, rfl⟩⟩
 ·have hpos : 0 < l.length := List.length_pos_iff.2 h0
  have hmem : ∀ x ∈ places l, x.1 ∈ l := fun x hx => by rw [← places_fs l]; exact List.mem_map_of_mem hx
  obtain ⟨S, h1, h2, h3⟩ := so_law (sortGPair ⟨14, [], [], rfl⟩) (pre_pairs N) (fun x y hx hy => pairs1_clo N x y hx hy) (n0 := l.length) (by omega) hpos (places l) (by simp [places]) (fun x hx => hok _ (hmem x hx)) (places_asc l)
  rw [places_fs] at h3
  have hlen : (fs S).length = l.length := by simp [h2.length_eq, places]
  refine ⟨fs S, ⟨S, h1, h2, rfl⟩, order_Pairs_step _ _ ⟨fun h => (h0 h).elim, fun _ => ⟨slices_Clone_LPair_Pair_new_step _ ⟨h0, hl⟩, fs S, h3, ⟨h0, fun h => ?_⟩, hlen, ?_⟩⟩⟩
  ·rw [h] at hlen; simp at hlen; omega
  ·have := pairs_loop N (fs S) (by rw [hlen]; exact hl) (fun x hx => by
    obtain ⟨y, hy, rfl⟩ := List.mem_map.1 hx
    exact hok _ (hmem y (h2.mem_iff.1 hy))) (fs S).length 0 [] (by omega) (by omega) (by simp)
   simpa using this
section
variable {α : Type} (c : α -> α -> Int)
def insC (x : α) : List α -> List α
 | [] => [x]
 | y :: l => if c y x < 0 then y :: insC x l else x :: y :: l
def lone (x : α) (l : List α) : Bool := l.all fun y => c x y != 0
def keyed : List α -> List α -> List α
 | acc, [] => acc
 | acc, x :: l => keyed (if lone c x l = true then insC c x acc else acc) l
def keyedR : List α -> List α
 | [] => []
 | x :: l => if lone c x l = true then insC c x (keyedR l) else keyedR l
theorem insC_len (x : α) : ∀ l, (insC c x l).length = l.length + 1
 | [] => rfl
 | y :: l => by
  simp only [insC]
  split
  ·simp [insC_len x l]
  ·simp
variable {c}
theorem insC_comm (h : Tp c) {x y : α} (hxy : c x y ≠ 0) : ∀ l, insC c x (insC c y l) = insC c y (insC c x l)
 | [] => by
  have s1 := h.s x y
  have s2 := h.s y x
  simp only [insC]
  by_cases e : c y x < 0
  ·rw [if_pos e, if_neg (by omega)]
  ·rw [if_neg e, if_pos (by omega)]
 | z :: l => by
  have s1 := h.s x y
  have s2 := h.s y x
  have s3 := h.s z x
  have s4 := h.s z y
  have s5 := h.s x z
  have s6 := h.s y z
  have t1 := h.t y x z
  have t2 := h.t x y z
  have t3 := h.t x z y
  have t4 := h.t y z x
  have t5 := h.t z x y
  have t6 := h.t z y x
  simp only [insC]
  by_cases e1 : c z x < 0 <;> by_cases e2 : c z y < 0 <;> simp only [e1, e2, if_true, if_false, insC]
  ·rw [insC_comm h hxy l]
  ·have e3 : ¬ c x y < 0 := by omega
   have e4 : c y x < 0 := by omega
   simp [e4]
  ·have e3 : c x y < 0 := by omega
   simp [e3]
  ·by_cases e4 : c y x < 0
   ·simp [e4]; omega
   ·have e5 : c x y < 0 := by omega
    simp [e4, e5]
def keyedA : List α -> List α -> List α
 | acc, [] => acc
 | acc, x :: l => if lone c x l = true then insC c x (keyedA acc l) else keyedA acc l
theorem keyedA_ins (h : Tp c) (x : α) : ∀ (l acc : List α), lone c x l = true -> keyedA (c := c) (insC c x acc) l = insC c x (keyedA (c := c) acc l)
 | [], acc, _ => rfl
 | y :: l, acc, hl => by
  simp only [lone, List.all_cons, Bool.and_eq_true, bne_iff_ne, ne_eq] at hl
  have ih := keyedA_ins h x l acc hl.2
  simp only [keyedA, ih]
  split
  ·exact insC_comm h (by have := h.s x y; have := h.s y x; omega) _
  ·rfl
theorem keyed_eq (h : Tp c) : ∀ (l acc : List α), keyed c acc l = keyedA (c := c) acc l
 | [], acc => rfl
 | x :: l, acc => by
  simp only [keyed, keyedA]
  by_cases e : lone c x l = true
  ·rw [if_pos e, if_pos e, keyed_eq h l, keyedA_ins h x l acc e]
  ·rw [if_neg e, if_neg e, keyed_eq h l]
theorem keyedA_R : ∀ (l : List α), keyedA (c := c) [] l = keyedR c l
 | [] => rfl
 | x :: l => by simp only [keyedA, keyedR, keyedA_R l]
end
section
variable {N : Nat} {l : List (GValue × GValue)} (hl : l.length * 256 <= 140737488355328) (hok : ∀ x ∈ l, OkP N x)
 include hl hok
theorem rpairs_at (i : Nat) (hi : i < l.length) (acc : List (GValue × GValue)) (hacc : acc.length <= i) (hoa : ∀ x ∈ acc, OkP N x) (r : List (GValue × GValue)) : ∀ (d at_ : Nat), acc.length - at_ <= d -> at_ <= acc.length -> ref16_Pairs_j11 ((i + 1 : Nat) : Int) (acc.take at_ ++ insC (kc N) l[i] (acc.drop at_)) l r -> ref16_Pairs_j17 at_ i acc l r := by
 have e1 : wI ((i : Int) + 1) = ((i + 1 : Nat) : Int) := by rw [wI, wrapI (by omega)]; omega
 have endc : ∀ at_ : Nat, at_ <= acc.length -> ref16_Pairs_j11 ((i + 1 : Nat) : Int) (acc.take at_ ++ l[i] :: acc.drop at_) l r -> ∃ y59, l[(i : Int).toNat]? = some y59 /\ 0 <= (i : Int) /\ ((0 <= (at_ : Int) /\ (at_ : Int) <= (acc.length : Int) /\ (acc.length : Int) <= (acc.length : Int)) /\ (([y59].length + ((acc.take (acc.length : Int).toNat).drop (at_ : Int).toNat).length) * 256 <= 140737488355328 /\ ((0 <= (0 : Int) /\ (0 : Int) <= (at_ : Int) /\ (at_ : Int) <= (acc.length : Int)) /\ ((([] : List (GValue × GValue)).length + ((acc.take (at_ : Int).toNat).drop (0 : Int).toNat).length) * 256 <= 140737488355328 /\ (((([] : List (GValue × GValue)) ++ ((acc.take (at_ : Int).toNat).drop (0 : Int).toNat)).length + ([y59] ++ ((acc.take (acc.length : Int).toNat).drop (at_ : Int).toNat)).length) * 256 <= 140737488355328 /\ (ref16_Pairs_j11 (wI ((i : Int) + 1)) ((([] : List (GValue × GValue)) ++ ((acc.take (at_ : Int).toNat).drop (0 : Int).toNat)) ++ ([y59] ++ ((acc.take (acc.length : Int).toNat).drop (at_ : Int).toNat))) l r)))))) := by
  intro at_ ha hr
  refine ⟨l[i], by simp, by omega, ⟨by omega, by omega, by omega⟩, by simp; omega, ⟨by omega, by omega, by omega⟩, by simp; omega, by simp; omega, ?_⟩
  rw [e1]
  simpa using hr
 intro d
 induction d with
 | zero =>
  intro at_ hd ha hr
  have e : at_ = acc.length := by omega
  subst e
  exact ref16_Pairs_j17_step _ _ _ _ _ ⟨fun h => by simp at h, fun _ => endc _ (Nat.le_refl _) (by simpa [insC] using hr)⟩
 | succ d ih =>
  intro at_ hd ha hr
  rcases Nat.lt_or_ge at_ acc.length with hlt | hge
  ·have e2 : wI ((at_ : Int) + 1) = ((at_ + 1 : Nat) : Int) := by rw [wI, wrapI (by omega)]; omega
   have da : acc.drop at_ = acc[at_] :: acc.drop (at_ + 1) := List.drop_eq_getElem_cons hlt
   have o1 := hoa _ (List.getElem_mem hlt)
   have o2 := hok _ (List.getElem_mem hi)
   rw [da] at hr
   simp only [insC] at hr
   refine ref16_Pairs_j17_step _ _ _ _ _ ⟨fun _ => ⟨acc[at_], by simp, by omega, l[i], by simp, by omega, _, rcmp_is N _ _ o1.1 o2.1 o1.2, fun h => ?_, fun h => ?_⟩, fun h => by simp at h; omega⟩
   ·have h' : kc N acc[at_] l[i] < 0 := by simpa using h
    rw [if_pos h'] at hr
    rw [e2]
    refine ih (at_ + 1) (by omega) (by omega) ?_
    rw [List.take_succ_eq_append_getElem hlt, List.append_assoc]
    exact hr
   ·have h' : ¬ kc N acc[at_] l[i] < 0 := by simpa using h
    rw [if_neg h'] at hr
    have := endc at_ ha (by rw [da]; exact hr)
    exact this
  ·have e : at_ = acc.length := by omega
   subst e
   exact ref16_Pairs_j17_step _ _ _ _ _ ⟨fun h => by simp at h, fun _ => endc _ (Nat.le_refl _) (by simpa [insC] using hr)⟩
theorem rpairs_only (i : Nat) (hi : i < l.length) (acc : List (GValue × GValue)) (hacc : acc.length <= i) (hoa : ∀ x ∈ acc, OkP N x) (r : List (GValue × GValue)) : ∀ (d j : Nat) (o : Bool), l.length - j <= d -> j <= l.length -> ref16_Pairs_j11 ((i + 1 : Nat) : Int) (if (o && lone (kc N) l[i] (l.drop j)) = true then insC (kc N) l[i] acc else acc) l r -> ref16_Pairs_j15 j o i acc l r := by
 have e1 : wI ((i : Int) + 1) = ((i + 1 : Nat) : Int) := by rw [wI, wrapI (by omega)]; omega
 have fin : ∀ (o : Bool), ref16_Pairs_j11 ((i + 1 : Nat) : Int) (if (o && lone (kc N) l[i] (l.drop l.length)) = true then insC (kc N) l[i] acc else acc) l r -> ref16_Pairs_j15 (l.length : Nat) o i acc l r := by
  intro o hr
  refine ref16_Pairs_j15_step _ _ _ _ _ _ ⟨fun h => by simp at h, fun _ => ⟨fun h => ?_, fun h => ?_⟩⟩
  ·subst h
   have hr' : ref16_Pairs_j11 ((i + 1 : Nat) : Int) (insC (kc N) l[i] acc) l r := by simpa [lone] using hr
   have := rpairs_at hl hok i hi acc hacc hoa r acc.length 0 (by omega) (by omega) (by simpa using hr')
   simpa using this
  ·subst h
   rw [e1]
   simpa using hr
 intro d
 induction d with
 | zero =>
  intro j o hd hj hr
  have e : j = l.length := by omega
  subst e
  exact fin o hr
 | succ d ih =>
  intro j o hd hj hr
  rcases Nat.lt_or_ge j l.length with hlt | hge
  ·have e2 : wI ((j : Int) + 1) = ((j + 1 : Nat) : Int) := by rw [wI, wrapI (by omega)]; omega
   have dl : l.drop j = l[j] :: l.drop (j + 1) := List.drop_eq_getElem_cons hlt
   have o1 := hok _ (List.getElem_mem hi)
   have o2 := hok _ (List.getElem_mem hlt)
   rw [dl] at hr
   refine ref16_Pairs_j15_step _ _ _ _ _ _ ⟨fun _ => ⟨fun h => ?_, fun h => ?_⟩, fun h => by simp at h; omega⟩
   ·subst h
    refine ⟨l[i], by simp, by omega, l[j], by simp, by omega, _, rcmp_is N _ _ o1.1 o2.1 o1.2, ?_⟩
    rw [e2]
    refine ih (j + 1) _ (by omega) (by omega) ?_
    rw [Bool.true_and, show lone (kc N) l[i] (l[j] :: l.drop (j + 1)) = ((kc N l[i] l[j] != 0) && lone (kc N) l[i] (l.drop (j + 1))) from rfl] at hr
    exact hr
   ·subst h
    rw [e2]
    exact ih (j + 1) _ (by omega) (by omega) (by simpa using hr)
  ·have e : j = l.length := by omega
   subst e
   exact fin o hr
theorem rpairs_loop : ∀ (d i : Nat) (acc : List (GValue × GValue)), l.length - i <= d -> i <= l.length -> acc.length <= i -> (∀ x ∈ acc, OkP N x) -> ref16_Pairs_j11 i acc l (keyed (kc N) acc (l.drop i)) := by
 intro d
 induction d with
 | zero =>
  intro i acc hd hi ha hoa
  have e : i = l.length := by omega
  subst e
  exact ref16_Pairs_j11_step _ _ _ _ ⟨fun h => by simp at h, fun _ => by simp [keyed]⟩
 | succ d ih =>
  intro i acc hd hi ha hoa
  rcases Nat.lt_or_ge i l.length with hlt | hge
  ·have e1 : wI ((i : Int) + 1) = ((i + 1 : Nat) : Int) := by rw [wI, wrapI (by omega)]; omega
   have dl : l.drop i = l[i] :: l.drop (i + 1) := List.drop_eq_getElem_cons hlt
   have mem_ins : ∀ (x : GValue × GValue) (m : List (GValue × GValue)), ∀ y ∈ insC (kc N) x m, y = x ∨ y ∈ m := by
    intro x m
    induction m with
    | nil => intro y hy; simp [insC] at hy; exact .inl hy
    | cons z m ihm =>
     intro y hy
     simp only [insC] at hy
     split at hy
     ·rcases List.mem_cons.1 hy with h | h
      ·exact .inr (by rw [h]; simp)
      ·rcases ihm y h with h | h
       ·exact .inl h
       ·exact .inr (by simp [h])
     ·rcases List.mem_cons.1 hy with h | h
      ·exact .inl h
      ·exact .inr h
   refine ref16_Pairs_j11_step _ _ _ _ ⟨fun _ => ?_, fun h => by simp at h; omega⟩
   rw [e1]
   refine rpairs_only hl hok i hlt acc ha hoa _ l.length (i + 1) true (by omega) (by omega) ?_
   rw [dl]
   simp only [keyed, Bool.true_and]
   refine ih (i + 1) _ (by omega) (by omega) ?_ ?_
   ·split
    ·rw [insC_len]; omega
    ·omega
   ·intro y hy
    split at hy
    ·rcases mem_ins _ _ y hy with h | h
     ·rw [h]; exact hok _ (List.getElem_mem hlt)
     ·exact hoa y h
    ·exact hoa y hy
  ·have e : i = l.length := by omega
   subst e
   exact ref16_Pairs_j11_step _ _ _ _ ⟨fun h => by simp at h, fun _ => by simp [keyed]⟩
theorem rpairs_is : ref16_Pairs l (keyedR (kc N) l) := by
 have h := rpairs_loop hl hok l.length 0 [] (by omega) (by omega) (by simp) (fun x hx => by cases hx)
 rw [List.drop_zero, keyed_eq (tp_on (tp_V N) fun x : GValue × GValue => x.1), keyedA_R] at h
 exact ref16_Pairs_step _ _ h
end
section
variable {α : Type} {c : α -> α -> Int}
theorem lastsC_mem : ∀ (l : List α), ∀ x ∈ lastsC c l, x ∈ l
 | [], x, h => h
 | [y], x, h => h
 | y :: z :: l, x, h => by
  simp only [lastsC] at h
  split at h
  ·exact List.mem_cons_of_mem _ (lastsC_mem (z :: l) x h)
  ·rcases List.mem_cons.1 h with h | h
   ·rw [h]; simp
   ·exact List.mem_cons_of_mem _ (lastsC_mem (z :: l) x h)
theorem insC_front {x : α} : ∀ {l : List α}, (∀ w ∈ l, ¬ c w x < 0) -> insC c x l = x :: l
 | [], _ => rfl
 | y :: l, h => by simp only [insC]; rw [if_neg (h y (by simp))]
theorem lasts_ins (h : Tp c) (x : α) : ∀ (S : List α), S.Pairwise (fun a b => c a b <= 0) -> lastsC c (insC c x S) = if lone c x S = true then insC c x (lastsC c S) else lastsC c S
 | [], _ => rfl
 | y :: l, hs => by
  obtain ⟨hy, hl⟩ := List.pairwise_cons.1 hs
  have ih := lasts_ins h x l hl
  have s1 := h.s x y
  have s2 := h.s y x
  by_cases e : c y x < 0
  ·have eI : insC c x (y :: l) = y :: insC c x l := by simp only [insC]; rw [if_pos e]
   have eL : lone c x (y :: l) = lone c x l := by
    have : c x y ≠ 0 := by omega
    simp [lone, this]
   rw [eI, eL]
   cases l with
   | nil =>
    have : ¬ c y x = 0 := by omega
    simp [insC, lastsC, lone, this, e]
   | cons z l =>
    have s3 := h.s z x
    have s4 := h.s x z
    have s5 := h.s y z
    have s6 := h.s z y
    have t1 := h.t x z y
    by_cases e2 : c z x < 0
    ·have e3 : insC c x (z :: l) = z :: insC c x l := by simp only [insC]; rw [if_pos e2]
     rw [e3] at ih ⊢
     simp only [lastsC] at ih ⊢
     rw [ih]
     by_cases e4 : c y z = 0
     ·rw [if_pos e4, if_pos e4]
     ·rw [if_neg e4, if_neg e4]
      by_cases e5 : lone c x (z :: l) = true
      ·rw [if_pos e5, if_pos e5]; simp only [insC]; rw [if_pos e]
      ·rw [if_neg e5, if_neg e5]
    ·have e3 : insC c x (z :: l) = x :: z :: l := by simp only [insC]; rw [if_neg e2]
     rw [e3] at ih ⊢
     have e4 : ¬ c y x = 0 := by omega
     have e5 : ¬ c y z = 0 := by
      intro e6
      have := t1 (by omega) (by omega)
      omega
     have e7 : lastsC c (y :: x :: z :: l) = y :: lastsC c (x :: z :: l) := by
      rw [lastsC, if_neg e4]
     have e8 : lastsC c (y :: z :: l) = y :: lastsC c (z :: l) := by
      rw [lastsC, if_neg e5]
     rw [e7, e8, ih]
     by_cases e9 : lone c x (z :: l) = true
     ·rw [if_pos e9, if_pos e9]; simp only [insC]; rw [if_pos e]
     ·rw [if_neg e9, if_neg e9]
  ·have eI : insC c x (y :: l) = x :: y :: l := by simp only [insC]; rw [if_neg e]
   rw [eI]
   by_cases e0 : c x y = 0
   ·have : lone c x (y :: l) = false := by simp [lone, e0]
    rw [lastsC, if_pos e0, this]
    simp
   ·have hlt : c x y < 0 := by omega
    have hz : ∀ z ∈ y :: l, c x z < 0 := by
     intro z hz
     rcases List.mem_cons.1 hz with hz | hz
     ·rw [hz]; exact hlt
     ·have q1 := hy z hz
      have s3 := h.s z x
      have s4 := h.s x z
      have t1 := h.t x y z (by omega) q1
      have t2 := h.t y z x q1
      omega
    have e1 : lone c x (y :: l) = true := by
     rw [lone, List.all_eq_true]
     intro z h2
     have := hz z h2
     simp; omega
    rw [lastsC, if_neg e0, if_pos e1, insC_front]
    intro w hw
    have := hz w (lastsC_mem _ w hw)
    have := h.s x w
    omega
def sC (c : α -> α -> Int) : List α -> List α
 | [] => []
 | x :: l => insC c x (sC c l)
theorem insC_perm (x : α) : ∀ l, (insC c x l).Perm (x :: l)
 | [] => .refl _
 | y :: l => by
  simp only [insC]
  split
  ·exact ((insC_perm x l).cons y).trans (.swap x y l)
  ·exact .refl _
theorem sC_perm : ∀ l : List α, (sC c l).Perm l
 | [] => .refl _
 | x :: l => (insC_perm x _).trans ((sC_perm l).cons x)
theorem sC_sorted (h : Tp c) : ∀ l : List α, (sC c l).Pairwise (fun a b => c a b <= 0)
 | [] => .nil
 | x :: l => by
  have key : ∀ S : List α, S.Pairwise (fun a b => c a b <= 0) -> (insC c x S).Pairwise (fun a b => c a b <= 0) := by
   intro S
   induction S with
   | nil => intro _; simp [insC]
   | cons y S ih =>
    intro hs
    obtain ⟨hy, hS⟩ := List.pairwise_cons.1 hs
    simp only [insC]
    split
    ·rename_i e
     refine List.pairwise_cons.2 ⟨fun z hz => ?_, ih hS⟩
     rcases List.mem_cons.1 ((insC_perm x S).mem_iff.1 hz) with h2 | h2
     ·rw [h2]; omega
     ·exact hy z h2
    ·rename_i e
     have s1 := h.s y x
     have s2 := h.s x y
     have e2 : c x y <= 0 := by omega
     refine List.pairwise_cons.2 ⟨fun z hz => ?_, hs⟩
     rcases List.mem_cons.1 hz with h2 | h2
     ·rw [h2]; exact e2
     ·exact h.t x y z e2 (hy z h2)
  exact key _ (sC_sorted h l)
theorem lone_perm {x : α} {l m : List α} (hp : l.Perm m) : lone c x l = lone c x m := by
 unfold lone
 rw [Bool.eq_iff_iff, List.all_eq_true, List.all_eq_true]
 exact ⟨fun h y hy => h y (hp.mem_iff.2 hy), fun h y hy => h y (hp.mem_iff.1 hy)⟩
theorem lasts_keyed (h : Tp c) : ∀ l : List α, lastsC c (sC c l) = keyedR c l
 | [] => rfl
 | x :: l => by
  rw [sC, lasts_ins h x _ (sC_sorted h l), lasts_keyed h l, lone_perm (sC_perm l)]
  rfl
def insT (c : α -> α -> Int) (x : α × Nat) : List (α × Nat) -> List (α × Nat)
 | [] => [x]
 | y :: l => if c y.1 x.1 < 0 then y :: insT c x l else x :: y :: l
theorem insT_fs (x : α × Nat) : ∀ l, fs (insT c x l) = insC c x.1 (fs l)
 | [] => rfl
 | y :: l => by
  simp only [insT, List.map_cons, insC]
  split
  ·show y.1 :: fs (insT c x l) = _
   rw [insT_fs x l]
  ·rfl
theorem insT_perm (x : α × Nat) : ∀ l, (insT c x l).Perm (x :: l)
 | [] => .refl _
 | y :: l => by
  simp only [insT]
  split
  ·exact ((insT_perm x l).cons y).trans (.swap x y l)
  ·exact .refl _
theorem insT_srt (h : Tp c) (x : α × Nat) : ∀ l : List (α × Nat), (∀ y ∈ l, x.2 < y.2) -> Srt c l -> Srt c (insT c x l)
 | [], _, _ => by simp [insT, Srt]
 | y :: l, hx, hs => by
  obtain ⟨hy, hl⟩ := List.pairwise_cons.1 hs
  simp only [insT]
  split
  ·rename_i e
   refine List.pairwise_cons.2 ⟨fun z hz => ?_, insT_srt h x l (fun y hy => hx y (by simp [hy])) hl⟩
   rcases List.mem_cons.1 ((insT_perm x l).mem_iff.1 hz) with h2 | h2
   ·rw [h2]; exact .inl e
   ·exact hy z h2
  ·rename_i e
   have s1 := h.s y.1 x.1
   have s2 := h.s x.1 y.1
   have e2 : c x.1 y.1 <= 0 := by omega
   refine List.pairwise_cons.2 ⟨fun z hz => ?_, hs⟩
   have hxz := hx z hz
   have : c x.1 z.1 <= 0 := by
    rcases List.mem_cons.1 hz with h2 | h2
    ·rw [h2]; exact e2
    ·have := hy z h2
     unfold Rt at this
     exact h.t x.1 y.1 z.1 e2 (by omega)
   unfold Rt
   omega
theorem stably_sC (h : Tp c) : ∀ l : List α, ∃ T, Srt c T /\ T.Perm (places l) /\ fs T = sC c l
 | [] => ⟨[], .nil, by simp [places], rfl⟩
 | x :: l => by
  obtain ⟨T, h1, h2, h3⟩ := stably_sC h l
  have e1 : fs (T.map fun p => (p.1, p.2 + 1)) = fs T := by simp [fs]
  refine ⟨insT c (x, 0) (T.map fun p => (p.1, p.2 + 1)), insT_srt h _ _ (fun y hy => ?_) ?_, (insT_perm _ _).trans ?_, ?_⟩
  ·obtain ⟨p, _, rfl⟩ := List.mem_map.1 hy
   exact Nat.succ_pos _
  ·show List.Pairwise _ _
   rw [List.pairwise_map]
   exact h1.imp fun {a b} hab => by
    unfold Rt at hab ⊢
    simp only
    omega
  ·have e2 : places (x :: l) = (x, 0) :: (places l).map fun p => (p.1, p.2 + 1) := by
    simp [places, List.zipIdx_succ]
   rw [e2]
   exact (h2.map _).cons _
  ·rw [insT_fs, e1, h3]
   rfl
end
theorem pairs_both (N : Nat) (l : List (GValue × GValue)) (hl : l.length * 256 <= 140737488355328) (hok : ∀ x ∈ l, OkP N x) : order_Pairs l (keyedR (kc N) l) /\ ref16_Pairs l (keyedR (kc N) l) := by
 refine ⟨?_, rpairs_is hl hok⟩
 have h : Tp (kc N) := tp_on (tp_V N) fun x : GValue × GValue => x.1
 obtain ⟨S, h1, h2⟩ := pairs_is N l hl hok
 obtain ⟨T, q1, q2, q3⟩ := stably_sC h l
 have e : S = sC (kc N) l := by
  rw [← q3]
  exact Stably.one (Dm := fun _ => True) h (fun _ _ => trivial) h1 ⟨T, q1, q2, rfl⟩
 rw [e, lasts_keyed h] at h2
 exact h2
section
variable {α : Type} {c : α -> α -> Int}
theorem insC_mem {x y : α} {l : List α} : y ∈ insC c x l ↔ y = x ∨ y ∈ l := by
 rw [(insC_perm x l).mem_iff]; simp
theorem keyedR_sub : ∀ (l : List α), ∀ y ∈ keyedR c l, y ∈ l
 | [], y, h => h
 | x :: l, y, h => by
  simp only [keyedR] at h
  split at h
  ·rcases insC_mem.1 h with h | h
   ·simp [h]
   ·exact List.mem_cons_of_mem _ (keyedR_sub l y h)
  ·exact List.mem_cons_of_mem _ (keyedR_sub l y h)
theorem keyedR_len : ∀ (l : List α), (keyedR c l).length <= l.length
 | [] => by simp [keyedR]
 | x :: l => by
  have := keyedR_len l
  simp only [keyedR]
  split
  ·rw [insC_len]; simp; omega
  ·simp; omega
theorem insC_strict (h : Tp c) (x : α) : ∀ S : List α, (∀ y ∈ S, c x y ≠ 0) -> S.Pairwise (fun a b => c a b < 0) -> (insC c x S).Pairwise (fun a b => c a b < 0)
 | [], _, _ => by simp [insC]
 | y :: S, hne, hs => by
  obtain ⟨hy, hS⟩ := List.pairwise_cons.1 hs
  simp only [insC]
  split
  ·rename_i e
   refine List.pairwise_cons.2 ⟨fun z hz => ?_, insC_strict h x S (fun y hy => hne y (by simp [hy])) hS⟩
   rcases insC_mem.1 hz with h2 | h2
   ·rw [h2]; exact e
   ·exact hy z h2
  ·rename_i e
   have s1 := h.s y x
   have s2 := h.s x y
   have n1 := hne y (by simp)
   have e2 : c x y < 0 := by omega
   refine List.pairwise_cons.2 ⟨fun z hz => ?_, hs⟩
   rcases List.mem_cons.1 hz with h2 | h2
   ·rw [h2]; exact e2
   ·have q1 := hy z h2
    have q2 := hne z (by simp [h2])
    have := h.t x y z (by omega) (by omega)
    omega
theorem lone_ne {x : α} {l : List α} (h : lone c x l = true) : ∀ y ∈ l, c x y ≠ 0 := fun y hy => by
 have := List.all_eq_true.1 h y hy
 simpa using this
theorem keyedR_strict (h : Tp c) : ∀ l : List α, (keyedR c l).Pairwise (fun a b => c a b < 0)
 | [] => .nil
 | x :: l => by
  simp only [keyedR]
  split
  ·rename_i e
   exact insC_strict h x _ (fun y hy => lone_ne e y (keyedR_sub l y hy)) (keyedR_strict h l)
  ·exact keyedR_strict h l
theorem keyedR_keeps : ∀ (l : List α) (i : Nat) (hi : i < l.length), lone c l[i] (l.drop (i + 1)) = true -> l[i] ∈ keyedR c l
 | x :: l, 0, _, e => by
  simp only [List.getElem_cons_zero, List.drop_succ_cons, List.drop_zero] at e
  simp only [keyedR]
  rw [if_pos e]
  exact insC_mem.2 (.inl rfl)
 | x :: l, i + 1, hi, e => by
  have hi' : i < l.length := by simpa using hi
  have := keyedR_keeps l i hi' (by simpa using e)
  simp only [keyedR]
  split
  ·exact insC_mem.2 (.inr (by simpa using this))
  ·simpa using this
theorem keyedR_one (h : Tp c) {l : List α} {i j : Nat} {x y : α} (hi : (keyedR c l)[i]? = some x) (hj : (keyedR c l)[j]? = some y) (e : c x y = 0) : i = j := by
 have hs := keyedR_strict h l
 obtain ⟨li, rfl⟩ := List.getElem?_eq_some_iff.1 hi
 obtain ⟨lj, rfl⟩ := List.getElem?_eq_some_iff.1 hj
 have s1 := h.s (keyedR c l)[i] (keyedR c l)[j]
 have s2 := h.s (keyedR c l)[j] (keyedR c l)[i]
 rcases Nat.lt_trichotomy i j with q | q | q
 ·have := List.pairwise_iff_getElem.1 hs i j li lj q
  omega
 ·exact q
 ·have := List.pairwise_iff_getElem.1 hs j i lj li q
  omega
end
theorem cmpV_refl (N : Nat) (v : GValue) : cmpVn N v v = 0 := by
 have := (tp_V N).s v v
 omega
theorem req_is (N : Nat) (a b : GValue) (ha : OkD a) (hb : OkD b) (hn : SizeOf.sizeOf a <= N) : ref16_Equal a b (cmpVn N a b == 0) :=
 ref16_Equal_step _ _ _ ⟨_, rcmp_is N a b ha hb hn, rfl⟩
theorem req_refl (a : GValue) (ha : OkD a) : ref16_Equal a a true := by
 have h := req_is (SizeOf.sizeOf a) a a ha ha (Nat.le_refl _)
 rw [cmpV_refl] at h
 exact h
section
variable {mg : Int} (hw : law16_awake mg true)
 include hw
theorem sizes (l : List (GValue × GValue)) : ∃ N, ∀ x ∈ l, SizeOf.sizeOf x.1 <= N /\ SizeOf.sizeOf x.2 <= N := by
 refine ⟨SizeOf.sizeOf l, fun x hx => ?_⟩
 have := List.sizeOf_lt_of_mem hx
 cases x
 simp at this ⊢
 omega
end
section
variable {mg : Int} (hw : law16_awake mg true) {N : Nat} {l : List (GValue × GValue)} (hl : l.length <= 40) (hok : ∀ x ∈ l, OkD x.1 /\ OkD x.2 /\ SizeOf.sizeOf x.1 <= N)
 include hl hok
theorem olast_found {i last : Nat} (hi : i < l.length) (hlast : last < l.length) (hs : kc N l[last] l[i] = 0) (hafter : ∀ (k : Nat) (h : k < l.length), last < k -> kc N l[k] l[i] ≠ 0) (hnext : law16_OrderLast_j33 ((i + 1 : Nat) : Int) (keyedR (kc N) l) l mg true) : law16_OrderLast_j42 0 false last i (keyedR (kc N) l) l mg true := by
 have tc : Tp (kc N) := tp_on (tp_V N) fun x : GValue × GValue => x.1
 have e0 : wI ((i : Int) + 1) = ((i + 1 : Nat) : Int) := by rw [wI, wrapI (by omega)]; omega
 have hlone : lone (kc N) l[last] (l.drop (last + 1)) = true := by
  rw [lone, List.all_eq_true]
  intro y hy
  obtain ⟨j, hj, rfl⟩ := List.mem_iff_getElem.1 hy
  have hj' : last + 1 + j < l.length := by simpa [Nat.lt_sub_iff_add_lt, Nat.add_comm] using hj
  rw [List.getElem_drop]
  have h1 := hafter (last + 1 + j) hj' (by omega)
  have s1 := tc.s l[last] l[last + 1 + j]
  have s2 := tc.s l[last + 1 + j] l[last]
  have s3 := tc.s l[last] l[i]
  have s4 := tc.s l[i] l[last]
  have s5 := tc.s l[last + 1 + j] l[i]
  have s6 := tc.s l[i] l[last + 1 + j]
  have t1 := tc.t l[last + 1 + j] l[last] l[i]
  have t2 := tc.t l[i] l[last] l[last + 1 + j]
  simp only [bne_iff_ne, ne_eq]
  intro h2
  apply h1
  have a1 := t1 (by omega) (by omega)
  have a2 := t2 (by omega) (by omega)
  omega
 obtain ⟨K, hK, eK⟩ := List.mem_iff_getElem.1 (keyedR_keeps l last hlast hlone)
 have hKs : (keyedR (kc N) l)[K]? = some l[last] := by rw [List.getElem?_eq_getElem hK, eK]
 have hlen := keyedR_len (c := kc N) l
 have oi := hok _ (List.getElem_mem hi)
 have olast := hok _ (List.getElem_mem hlast)
 have same : ∀ (k : Nat) (h : k < (keyedR (kc N) l).length), kc N (keyedR (kc N) l)[k] l[i] = 0 ↔ k = K := by
  intro k h
  constructor
  ·intro h2
   refine keyedR_one tc (List.getElem?_eq_getElem h) hKs ?_
   have s1 := tc.s (keyedR (kc N) l)[k] l[last]
   have s2 := tc.s l[last] (keyedR (kc N) l)[k]
   have s3 := tc.s l[last] l[i]
   have s4 := tc.s l[i] l[last]
   have s5 := tc.s (keyedR (kc N) l)[k] l[i]
   have s6 := tc.s l[i] (keyedR (kc N) l)[k]
   have a1 := tc.t (keyedR (kc N) l)[k] l[i] l[last] (by omega) (by omega)
   have a2 := tc.t l[last] l[i] (keyedR (kc N) l)[k] (by omega) (by omega)
   omega
  ·rintro rfl
   rw [eK]; exact hs
 have key : ∀ (d k : Nat), (keyedR (kc N) l).length - k <= d -> k <= (keyedR (kc N) l).length -> law16_OrderLast_j42 k (decide (K < k)) last i (keyedR (kc N) l) l mg true := by
  intro d
  induction d with
  | zero =>
   intro k hd hk
   refine law16_OrderLast_j42_step _ _ _ _ _ _ _ _ ⟨fun h => by simp at h; omega, fun _ => ⟨fun h => by simp at h; omega, fun _ => ?_⟩⟩
   rw [e0]; exact hnext
  | succ d ih =>
   intro k hd hk
   rcases Nat.lt_or_ge k (keyedR (kc N) l).length with hlt | hge
   ·have e1 : wI ((k : Int) + 1) = ((k + 1 : Nat) : Int) := by rw [wI, wrapI (by omega)]; omega
    have ok := hok _ (keyedR_sub l _ (List.getElem_mem hlt))
    have hq := same k hlt
    refine law16_OrderLast_j42_step _ _ _ _ _ _ _ _ ⟨fun _ => ⟨(keyedR (kc N) l)[k], by simp, by omega, l[i], by simp, by omega, _, req_is N _ _ ok.1 oi.1 ok.2.2, fun h => ?_, fun h => ?_⟩, fun h => by simp at h; omega⟩
    ·have hkK : k = K := hq.1 (by simpa using h)
     subst hkK
     refine ⟨l[last], by rw [Int.toNat_natCast]; exact hKs, by omega, l[last], by simp, by omega, true, req_refl _ olast.2.1, ?_⟩
     rw [e1]
     have := ih (k + 1) (by omega) (by omega)
     rwa [show decide (k < k + 1) = true by simp] at this
    ·have hkK : k ≠ K := fun e => absurd (hq.2 e) (by simpa using h)
     rw [e1]
     have := ih (k + 1) (by omega) (by omega)
     rwa [show decide (K < k + 1) = decide (K < k) by rw [decide_eq_decide]; omega] at this
   ·refine law16_OrderLast_j42_step _ _ _ _ _ _ _ _ ⟨fun h => by simp at h; omega, fun _ => ⟨fun h => by simp at h; omega, fun _ => ?_⟩⟩
    rw [e0]; exact hnext
 have := key _ 0 (Nat.le_refl _) (by omega)
 simpa using this
theorem olast_last {i : Nat} (hi : i < l.length) (hnext : law16_OrderLast_j33 ((i + 1 : Nat) : Int) (keyedR (kc N) l) l mg true) : ∀ (d k last : Nat) (hlast : last < l.length), l.length - k <= d -> k <= l.length -> kc N l[last] l[i] = 0 -> (∀ (q : Nat) (h : q < l.length), last < q -> q < k -> kc N l[q] l[i] ≠ 0) -> law16_OrderLast_j40 k last i (keyedR (kc N) l) l mg true := by
 have oi := hok _ (List.getElem_mem hi)
 intro d
 induction d with
 | zero =>
  intro k last hlast hd hk hs ha
  exact law16_OrderLast_j40_step _ _ _ _ _ _ _ ⟨fun h => by simp at h; omega, fun _ => olast_found hl hok hi hlast hs (fun q h h2 => ha q h h2 (by omega)) hnext⟩
 | succ d ih =>
  intro k last hlast hd hk hs ha
  rcases Nat.lt_or_ge k l.length with hlt | hge
  ·have e1 : wI ((k : Int) + 1) = ((k + 1 : Nat) : Int) := by rw [wI, wrapI (by omega)]; omega
   have ok := hok _ (List.getElem_mem hlt)
   refine law16_OrderLast_j40_step _ _ _ _ _ _ _ ⟨fun _ => ⟨l[k], by simp, by omega, l[i], by simp, by omega, _, req_is N _ _ ok.1 oi.1 ok.2.2, fun h => ?_, fun h => ?_⟩, fun h => by simp at h; omega⟩
   ·rw [e1]
    exact ih (k + 1) k hlt (by omega) (by omega) (by simpa using h) (fun q h h2 h3 => by omega)
   ·rw [e1]
    refine ih (k + 1) last hlast (by omega) (by omega) hs (fun q hq h2 h3 => ?_)
    rcases Nat.lt_or_ge q k with h4 | h4
    ·exact ha q hq h2 h4
    ·have : q = k := by omega
     subst this
     simpa using h
  ·exact law16_OrderLast_j40_step _ _ _ _ _ _ _ ⟨fun h => by simp at h; omega, fun _ => olast_found hl hok hi hlast hs (fun q h h2 => ha q h h2 (by omega)) hnext⟩
 include hw
theorem olast_all : ∀ (d i : Nat), l.length - i <= d -> i <= l.length -> law16_OrderLast_j33 i (keyedR (kc N) l) l mg true := by
 have hlen := keyedR_len (c := kc N) l
 intro d
 induction d with
 | zero => exact fun i hd hi => law16_OrderLast_j33_step _ _ _ _ _ ⟨fun h => by simp at h; omega, fun _ => ⟨fun _ => ⟨_, hw, rfl⟩, fun h => by simp at h; omega⟩⟩
 | succ d ih =>
  intro i hd hi
  rcases Nat.lt_or_ge i l.length with hlt | hge
  ·refine law16_OrderLast_j33_step _ _ _ _ _ ⟨fun _ => ?_, fun h => by simp at h; omega⟩
   exact olast_last hl hok hlt (ih (i + 1) (by omega) (by omega)) _ i i hlt (Nat.le_refl _) hi (cmpV_refl _ _) (fun q h h2 h3 => by omega)
  ·exact law16_OrderLast_j33_step _ _ _ _ _ ⟨fun h => by simp at h; omega, fun _ => ⟨fun _ => ⟨_, hw, rfl⟩, fun h => by simp at h; omega⟩⟩
theorem olast_asc : ∀ (d i : Nat), (keyedR (kc N) l).length - i <= d -> i <= (keyedR (kc N) l).length -> law16_OrderLast_j22 i (keyedR (kc N) l) l mg true := by
 have tc : Tp (kc N) := tp_on (tp_V N) fun x : GValue × GValue => x.1
 have hlen := keyedR_len (c := kc N) l
 intro d
 induction d with
 | zero => exact fun i hd hi => law16_OrderLast_j22_step _ _ _ _ _ ⟨fun h => by simp at h; omega, fun _ => olast_all hw hl hok _ 0 (Nat.le_refl _) (by omega)⟩
 | succ d ih =>
  intro i hd hi
  rcases Nat.lt_or_ge i (keyedR (kc N) l).length with hlt | hge
  ·have e1 : wI ((i : Int) + 1) = ((i + 1 : Nat) : Int) := by rw [wI, wrapI (by omega)]; omega
   refine law16_OrderLast_j22_step _ _ _ _ _ ⟨fun _ => ⟨fun h0 => ?_, fun h0 => ?_⟩, fun h => by simp at h; omega⟩
   ·have h0' : 0 < i := by simpa using h0
    have e2 : wI ((i : Int) - 1) = ((i - 1 : Nat) : Int) := by rw [wI, wrapI (by omega)]; omega
    have hl1 : i - 1 < (keyedR (kc N) l).length := by omega
    have o1 := hok _ (keyedR_sub l _ (List.getElem_mem hl1))
    have o2 := hok _ (keyedR_sub l _ (List.getElem_mem hlt))
    have hs := List.pairwise_iff_getElem.1 (keyedR_strict tc l) (i - 1) i hl1 hlt (by omega)
    rw [e2]
    refine ⟨(keyedR (kc N) l)[i - 1], by simp, by omega, (keyedR (kc N) l)[i], by simp, by omega, _, cmp_is N _ _ o1.1 o2.1 o1.2.2, fun h => ?_, fun _ => ?_⟩
    ·have : ¬ (0 <= kc N (keyedR (kc N) l)[i - 1] (keyedR (kc N) l)[i]) := by omega
     exact absurd (by simpa using h) this
    ·rw [e1]; exact ih (i + 1) (by omega) (by omega)
   ·rw [e1]; exact ih (i + 1) (by omega) (by omega)
  ·exact law16_OrderLast_j22_step _ _ _ _ _ ⟨fun h => by simp at h; omega, fun _ => olast_all hw hl hok _ 0 (Nat.le_refl _) (by omega)⟩
end
theorem olast_true {mg : Int} (hw : law16_awake mg true) (l : List (GValue × GValue)) (hl : Sz l.length /\ Sz (l.length * 256)) (ol : ∀ x ∈ l, OkD x.1 /\ OkD x.2) : law16_OrderLast mg l true := by
 obtain ⟨N, hN⟩ := sizes hw l
 refine law16_OrderLast_step _ _ _ ⟨fun _ => rfl, fun h => ?_⟩
 have h40 : l.length <= 40 := by simp at h; omega
 have h1 := pairs_both N l (by omega) (fun x hx => ⟨(ol x hx).1, (hN x hx).1⟩)
 exact ⟨_, h1.1, olast_asc hw h40 (fun x hx => ⟨(ol x hx).1, (ol x hx).2, (hN x hx).1⟩) _ 0 (Nat.le_refl _) (by omega)⟩
def tblO : Tbl := [(6, (62, k6_18, [.tmp 4])), (17, (33, k17_11, [.tmp 2])), (34, (9, k34_2, [.tmp 2])), (19, (39, k19_17, [.tmp 6])), (18, (62, k18_8, [.tmp 4])), (35, (9, k35_2, [.tmp 2])), (16, (20, k16_19, [.tmp 4])), (33, (6, k33_2, [.tmp 2])), (45, (39, k45_5, [.tmp 4])), (60, (28, k60_8, [.tmp 2])), (61, (28, k61_19, [.tmp 4])), (62, (6, k62_2, [.tmp 2])), (70, (16, k70_9, [.tmp 2])), (79, (16, k79_2, [.tmp 6]))]
theorem tblO_ok : TblOK Tryd.prog tblO := (tok_cons fn6 (tok_cons fn17 (tok_cons fn34 (tok_cons fn19 (tok_cons fn18 (tok_cons fn35 (tok_cons fn16 (tok_cons fn33 (tok_cons fn45 (tok_cons fn60 (tok_cons fn61 (tok_cons fn62 (tok_cons fn70 (tok_cons fn79 tok_nil))))))))))))))
section
open Go.Shelf
def Tryd.lays155_ren : Go.Shelf.Ren := ⟨fun | 155 => 46 | 154 => 63 | 138 => 71 | 165 => 72 | 143 => 73 | 166 => 74 | 197 => 75 | 169 => 76 | 195 => 80 | 218 => 81 | 240 => 82 | 241 => 83 | 219 => 84 | 260 => 85 | 276 => 88 | 277 => 89 | 217 => 90 | 225 => 91 | 224 => 92 | 267 => 93 | 266 => 95 | 314 => 96 | n => n, fun | 9 => 9 | 3 => 3 | 4 => 4 | 72 => 92 | 0 => 0 | 76 => 96 | 105 => 98 | 21 => 21 | 5 => 5 | 70 => 90 | 20 => 20 | 37 => 72 | 75 => 95 | 127 => 103 | 164 => 105 | 46 => 88 | 119 => 109 | 139 => 112 | 138 => 111 | 146 => 114 | 51 => 113 | 80 => 100 | n => n, fun | 1 => 0 | 3 => 1 | 4 => 2 | n => n⟩
theorem Tryd.lays155 : Go.Proofs.Lays.n155 Tryd.prog Tryd.lays155_ren := {
 mixed := by kernel_rfl
 f138 := Tryd.func71.trans (congrArg some (by kernel_rfl))
 f143 := Tryd.func73.trans (congrArg some (by kernel_rfl))
 f154 := Tryd.func63.trans (congrArg some (by kernel_rfl))
 f155 := Tryd.func46.trans (congrArg some (by kernel_rfl))
 f165 := Tryd.func72.trans (congrArg some (by kernel_rfl))
 f166 := Tryd.func74.trans (congrArg some (by kernel_rfl))
 f169 := Tryd.func76.trans (congrArg some (by kernel_rfl))
 f195 := Tryd.func80.trans (congrArg some (by kernel_rfl))
 f197 := Tryd.func75.trans (congrArg some (by kernel_rfl))
 f217 := Tryd.func90.trans (congrArg some (by kernel_rfl))
 f218 := Tryd.func81.trans (congrArg some (by kernel_rfl))
 f219 := Tryd.func84.trans (congrArg some (by kernel_rfl))
 f224 := Tryd.func92.trans (congrArg some (by kernel_rfl))
 f225 := Tryd.func91.trans (congrArg some (by kernel_rfl))
 f240 := Tryd.func82.trans (congrArg some (by kernel_rfl))
 f241 := Tryd.func83.trans (congrArg some (by kernel_rfl))
 f260 := Tryd.func85.trans (congrArg some (by kernel_rfl))
 f266 := Tryd.func95.trans (congrArg some (by kernel_rfl))
 f267 := Tryd.func93.trans (congrArg some (by kernel_rfl))
 f276 := Tryd.func88.trans (congrArg some (by kernel_rfl))
 f277 := Tryd.func89.trans (congrArg some (by kernel_rfl))
 f314 := Tryd.func96.trans (congrArg some (by kernel_rfl))
 t0 := Tryd.underlying0
 a0 := Tryd.isAgg0
 z0 := Tryd.sizeOf0
 v0 := Tryd.zeroValue0
 t3 := Tryd.underlying3
 a3 := Tryd.isAgg3
 z3 := Tryd.sizeOf3
 v3 := Tryd.zeroValue3
 t4 := Tryd.underlying4
 a4 := Tryd.isAgg4
 z4 := Tryd.sizeOf4
 v4 := Tryd.zeroValue4
 t5 := Tryd.underlying5
 a5 := Tryd.isAgg5
 z5 := Tryd.sizeOf5
 v5 := Tryd.zeroValue5
 t9 := Tryd.underlying9
 a9 := Tryd.isAgg9
 z9 := Tryd.sizeOf9
 v9 := Tryd.zeroValue9
 t20 := Tryd.underlying20
 a20 := Tryd.isAgg20
 z20 := Tryd.sizeOf20
 v20 := Tryd.zeroValue20
 t21 := Tryd.underlying21
 a21 := Tryd.isAgg21
 z21 := Tryd.sizeOf21
 v21 := Tryd.zeroValue21
 t37 := Tryd.underlying72
 a37 := Tryd.isAgg72
 z37 := Tryd.sizeOf72
 v37 := Tryd.zeroValue72
 t46 := Tryd.underlying88
 a46 := Tryd.isAgg88
 z46 := Tryd.sizeOf88
 v46 := Tryd.zeroValue88
 t51 := Tryd.underlying113
 a51 := Tryd.isAgg113
 z51 := Tryd.sizeOf113
 v51 := Tryd.zeroValue113
 t70 := Tryd.underlying90
 a70 := Tryd.isAgg90
 z70 := Tryd.sizeOf90
 v70 := Tryd.zeroValue90
 t72 := Tryd.underlying92
 a72 := Tryd.isAgg92
 z72 := Tryd.sizeOf92
 v72 := Tryd.zeroValue92
 t75 := Tryd.underlying95
 a75 := Tryd.isAgg95
 z75 := Tryd.sizeOf95
 v75 := Tryd.zeroValue95
 t76 := Tryd.underlying96
 a76 := Tryd.isAgg96
 z76 := Tryd.sizeOf96
 v76 := Tryd.zeroValue96
 t105 := Tryd.underlying98
 a105 := Tryd.isAgg98
 z105 := Tryd.sizeOf98
 v105 := Tryd.zeroValue98
 t119 := Tryd.underlying109
 a119 := Tryd.isAgg109
 z119 := Tryd.sizeOf109
 t127 := Tryd.underlying103
 a127 := Tryd.isAgg103
 z127 := Tryd.sizeOf103
 v127 := Tryd.zeroValue103
 t138 := Tryd.underlying111
 a138 := Tryd.isAgg111
 z138 := Tryd.sizeOf111
 v138 := Tryd.zeroValue111
 t139 := Tryd.underlying112
 a139 := Tryd.isAgg112
 z139 := Tryd.sizeOf112
 v139 := Tryd.zeroValue112
 t146 := Tryd.underlying114
 a146 := Tryd.isAgg114
 z146 := Tryd.sizeOf114
 v146 := Tryd.zeroValue114
 t164 := Tryd.underlying105
 a164 := Tryd.isAgg105
 z164 := Tryd.sizeOf105
 v164 := Tryd.zeroValue105
 g1 := by kernel_rfl
 g3 := by kernel_rfl
 g4 := by kernel_rfl }
theorem Tryd.Builder_Extra_155 : Builder.Extra Tryd.prog Tryd.lays155_ren := {
 sizeBuilder := by kernel_rfl
 liesBuilder := by kernel_rfl
 t5 := Tryd.underlying5
 a5 := Tryd.isAgg5
 z5 := Tryd.sizeOf5
 v5 := Tryd.zeroValue5
 infoByte := by kernel_rfl
 cellsByte := by kernel_rfl
 sizeByte := by kernel_rfl
 neB5 := by decide }
open Go.RowKit Go.Lib in
/-- strings.ReplaceAll: "ReplaceAll returns a copy of the string s with all non-overlapping instances of old replaced by new.": AT AN old THAT IS NOT EMPTY: 'Lib.replaceAll s old new'. (LAID: no walk: one application.) -/
theorem Tryd.strings_ReplaceAll (s old new : ByteArray) (m : Int) (w : World) (hs : s.size < 4294967281) (hm : w.cell? ⟨0, 0, none⟩ = some (.int .i64 m)) (h1 : 1 <= old.size) (hlen : s.size + Lib.countB s old * new.size <= 140737488355328) :
  Calls Tryd.prog 46 #[.string s, .string old, .string new] w fun e w' =>
   e = .returned (.string ⟨(Lib.replaceAll s.data.toList old.data.toList new.data.toList).toArray⟩) /\ Below w.heap.size w w' := Any.strings_ReplaceAll Tryd.lays155 Tryd.Builder_Extra_155 s old new m w hs hm h1 hlen
end
theorem elt_inv {σ : Sg} {cells : List AV} {off : Nat} {v : Value} (h : Rel σ (.elt cells off) v) : ∃ (b o : Nat) (xs : Nat -> Value), v = .pointer (some ⟨b, o + off, none⟩) /\ ∀ (i : Nat) (av : AV), cells[i]? = some av -> σ.w.cell? ⟨b, o + i, none⟩ = some (xs i) /\ Rel σ av (xs i) := by
 cases h with
 | elt _ _ b o xs hc hr => exact ⟨b, o, xs, rfl, fun i av hi => ⟨(hc i av hi).1, hr i av hi⟩⟩
theorem rel_v {σ : Sg} {x v : Value} (h : Rel σ (.v x) v) : v = x := by
 cases h; rfl
theorem globs_cell {w : World} {outer : Nat -> Nat -> Prop} {m : Int} (h : Globs w outer (GLm m)) : w.cell? ⟨0, 0, none⟩ = some (.int .i64 m) := by
 obtain ⟨b, o, xs, hv, hc⟩ := elt_inv (h 0 [.v (.int .i64 m)] (List.mem_singleton.2 rfl))
 obtain ⟨h1, h2⟩ := hc 0 _ rfl
 rw [rel_v h2] at h1
 injection hv with hv
 injection hv with hv
 injection hv with h3 h4
 have h5 : o = 0 := by omega
 subst h5
 rw [← h3] at h1
 exact h1
theorem esc_is (m : Int) : strings_ReplaceAll m ⟨#[97, 0]⟩ ⟨#[0]⟩ ⟨#[0, 255]⟩ ⟨#[97, 0, 255]⟩ := by
 refine ⟨⟨_, Tryd.func46, by kernel_rfl, by kernel_rfl⟩, fun w outer cargs ho hg hr => ?_⟩
 obtain ⟨hl, hx⟩ := hr
 obtain ⟨x0, h0, r0⟩ := hx 0 _ rfl
 obtain ⟨x1, h1, r1⟩ := hx 1 _ rfl
 obtain ⟨x2, h2, r2⟩ := hx 2 _ rfl
 have e0 := rel_v r0
 have e1 := rel_v r1
 have e2 := rel_v r2
 subst e0 e1 e2
 obtain rfl : cargs = #[.string ⟨#[97, 0]⟩, .string ⟨#[0]⟩, .string ⟨#[0, 255]⟩] := by
  apply Array.ext'
  match hc : cargs.toList, hl, h0, h1, h2 with
  | [a, b, c], _, h0, h1, h2 => simp at h0 h1 h2; simp [h0, h1, h2]
 have h := Tryd.strings_ReplaceAll ⟨#[97, 0]⟩ ⟨#[0]⟩ ⟨#[0, 255]⟩ m w (by decide) (globs_cell hg) (by decide) (by decide)
 have e9 : (⟨(Lib.replaceAll (⟨#[97, 0]⟩ : ByteArray).data.toList (⟨#[0]⟩ : ByteArray).data.toList (⟨#[0, 255]⟩ : ByteArray).data.toList).toArray⟩ : ByteArray) = ⟨#[97, 0, 255]⟩ := by decide +kernel
 rw [e9] at h
 exact h.mono fun e w' ⟨he, hb⟩ => ⟨.v (.string ⟨#[97, 0, 255]⟩), _, he, Past.of_below hb, .v _ rfl, rfl⟩
theorem key_awake (m : Int) : order_Key m ⟨7, 0, ⟨#[97, 0]⟩, [], [], [], []⟩ ⟨#[7, 97, 0, 255, 0, 0]⟩ := by
 refine order_Key_step _ _ _ ⟨true, ?_, fun h => by simp at h, fun _ => ⟨fun _ => ⟨_, esc_is m, by decide, by decide, by decide⟩, fun h => by simp at h⟩⟩
 refine run_pureN (a := .v (.bool true)) (T := tblO) (M := fun _ _ => false) (md := false) tblO_ok 1000 ?_ rfl
 kernel_rfl
theorem awake_is (m : Int) : law16_awake m true := by
 refine law16_awake_step _ _ ⟨-1, ?_, fun _ => ⟨_, key_awake m, by decide⟩, fun h => by simp at h⟩
 refine run_pureN (a := .v (.int .i64 (-1))) (T := tblO) (M := fun _ _ => false) (md := false) tblO_ok 1000 ?_ rfl
 kernel_rfl
theorem globs_of_cell {w : World} {m : Int} (h : w.cell? ⟨0, 0, none⟩ = some (.int .i64 m)) : Globs w nowhere (GLm m) := by
 intro g cells hg
 obtain ⟨rfl, rfl⟩ := Prod.mk.inj (List.mem_singleton.1 hg)
 refine .elt [.v (.int .i64 m)] 0 _ 0 (fun _ => .int .i64 m) (fun i av hi => ?_) (fun i av hi => ?_)
 ·cases i with
  | zero => simp at hi; subst hi; exact ⟨h, fun q => q.elim (fun x => x.elim) (fun x => bare_own _ _ _ _ x), rfl⟩
  | succ i => simp at hi
 ·cases i with
  | zero => simp at hi; subst hi; exact .v _ rfl
  | succ i => simp at hi
theorem calls_true_gl {P : Program} {f : FuncId} {args : List AV} {cargs : Array Value} {W : World} {gl : List (Nat × List AV)} (hg : Globs W nowhere gl) (hf : PureN P gl f args (.v (.bool true))) (hr : Rels (bare W nowhere) args cargs.toList) :
  Calls P f cargs W fun e W' => e = .returned (.bool true) /\ Below W.heap.size W W' := by
 refine (hf.2 W nowhere cargs (fun b o h => h.elim) hg hr).mono fun e W' ⟨av, x, he, hp, hrel, hav⟩ => ?_
 rw [nz_true hav] at hrel
 cases hrel with
 | v _ _ => exact ⟨he, hp.below⟩
section
variable {n : Nat} {av : AV}
theorem ar_lp (h : TyV Tryd.prog n 22 av) : ∃ x : List (GValue × GValue), av = .sl (x.map eGPair') .no /\ (Sz x.length /\ Sz (x.length * 256)) /\ ∀ y ∈ x, OkD y.1 /\ OkD y.2 := by
 have hu : Tryd.prog.underlying 22 = some (.slice 32) := by kernel_rfl
 unfold TyV at h; rw [hu] at h
 obtain ⟨l, e, h1, h2⟩ := ty_slw (w := 256) (e := 32) (enc := eGPair') (Ok := fun x => OkD x.1 /\ OkD x.2) hu (by kernel_rfl) (of_decide_eq_true (by kernel_rfl)) (fun k a hk ha => op_pair ha) h
 exact ⟨l, by simpa using e, h1, h2⟩
end
end Go.Proofs.YtkcbmobdpenngaaDoor.Lift
