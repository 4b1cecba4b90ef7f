/- Part 4 of the texts that prove OrderLastEnd. -/
import Derived.Test.YtkcbmobdpenngaaDoorOrderLastEndP2
import Derived.Test.YtkcbmobdpenngaaDoorOrderLastEndP1
import Derived.OpenShut
import Derived.ProofKit
import Derived.Test.YtkcbmobdpenngaaDoorProg
namespace Go.Proofs.YtkcbmobdpenngaaDoor.Lift
open Go.RowKit
set_option linter.unusedVariables false
set_option linter.unusedSimpArgs false
set_option linter.unnecessarySimpa false
set_option linter.unusedSectionVars false
set_option maxRecDepth 100000
section
variable {α : Type} {C : α -> α -> Int -> Prop} {cm : α -> α -> Int} {Dm : α -> Prop}
theorem split_last {l : List α} {k : Nat} (h : k < l.length) : ∃ x, l[k]? = some x /\ l.take (k + 1) = l.take k ++ [x] /\ l.drop k = x :: l.drop (k + 1) := by
 refine ⟨l[k], List.getElem?_eq_getElem h, ?_, List.drop_eq_getElem_cons h⟩
 rw [List.take_add_one, List.getElem?_eq_getElem h]; rfl
theorem cut_at (hp : Pre cm Dm) (X A B Y : List (α × Nat)) (a b m mid lo hi : Nat) (ha : a = X.length) (hm : m = a + A.length) (hb : b = m + B.length) (hmid : mid = (a + b) / 2) (hlh : (m <= mid /\ lo = a /\ hi = m) ∨ (mid < m /\ lo = mid + m - b /\ hi = mid))
  (hD : ∀ x ∈ A ++ B, Dm x.1) (hA : Srt cm A) (hB : Srt cm B) (s : Nat) (h2 : lo <= s) (h4 : s <= hi) (h5 : s = lo ∨ ∀ x y, A[s - 1 - a]? = some x -> B[mid - s]? = some y -> Rt cm x y) (h6 : s = hi ∨ ∀ x y, A[s - a]? = some x -> B[mid - 1 - s]? = some y -> Rt cm y x) :
  ∀ x ∈ A.take (s - a) ++ B.take (mid - s), ∀ y ∈ A.drop (s - a) ++ B.drop (mid - s), Rt cm x y := by
 have hAs : A.take (s - a) ++ A.drop (s - a) = A := List.take_append_drop _ _
 have hBs : B.take (mid - s) ++ B.drop (mid - s) = B := List.take_append_drop _ _
 have l1 : (A.take (s - a)).length = s - a := by simp; omega
 have l2 : (A.drop (s - a)).length = m - s := by simp; omega
 have l3 : (B.take (mid - s)).length = mid - s := by simp; omega
 have l4 : (B.drop (mid - s)).length = b - m - (mid - s) := by simp; omega
 have f1 : A.take (s - a) = [] ∨ B.drop (mid - s) = [] ∨ ∃ U x y V, A.take (s - a) = U ++ [x] /\ B.drop (mid - s) = y :: V /\ Rt cm x y := by
  rcases h5 with h5 | h5
  ·rcases hlh with ⟨g1, g2, g3⟩ | ⟨g1, g2, g3⟩
   ·left; rw [h5, g2, Nat.sub_self]; rfl
   ·right; left; exact List.drop_eq_nil_of_le (by omega)
  ·by_cases hs : s = a
   ·left; rw [hs, Nat.sub_self]; rfl
   by_cases hb2 : mid - s < B.length
   ·obtain ⟨x, q1, q2, _⟩ := split_last (l := A) (k := s - 1 - a) (by omega)
    obtain ⟨y, r1, _, r3⟩ := split_last (l := B) (k := mid - s) hb2
    right; right
    exact ⟨_, x, y, _, by rw [← q2]; congr 1; omega, r3, h5 x y q1 r1⟩
   ·right; left; exact List.drop_eq_nil_of_le (by omega)
 have f2 : B.take (mid - s) = [] ∨ A.drop (s - a) = [] ∨ ∃ U x y V, B.take (mid - s) = U ++ [x] /\ A.drop (s - a) = y :: V /\ Rt cm x y := by
  rcases h6 with h6 | h6
  ·rcases hlh with ⟨g1, g2, g3⟩ | ⟨g1, g2, g3⟩
   ·right; left; exact List.drop_eq_nil_of_le (by omega)
   ·left; rw [h6, g3, Nat.sub_self]; rfl
  ·by_cases hs : mid = s
   ·left; rw [hs, Nat.sub_self]; rfl
   by_cases ha2 : s - a < A.length
   ·obtain ⟨x, q1, _, q3⟩ := split_last (l := A) (k := s - a) ha2
    obtain ⟨y, r1, r2, _⟩ := split_last (l := B) (k := mid - 1 - s) (by omega)
    right; right
    exact ⟨_, y, x, _, by rw [← r2]; congr 1; omega, q3, h6 x y q1 r1⟩
   ·right; left; exact List.drop_eq_nil_of_le (by omega)
 exact cut_all hp (A1 := A.take (s - a)) (A2 := A.drop (s - a)) (B1 := B.take (mid - s)) (B2 := B.drop (mid - s)) (by rw [hAs, hBs]; exact hD) (by rw [hAs]; exact hA) (by rw [hBs]; exact hB) f1 f2
variable (F : SortP α C) (hp : Pre cm Dm) (hC : ∀ x y, Dm x -> Dm y -> C x y (cm x y))
 include hp hC
theorem sy36_end {n0 : Nat} (hn : n0 <= 1125899906842624) (k : Nat) (ih : MergeOK F cm Dm n0 k) (X A B Y : List (α × Nat)) (a b m mid lo hi : Nat) (ha : a = X.length) (hm : m = a + A.length) (hb : b = m + B.length) (hmid : mid = (a + b) / 2) (hlh : (m <= mid /\ lo = a /\ hi = m) ∨ (mid < m /\ lo = mid + m - b /\ hi = mid))
  (hD : ∀ x ∈ A ++ B, Dm x.1) (hA : Srt cm A) (hB : Srt cm B) (h0 : n0 = b + Y.length) (hA0 : A ≠ []) (hB0 : B ≠ []) (hk : b - a <= k + 1) (ht : ∀ x ∈ A, ∀ y ∈ B, x.2 < y.2) (s : Nat) (h2 : lo <= s) (h4 : s <= hi) (h5 : s = lo ∨ ∀ x y, A[s - 1 - a]? = some x -> B[mid - s]? = some y -> Rt cm x y) (h6 : s = hi ∨ ∀ x y, A[s - a]? = some x -> B[mid - 1 - s]? = some y -> Rt cm y x) :
  ∃ S, Srt cm S /\ S.Perm (A ++ B) /\ F.sy36 a b m s s n0 (fs (X ++ A ++ B ++ Y)) (fs (X ++ S ++ Y)) := by
 have al := List.length_pos_iff.2 hA0
 have bl := List.length_pos_iff.2 hB0
 have bnd : a <= s /\ s <= m /\ s <= mid /\ mid + m <= b + s /\ a < mid /\ mid < b := by omega
 have hmI : hI (a : Int) (b : Int) = (mid : Int) := by rw [hI_nat (by omega) (by omega), hmid]
 have emm : wI ((mid : Int) + m) = ((mid + m : Nat) : Int) := by rw [wI, wrapI (by omega)]; omega
 have hall := cut_at hp X A B Y a b m mid lo hi ha hm hb hmid hlh hD hA hB s h2 h4 h5 h6
 clear h5 h6 h2 h4 hlh
 have hAs : A.take (s - a) ++ A.drop (s - a) = A := List.take_append_drop _ _
 have hBs : B.take (mid - s) ++ B.drop (mid - s) = B := List.take_append_drop _ _
 have l1 : (A.take (s - a)).length = s - a := by simp; omega
 have l2 : (A.drop (s - a)).length = m - s := by simp; omega
 have l3 : (B.take (mid - s)).length = mid - s := by simp; omega
 have l4 : (B.drop (mid - s)).length = b - m - (mid - s) := by simp; omega
 obtain ⟨S, p1, p2, p3⟩ := sy40_law F hp hC hn k ih X (A.take (s - a)) (A.drop (s - a)) (B.take (mid - s)) (B.drop (mid - s)) Y a b m mid s ha (by omega) (by omega) hmid (by omega) (by omega) h0 (by omega) hk (by rw [hAs, hBs]; exact hD) (by rw [hAs]; exact hA) (by rw [hBs]; exact hB) (by rw [hAs, hBs]; exact ht) hall
 rw [hAs, hBs] at p2
 have e1 : wI (((mid + m : Nat) : Int) - s) = ((mid + m - s : Nat) : Int) := by rw [wI, wrapI (by omega)]; omega
 refine ⟨S, p1, p2, F.h_sy36 _ _ _ _ _ _ _ _ ⟨fun h => by simp at h, fun _ => ?_⟩⟩
 rw [hmI, emm, e1]
 have hin : fs (X ++ A ++ B ++ Y) = fs (X ++ A.take (s - a)) ++ fs (A.drop (s - a)) ++ fs (B.take (mid - s)) ++ fs (B.drop (mid - s) ++ Y) := by
  have : X ++ A ++ B ++ Y = X ++ (A.take (s - a) ++ A.drop (s - a)) ++ (B.take (mid - s) ++ B.drop (mid - s)) ++ Y := by rw [hAs, hBs]
  rw [this]; simp only [fs, List.map_append, List.append_assoc]
 have hout : fs (X ++ A.take (s - a)) ++ fs (B.take (mid - s)) ++ fs (A.drop (s - a)) ++ fs (B.drop (mid - s) ++ Y) = fs (X ++ A.take (s - a) ++ B.take (mid - s) ++ A.drop (s - a) ++ B.drop (mid - s) ++ Y) := by simp only [fs, List.map_append, List.append_assoc]
 refine ⟨fun h => ?_, fun h => ?_⟩
 ·simp only [Bool.and_eq_true, decide_eq_true_eq] at h
  have hr := ro_law F hn (fs (X ++ A.take (s - a))) (fs (A.drop (s - a))) (fs (B.take (mid - s))) (fs (B.drop (mid - s) ++ Y)) (a := s) (m := m) (b := mid + m - s) (by simp only [fs, List.length_map, List.length_append]; omega) (by simp only [fs, List.length_map]; omega) (by simp only [fs, List.length_map]; omega) (by simp only [fs, List.length_map, List.length_append]; omega) (fun h' => by have := congrArg List.length h'; simp only [fs, List.length_map, List.length_nil] at this; omega) (fun h' => by have := congrArg List.length h'; simp only [fs, List.length_map, List.length_nil] at this; omega)
  rw [← hin, hout] at hr
  exact ⟨_, hr, ⟨ne_fs (n0 := n0) (by simp only [List.length_append]; omega) (by omega), ne_fs (n0 := n0) (by simp only [List.length_append]; omega) (by omega)⟩, p3⟩
 ·simp only [Bool.and_eq_false_iff, decide_eq_false_iff_not] at h
  have heq : fs (X ++ A ++ B ++ Y) = fs (X ++ A.take (s - a) ++ B.take (mid - s) ++ A.drop (s - a) ++ B.drop (mid - s) ++ Y) := by
   rw [hin, ← hout]
   have : A.drop (s - a) = [] ∨ B.take (mid - s) = [] := by
    rcases h with h | h
    ·left; exact List.drop_eq_nil_of_le (by omega)
    ·right; exact List.eq_nil_of_length_eq_zero (by omega)
   rcases this with e | e <;> rw [e] <;> simp [fs]
  rw [heq]; exact p3
theorem sy36_law {n0 : Nat} (hn : n0 <= 1125899906842624) (k : Nat) (ih : MergeOK F cm Dm n0 k) (X A B Y : List (α × Nat)) (a b m mid lo hi : Nat) (ha : a = X.length) (hm : m = a + A.length) (hb : b = m + B.length) (hmid : mid = (a + b) / 2) (h0 : n0 = b + Y.length) (hA0 : A ≠ []) (hB0 : B ≠ []) (hk : b - a <= k + 1) (hlh : (m <= mid /\ lo = a /\ hi = m) ∨ (mid < m /\ lo = mid + m - b /\ hi = mid))
  (hD : ∀ x ∈ A ++ B, Dm x.1) (hA : Srt cm A) (hB : Srt cm B) (ht : ∀ x ∈ A, ∀ y ∈ B, x.2 < y.2) : ∀ (d s t : Nat), t - s <= d -> lo <= s -> s <= t -> t <= hi ->
  (s = lo ∨ ∀ x y, A[s - 1 - a]? = some x -> B[mid - s]? = some y -> Rt cm x y) -> (t = hi ∨ ∀ x y, A[t - a]? = some x -> B[mid - 1 - t]? = some y -> Rt cm y x) ->
  ∃ S, Srt cm S /\ S.Perm (A ++ B) /\ F.sy36 a b m t s n0 (fs (X ++ A ++ B ++ Y)) (fs (X ++ S ++ Y)) := by
 have al := List.length_pos_iff.2 hA0
 have bl := List.length_pos_iff.2 hB0
 have hmI : hI (a : Int) (b : Int) = (mid : Int) := by rw [hI_nat (by omega) (by omega), hmid]
 have emm : wI ((mid : Int) + m) = ((mid + m : Nat) : Int) := by rw [wI, wrapI (by omega)]; omega
 intro d
 induction d with
 | zero =>
  intro s t h1 h2 h3 h4 h5 h6
  obtain rfl : s = t := by omega
  exact sy36_end F hp hC hn k ih X A B Y a b m mid lo hi ha hm hb hmid hlh hD hA hB h0 hA0 hB0 hk ht s h2 h4 h5 h6
 | succ d ihd =>
  intro s t h1 h2 h3 h4 h5 h6
  by_cases hst : s = t
  ·exact ihd s t (by omega) h2 h3 h4 h5 h6
  have hcI : hI (s : Int) (t : Int) = (((s + t) / 2 : Nat) : Int) := hI_nat (by omega) (by omega)
  generalize hcd : (s + t) / 2 = c at hcI
  have hc : s <= c /\ c < t := by omega
  have hcA : c - a < A.length /\ a <= c := by omega
  have hcB : mid - 1 - c < B.length /\ c < mid := by omega
  obtain ⟨x, hx, _, _⟩ := split_last hcA.1
  obtain ⟨y, hy, _, _⟩ := split_last hcB.1
  have hxA := List.mem_of_getElem? hx
  have hyB := List.mem_of_getElem? hy
  have gx : (fs (X ++ A ++ B ++ Y))[c]? = some x.1 := by
   have : fs (X ++ A ++ B ++ Y) = fs X ++ fs A ++ fs (B ++ Y) := by simp [fs]
   rw [this, show c = (fs X).length + (c - a) by simp [fs]; omega, getL _ _ _ (by simp [fs]; omega)]
   simp [fs, hx]
  have gy : (fs (X ++ A ++ B ++ Y))[mid + m - 1 - c]? = some y.1 := by
   have : fs (X ++ A ++ B ++ Y) = fs (X ++ A) ++ fs B ++ fs Y := by simp [fs]
   rw [this, show mid + m - 1 - c = (fs (X ++ A)).length + (mid - 1 - c) by simp [fs]; omega, getL _ _ _ (by simp [fs]; omega)]
   simp [fs, hy]
  have e1 : wI (((mid + m : Nat) : Int) - 1) = ((mid + m - 1 : Nat) : Int) := by rw [wI, wrapI (by omega)]; omega
  have e2 : wI (((mid + m - 1 : Nat) : Int) - (c : Int)) = ((mid + m - 1 - c : Nat) : Int) := by rw [wI, wrapI (by omega)]; omega
  have e3 : wI ((c : Int) + 1) = ((c + 1 : Nat) : Int) := by rw [wI, wrapI (by omega)]; omega
  have cmpS : C y.1 x.1 (cm y.1 x.1) := hC _ _ (hD y (by simp [hyB])) (hD x (by simp [hxA]))
  by_cases hlt : cm y.1 x.1 < 0
  ·obtain ⟨S, q1, q2, q3⟩ := ihd s c (by omega) h2 (by omega) (by omega) h5 (.inr fun x' y' hx' hy' => by
    rw [hx] at hx'; cases hx'
    rw [hy] at hy'; cases hy'
    exact .inl hlt)
   refine ⟨S, q1, q2, F.h_sy36 _ _ _ _ _ _ _ _ ⟨fun _ => ?_, fun h => by simp at h; omega⟩⟩
   rw [hmI, emm, e1, hcI, e2]
   exact ⟨by omega, y.1, by rw [Int.toNat_natCast]; exact gy, by omega, x.1, by rw [Int.toNat_natCast]; exact gx, _, cmpS, fun h => by simp at h; omega, fun _ => q3⟩
  ·obtain ⟨S, q1, q2, q3⟩ := ihd (c + 1) t (by omega) (by omega) (by omega) h4 (.inr fun x' y' hx' hy' => by
    rw [show c + 1 - 1 - a = c - a by omega, hx] at hx'; cases hx'
    rw [show mid - (c + 1) = mid - 1 - c by omega, hy] at hy'; cases hy'
    exact Rt.of_not hp (hD y (by simp [hyB])) (hD x (by simp [hxA])) hlt (ht x hxA y hyB)) h6
   refine ⟨S, q1, q2, F.h_sy36 _ _ _ _ _ _ _ _ ⟨fun _ => ?_, fun h => by simp at h; omega⟩⟩
   rw [hmI, emm, e1, hcI, e2, e3]
   exact ⟨by omega, y.1, by rw [Int.toNat_natCast]; exact gy, by omega, x.1, by rw [Int.toNat_natCast]; exact gx, _, cmpS, fun _ => q3, fun h => by simp at h; omega⟩
theorem sy_law {n0 : Nat} (hn : n0 <= 1125899906842624) : ∀ k, MergeOK F cm Dm n0 k := by
 intro k
 induction k with
 | zero =>
  intro X A B Y hk hA
  exact absurd (List.eq_nil_of_length_eq_zero (by omega)) hA
 | succ k ih =>
  intro X A B Y hk hA0 hB0 h0 hD hA hB ht
  have al := List.length_pos_iff.2 hA0
  have bl := List.length_pos_iff.2 hB0
  have e1 : wI (((X.length + A.length : Nat) : Int) - (X.length : Nat)) = (A.length : Int) := by rw [wI, wrapI (by omega)]; omega
  have e2 : wI (((X.length + A.length + B.length : Nat) : Int) - ((X.length + A.length : Nat) : Int)) = (B.length : Int) := by rw [wI, wrapI (by omega)]; omega
  by_cases c1 : A.length = 1
  ·obtain ⟨x, rfl⟩ := List.length_eq_one_iff.1 c1
   obtain ⟨S, q1, q2, q3⟩ := sy4_law F hp hC hn X B Y x (hD x (by simp)) (fun y hy => hD y (by simp [hy])) hB (fun y hy => ht x (by simp) y hy) (by simp at h0; omega) B.length 0 B.length (by omega) (by omega) (by omega) (fun y hy => by simp at hy) (fun y hy => by simp at hy)
   refine ⟨S, q1, by simpa using q2, F.h_sy _ _ _ _ _ _ ⟨fun _ => ?_, fun h => by rw [e1] at h; simp at h⟩⟩
   simpa using q3
  by_cases c2 : B.length = 1
  ·obtain ⟨y, rfl⟩ := List.length_eq_one_iff.1 c2
   obtain ⟨S, q1, q2, q3⟩ := sy10_law F hp hC hn X A Y y (hD y (by simp)) (fun x hx => hD x (by simp [hx])) hA (fun x hx => ht x hx y (by simp)) (by simp at h0; omega) A.length 0 A.length (by omega) (by omega) (by omega) (fun y hy => by simp at hy) (fun y hy => by simp at hy)
   refine ⟨S, q1, q2, F.h_sy _ _ _ _ _ _ ⟨fun h => by rw [e1] at h; simp at h; omega, fun _ => ⟨fun _ => ?_, fun h => by rw [e2] at h; simp at h⟩⟩⟩
   simpa using q3
  ·have hmI : hI ((X.length : Nat) : Int) ((X.length + A.length + B.length : Nat) : Int) = (((X.length + (X.length + A.length + B.length)) / 2 : Nat) : Int) := hI_nat (by omega) (by omega)
   generalize hmid : (X.length + (X.length + A.length + B.length)) / 2 = mid at hmI
   rcases Nat.lt_or_ge mid (X.length + A.length) with hlt | hge
   ·have em : wI (wI ((mid : Int) + ((X.length + A.length : Nat) : Int)) - ((X.length + A.length + B.length : Nat) : Int)) = ((mid + (X.length + A.length) - (X.length + A.length + B.length) : Nat) : Int) := by
     have : wI ((mid : Int) + ((X.length + A.length : Nat) : Int)) = (mid : Int) + ((X.length + A.length : Nat) : Int) := by rw [wI, wrapI (by omega)]
     rw [this, wI, wrapI (by omega)]; omega
    obtain ⟨S, q1, q2, q3⟩ := sy36_law F hp hC hn k ih X A B Y X.length (X.length + A.length + B.length) (X.length + A.length) mid (mid + (X.length + A.length) - (X.length + A.length + B.length)) mid rfl rfl rfl hmid.symm (by omega) hA0 hB0 (by omega) (.inr ⟨hlt, rfl, rfl⟩) hD hA hB ht mid (mid + (X.length + A.length) - (X.length + A.length + B.length)) mid (by omega) (Nat.le_refl _) (by omega) (Nat.le_refl _) (.inl rfl) (.inl rfl)
    refine ⟨S, q1, q2, F.h_sy _ _ _ _ _ _ ⟨fun h => by rw [e1] at h; simp at h; omega, fun _ => ⟨fun h => by rw [e2] at h; simp at h; omega, fun _ => ⟨fun _ => F.h_sy28 _ _ _ _ _ _ _ _ ?_, fun h => by rw [hmI] at h; simp at h; omega⟩⟩⟩⟩
    rw [hmI, em]; exact q3
   ·obtain ⟨S, q1, q2, q3⟩ := sy36_law F hp hC hn k ih X A B Y X.length (X.length + A.length + B.length) (X.length + A.length) mid X.length (X.length + A.length) rfl rfl rfl hmid.symm (by omega) hA0 hB0 (by omega) (.inl ⟨hge, rfl, rfl⟩) hD hA hB ht (X.length + A.length) X.length (X.length + A.length) (by omega) (Nat.le_refl _) (by omega) (Nat.le_refl _) (.inl rfl) (.inl rfl)
    refine ⟨S, q1, q2, F.h_sy _ _ _ _ _ _ ⟨fun h => by rw [e1] at h; simp at h; omega, fun _ => ⟨fun h => by rw [e2] at h; simp at h; omega, fun _ => ⟨fun h => by rw [hmI] at h; simp at h; omega, fun _ => F.h_sy28 _ _ _ _ _ _ _ _ q3⟩⟩⟩⟩
end
section
variable {α : Type} {C : α -> α -> Int -> Prop} {cm : α -> α -> Int} {Dm : α -> Prop}
inductive Runs (cm : α -> α -> Int) (k : Nat) : List (α × Nat) -> Prop
 | last (S : List (α × Nat)) (h : Srt cm S) (hl : S.length <= k) : Runs cm k S
 | cons (S L : List (α × Nat)) (h : Srt cm S) (hl : S.length = k) (hr : Runs cm k L) (ht : ∀ x ∈ S, ∀ y ∈ L, x.2 < y.2) : Runs cm k (S ++ L)
theorem Runs.sorted {k : Nat} (hk : 0 < k) {L : List (α × Nat)} (h : Runs cm k L) (hl : L.length <= k) : Srt cm L := by
 cases h with
 | last _ h _ => exact h
 | cons S L h hl' hr ht =>
  have : L = [] := List.eq_nil_of_length_eq_zero (by simp at hl; omega)
  rw [this]; simpa using h
theorem Runs.first {k : Nat} {L : List (α × Nat)} (h : Runs cm k L) (hl : k <= L.length) : ∃ S M, L = S ++ M /\ Srt cm S /\ S.length = k /\ Runs cm k M /\ ∀ x ∈ S, ∀ y ∈ M, x.2 < y.2 := by
 cases h with
 | last _ h hl' => exact ⟨L, [], by simp, h, by omega, .last [] .nil (Nat.zero_le _), fun x _ y hy => by cases hy⟩
 | cons S M h hl' hr ht => exact ⟨S, M, rfl, h, hl', hr, ht⟩
variable (F : SortP α C) (hp : Pre cm Dm) (hC : ∀ x y, Dm x -> Dm y -> C x y (cm x y))
 include hp hC
theorem st14_law {n0 : Nat} (hn : n0 <= 1125899906842624) (k n : Nat) (hk : 0 < k /\ k < n) (hnn : n = n0) : ∀ (d : Nat) (M L : List (α × Nat)), L.length <= d -> n = M.length + L.length -> (∀ x ∈ L, Dm x.1) -> Runs cm k L ->
  ∃ L', Runs cm (2 * k) L' /\ L'.Perm L /\ ∀ r, F.st12 ((2 * k : Nat) : Int) n0 n (fs (M ++ L')) r -> F.st14 ((M.length + 2 * k : Nat) : Int) (M.length : Nat) k n0 n (fs (M ++ L)) r := by
 have e2 : wI ((k : Int) * 2) = ((2 * k : Nat) : Int) := by rw [wI, wrapI (by omega)]; omega
 have e3 : wI (2 * (k : Int)) = ((2 * k : Nat) : Int) := by rw [wI, wrapI (by omega)]; omega
 intro d
 induction d with
 | zero =>
  intro M L hd hl hD hr
  have : L = [] := List.eq_nil_of_length_eq_zero (by omega)
  subst this
  simp only [List.length_nil] at hl
  have e1 : wI ((M.length : Int) + k) = ((M.length + k : Nat) : Int) := by rw [wI, wrapI (by omega)]; omega
  refine ⟨[], .last [] .nil (Nat.zero_le _), .refl _, fun r hr' => F.h_st14 _ _ _ _ _ _ _ ⟨fun h => by simp at h; omega, fun _ => ⟨fun h => by rw [e1] at h; simp at h; omega, fun _ => by rw [e2]; exact hr'⟩⟩⟩
 | succ d ih =>
  intro M L hd hl hD hr
  have e1 : wI ((M.length : Int) + k) = ((M.length + k : Nat) : Int) := by rw [wI, wrapI (by omega)]; omega
  have e4 : wI (((M.length + 2 * k : Nat) : Int) + ((2 * k : Nat) : Int)) = ((M.length + 2 * k + 2 * k : Nat) : Int) := by rw [wI, wrapI (by omega)]; omega
  rcases Nat.lt_or_ge L.length (2 * k) with hlt | hge
  ·rcases Nat.lt_or_ge k L.length with hk2 | hk2
   ·obtain ⟨S1, S2, rfl, h1, h2, h3, h4⟩ := hr.first (by omega)
    have hl2 : (S1 ++ S2).length = S1.length + S2.length := by simp
    have h5 : Srt cm S2 := h3.sorted hk.1 (by omega)
    obtain ⟨T, q1, q2, q3⟩ := sy_law F hp hC hn _ M S1 S2 [] (Nat.le_refl _) (fun h => by rw [h] at h2; simp at h2; omega) (fun h => by subst h; simp at hk2; omega) (by simp; omega) hD h1 h5 h4
    have ql : T.length = S1.length + S2.length := by rw [q2.length_eq]; simp
    refine ⟨T, .last T q1 (by omega), q2, fun r hr' => F.h_st14 _ _ _ _ _ _ _ ⟨fun h => by simp at h; omega, fun _ => ⟨fun _ => ?_, fun h => by rw [e1] at h; simp at h; omega⟩⟩⟩
    rw [e1, e2]
    refine ⟨fs (M ++ T), ?_, ⟨ne_fs (n0 := n0) (by simp; omega) (by omega), ne_fs (n0 := n0) (by simp; omega) (by omega)⟩, hr'⟩
    rw [show M.length + k = M.length + S1.length by omega, show (n : Int) = ((M.length + S1.length + S2.length : Nat) : Int) by omega]
    simpa using q3
   ·refine ⟨L, .last L (hr.sorted hk.1 hk2) (by omega), .refl _, fun r hr' => F.h_st14 _ _ _ _ _ _ _ ⟨fun h => by simp at h; omega, fun _ => ⟨fun h => by rw [e1] at h; simp at h; omega, fun _ => by rw [e2]; exact hr'⟩⟩⟩
  ·obtain ⟨S1, L1, rfl, h1, h2, h3, h4⟩ := hr.first (by omega)
   have hl1 : (S1 ++ L1).length = S1.length + L1.length := by simp
   obtain ⟨S2, L2, rfl, g1, g2, g3, g4⟩ := h3.first (by omega)
   have hl2 : (S2 ++ L2).length = S2.length + L2.length := by simp
   obtain ⟨T, q1, q2, q3⟩ := sy_law F hp hC hn _ M S1 S2 L2 (Nat.le_refl _) (fun h => by rw [h] at h2; simp at h2; omega) (fun h => by rw [h] at g2; simp at g2; omega) (by omega) (fun x hx => hD x (by simp at hx ⊢; grind)) h1 g1 (fun x hx y hy => h4 x hx y (by simp [hy]))
   have ql : T.length = S1.length + S2.length := by rw [q2.length_eq]; simp
   obtain ⟨L', p1, p2, p3⟩ := ih (M ++ T) L2 (by omega) (by simp; omega) (fun x hx => hD x (by simp [hx])) g3
   refine ⟨T ++ L', .cons T L' q1 (by omega) p1 (fun x hx y hy => ?_), ?_, fun r hr' => F.h_st14 _ _ _ _ _ _ _ ⟨fun _ => ?_, fun h => by simp at h; omega⟩⟩
   ·have hy2 := p2.mem_iff.1 hy
    rcases List.mem_append.1 (q2.mem_iff.1 hx) with h | h
    ·exact h4 x h y (by simp [hy2])
    ·exact g4 x h y hy2
   ·have := q2.append p2
    simpa [List.append_assoc] using this
   ·rw [e1, e3, e4]
    refine ⟨fs (M ++ T ++ L2), ?_, ⟨ne_fs (n0 := n0) (by simp; omega) (by omega), ne_fs (n0 := n0) (by simp; omega) (by omega)⟩, ?_⟩
    ·rw [show M.length + k = M.length + S1.length by omega, show M.length + 2 * k = M.length + S1.length + S2.length by omega]
     simpa using q3
    ·have := p3 r (by simpa using hr')
     have gl : (M ++ T).length = M.length + 2 * k := by simp; omega
     rw [gl] at this
     exact this
theorem st12_law {n0 : Nat} (hn : n0 <= 1125899906842624) (hpos : 0 < n0) : ∀ (d k : Nat) (L : List (α × Nat)), n0 - k <= d -> 0 < k -> k <= 2 * n0 + 20 -> L.length = n0 -> (∀ x ∈ L, Dm x.1) -> Runs cm k L -> ∃ S, Srt cm S /\ S.Perm L /\ F.st12 k n0 (n0 : Nat) (fs L) (fs S) := by
 intro d
 induction d with
 | zero =>
  intro k L hd hk hk2 hl hD hr
  exact ⟨L, hr.sorted hk (by omega), .refl _, F.h_st12 _ _ _ _ _ ⟨fun h => by simp at h; omega, fun _ => ⟨ne_fs hl hpos, rfl⟩⟩⟩
 | succ d ih =>
  intro k L hd hk hk2 hl hD hr
  rcases Nat.lt_or_ge k n0 with hlt | hge
  ·obtain ⟨L', q1, q2, q3⟩ := st14_law F hp hC hn k n0 ⟨hk, hlt⟩ rfl L.length [] L (Nat.le_refl _) (by simp; omega) hD hr
   obtain ⟨S, p1, p2, p3⟩ := ih (2 * k) L' (by omega) (by omega) (by omega) (by rw [q2.length_eq]; exact hl) (fun x hx => hD x (q2.mem_iff.1 hx)) q1
   have e3 : wI (2 * (k : Int)) = ((2 * k : Nat) : Int) := by rw [wI, wrapI (by omega)]; omega
   refine ⟨S, p1, p2.trans q2, F.h_st12 _ _ _ _ _ ⟨fun _ => ?_, fun h => by simp at h; omega⟩⟩
   have := q3 _ (by simpa using p3)
   rw [e3]
   simpa using this
  ·exact ⟨L, hr.sorted hk (by omega), .refl _, F.h_st12 _ _ _ _ _ ⟨fun h => by simp at h; omega, fun _ => ⟨ne_fs hl hpos, rfl⟩⟩⟩
theorem st8_law {n0 : Nat} (hn : n0 <= 1125899906842624) (hpos : 0 < n0) : ∀ (d : Nat) (M L : List (α × Nat)), L.length <= d -> n0 = M.length + L.length -> (∀ x ∈ L, Dm x.1) -> L.Pairwise (fun x y => x.2 < y.2) ->
  ∃ L', Runs cm 20 L' /\ L'.Perm L /\ ∀ r, F.st12 20 n0 (n0 : Nat) (fs (M ++ L')) r -> F.st8 ((M.length + 20 : Nat) : Int) (M.length : Nat) n0 (n0 : Nat) (fs (M ++ L)) r := by
 intro d
 induction d with
 | zero =>
  intro M L hd hl hD ht
  have : L = [] := List.eq_nil_of_length_eq_zero (by omega)
  subst this
  simp only [List.length_nil] at hl
  obtain ⟨S, q1, q2, q3⟩ := ins_law F hp hC hn M [] [] (a := M.length) (b := n0) rfl (by simp; omega) (by simp) hpos hD .nil
  have qe : S = [] := List.Perm.eq_nil q2
  subst qe
  refine ⟨[], .last [] .nil (Nat.zero_le _), .refl _, fun r hr => F.h_st8 _ _ _ _ _ _ ⟨fun h => by simp at h; omega, fun _ => ⟨fs (M ++ []), by simpa using q3, ⟨ne_fs (n0 := n0) (by simp; omega) hpos, ne_fs (n0 := n0) (by simp; omega) hpos⟩, hr⟩⟩⟩
 | succ d ih =>
  intro M L hd hl hD ht
  rcases Nat.lt_or_ge L.length 20 with hlt | hge
  ·obtain ⟨S, q1, q2, q3⟩ := ins_law F hp hC hn M L [] (a := M.length) (b := n0) rfl (by omega) (by simp) hpos hD ht
   have ql := q2.length_eq
   refine ⟨S, .last S q1 (by omega), q2, fun r hr => F.h_st8 _ _ _ _ _ _ ⟨fun h => by simp at h; omega, fun _ => ⟨fs (M ++ S), by simpa using q3, ⟨ne_fs (n0 := n0) (by simp; omega) hpos, ne_fs (n0 := n0) (by simp; omega) hpos⟩, hr⟩⟩⟩
  ·have hsplit : L = L.take 20 ++ L.drop 20 := (List.take_append_drop _ _).symm
   have l1 : (L.take 20).length = 20 := by simp; omega
   generalize ha : L.take 20 = A at hsplit l1
   generalize hb : L.drop 20 = B at hsplit
   subst hsplit
   have hl2 : (A ++ B).length = A.length + B.length := by simp
   obtain ⟨t1, t2, t3⟩ := List.pairwise_append.1 ht
   obtain ⟨S, q1, q2, q3⟩ := ins_law F hp hC hn M A B (a := M.length) (b := M.length + 20) rfl (by omega) (by omega) hpos (fun x hx => hD x (by simp [hx])) t1
   have ql := q2.length_eq
   obtain ⟨L', p1, p2, p3⟩ := ih (M ++ S) B (by omega) (by simp; omega) (fun x hx => hD x (by simp [hx])) t2
   have e1 : wI (((M.length + 20 : Nat) : Int) + 20) = ((M.length + 20 + 20 : Nat) : Int) := by rw [wI, wrapI (by omega)]; omega
   refine ⟨S ++ L', .cons S L' q1 (by omega) p1 (fun x hx y hy => t3 x (q2.mem_iff.1 hx) y (p2.mem_iff.1 hy)), q2.append p2, fun r hr => F.h_st8 _ _ _ _ _ _ ⟨fun _ => ?_, fun h => by simp at h; omega⟩⟩
   rw [e1]
   refine ⟨fs (M ++ S ++ B), by simpa using q3, ⟨ne_fs (n0 := n0) (by simp; omega) hpos, ne_fs (n0 := n0) (by simp; omega) hpos⟩, ?_⟩
   have := p3 r (by simpa using hr)
   have gl : (M ++ S).length = M.length + 20 := by simp; omega
   rw [gl] at this
   exact this
theorem so_law {n0 : Nat} (hn : n0 <= 1125899906842624) (hpos : 0 < n0) (L : List (α × Nat)) (hl : L.length = n0) (hD : ∀ x ∈ L, Dm x.1) (ht : L.Pairwise (fun x y => x.2 < y.2)) : ∃ S, Srt cm S /\ S.Perm L /\ F.so n0 (fs L) (fs S) := by
 obtain ⟨L', q1, q2, q3⟩ := st8_law F hp hC hn hpos L.length [] L (Nat.le_refl _) (by simp; omega) hD ht
 obtain ⟨S, p1, p2, p3⟩ := st12_law F hp hC hn hpos n0 20 L' (by omega) (by omega) (by omega) (by rw [q2.length_eq]; exact hl) (fun x hx => hD x (q2.mem_iff.1 hx)) q1
 have hs : S.length = n0 := by rw [p2.length_eq, q2.length_eq]; exact hl
 refine ⟨S, p1, p2.trans q2, F.h_so _ _ _ ⟨fs S, F.h_st _ _ _ _ ?_, ⟨ne_fs hl hpos, ne_fs hs hpos⟩, ne_fs hs hpos, rfl⟩⟩
 have := q3 _ (by simpa using p3)
 simpa using this
end
section
variable {α : Type} {cm : α -> α -> Int} {Dm : α -> Prop}
theorem Rt.irrefl {x y : α × Nat} (hp : Pre cm Dm) (hx : Dm x.1) (hy : Dm y.1) (h1 : Rt cm x y) (h2 : Rt cm y x) : False := by
 have a := hp.sym x.1 y.1 hx hy
 have b := hp.sym y.1 x.1 hy hx
 unfold Rt at h1 h2
 omega
theorem srt_one (hp : Pre cm Dm) : ∀ (S T : List (α × Nat)), S.Perm T -> (∀ x ∈ S, Dm x.1) -> Srt cm S -> Srt cm T -> S = T
 | [], T, h, _, _, _ => (List.Perm.nil_eq h)
 | x :: S, [], h, _, _, _ => by have := h.length_eq; simp at this
 | x :: S, y :: T, h, hD, hS, hT => by
  have hxy : x = y := by
   have hx : x ∈ y :: T := h.mem_iff.1 List.mem_cons_self
   have hy : y ∈ x :: S := h.mem_iff.2 List.mem_cons_self
   rcases List.mem_cons.1 hx with e | e
   ·exact e
   ·rcases List.mem_cons.1 hy with e2 | e2
    ·exact e2.symm
    ·exact (Rt.irrefl hp (hD x List.mem_cons_self) (hD y hy) ((List.pairwise_cons.1 hS).1 y e2) ((List.pairwise_cons.1 hT).1 x e)).elim
  subst hxy
  rw [srt_one hp S T ((List.perm_cons x).1 h) (fun z hz => hD z (List.mem_cons_of_mem _ hz)) (List.pairwise_cons.1 hS).2 (List.pairwise_cons.1 hT).2]
def places (l : List α) : List (α × Nat) := l.zipIdx
theorem places_fs (l : List α) : fs (places l) = l := by simp [places, fs]
theorem places_asc (l : List α) : (places l).Pairwise (fun x y => x.2 < y.2) := by
 rw [List.pairwise_iff_getElem]
 intro i j hi hj h
 simp [places]; omega
def Stably (cm : α -> α -> Int) (l r : List α) : Prop := ∃ S, Srt cm S /\ S.Perm (places l) /\ r = fs S
theorem Stably.one (hp : Pre cm Dm) {l r t : List α} (hD : ∀ x ∈ l, Dm x) (h1 : Stably cm l r) (h2 : Stably cm l t) : r = t := by
 obtain ⟨S, a1, a2, rfl⟩ := h1
 obtain ⟨T, b1, b2, rfl⟩ := h2
 have hm : ∀ x ∈ S, Dm x.1 := fun x hx => hD _ (by rw [← places_fs l]; exact List.mem_map_of_mem (a2.mem_iff.1 hx))
 rw [srt_one hp S T (a2.trans b2.symm) hm a1 b1]
end
def NewC {α : Type} (P : Program) (e : α -> List AV) (sz : Nat) (f : FuncId) (l : List α) : Prop :=
 ACall P f [.sl (l.map e) .no] ⟨[], [], []⟩ fun a h => a = .row 0 0 sz l.length l.length /\ h = ⟨[some (cellsOf e l)], [], []⟩
section
variable {α : Type} {e : α -> List AV} {sz : Nat}
theorem new_call {P : Program} {f : FuncId} {l : List α} {args' : List AV} {h : AHeap} {K : AV -> AHeap -> Prop} (hf : NewC P e sz f l) (he : RowE e sz) (h0 : l ≠ []) (ha : args'.map nz = [.sl (l.map e) .no])
  (hk : K (.row h.blks.length 0 sz l.length l.length) ⟨h.blks ++ [some (cellsOf e l)], h.bufs, h.globs⟩) : ACall P f args' h K := by
 refine ⟨hf.1, fun σ cargs hi hr => ?_⟩
 have hopen : ∀ b o, σ.open_ b o -> b < σ.w.heap.size := by
  rintro b o (ho | ⟨n, hn⟩ | ⟨id, e, he, hs⟩)
  ·exact (hi.outer b o ho).1
  ·exact hi.lt hn
  ·obtain ⟨v, hv⟩ := Option.isSome_iff_exists.1 (hi.bufat id e b o he hs).1
   exact cell_lt hv
 have hp : plainL [AV.sl (l.map e) .no] = true := by
  simp only [plainL, plain, Bool.and_true, Bool.true_and]
  exact plainLL_map e l fun y _ => he.hp y
 have hrels : Rels (bare σ.w σ.open_) [.sl (l.map e) .no] cargs.toList := by
  refine ⟨by rw [hr.1, ← ha]; simp, fun i av hav => ?_⟩
  have hav' := hav
  rw [← ha] at hav
  simp only [List.getElem?_map, Option.map_eq_some_iff] at hav
  obtain ⟨b, hb, rfl⟩ := hav
  obtain ⟨x, h1, h2⟩ := hr.2 i b hb
  exact ⟨x, h1, h2.nz.down (plainL_get hp i _ hav') rfl fun _ _ h => h⟩
 have hglobs : Globs σ.w σ.open_ [] := fun g cells hg => by cases hg
 refine (hf.2 (bare σ.w σ.open_) cargs (bare_inv hopen hglobs) hrels).mono fun e1 w' hq => ?_
 obtain ⟨σ1, h1, av, x, rfl, rfl, hle, hi1, hrx, rfl, rfl⟩ := hq
 have hpast : Past σ.w σ1.w := ⟨hle.size, fun b hb => hle.whole b hb fun o => bare_own σ.w σ.open_ b o, hle.os, hle.tape, hle.output⟩
 obtain ⟨b0, hb0, hat⟩ := hi1.blk 0 _ rfl
 have hge : σ.w.heap.size <= b0 := by
  rcases Nat.lt_or_ge b0 σ.w.heap.size with hlt | hge
  ·exact (bare_own σ.w σ.open_ b0 0 (hle.own b0 0 hlt (.inl ⟨0, hb0⟩))).elim
  ·exact hge
 let σ2 : Sg := ⟨σ1.w, fun n => if n = h.blks.length then some b0 else σ.blk n, σ.buf, σ.outer⟩
 have hdom : ∀ n b, σ.blk n = some b -> n < h.blks.length := fun n b hn => hi.name hn
 have hblt : ∀ n b, σ.blk n = some b -> b < σ.w.heap.size := fun n b hn => hi.lt hn
 have hslt : ∀ id e b o, σ.buf id = some e -> e.spare b o -> b < σ.w.heap.size := by
  intro id e b o he hs
  obtain ⟨v, hv⟩ := Option.isSome_iff_exists.1 (hi.bufat id e b o he hs).1
  exact cell_lt hv
 have hle2 : Le σ σ2 := {
  blk := fun n b hn => by
   show (if n = h.blks.length then some b0 else σ.blk n) = some b
   rw [if_neg (by have := hdom n b hn; omega)]; exact hn
  buf := fun _ e h => ⟨e, h, Nat.le_refl _, rfl, fun _ => rfl⟩
  outer := rfl
  cell := fun b o hb _ => cell_world (hpast.old b hb) o
  ext := (Le.world (σ := σ) hpast).ext
  whole := fun b hb _ => hpast.old b hb
  own := fun b o hb ho => by
   rcases ho with ⟨n, hn⟩ | hx
   ·simp only [σ2] at hn
    split at hn
    ·cases hn; omega
    ·exact .inl ⟨n, hn⟩
   ·exact .inr hx
  size := hpast.size
  os := hpast.os
  tape := hpast.tape
  output := hpast.output }
 have hop : ∀ b o, σ2.open_ b o -> σ1.open_ b o := by
  have side : ∀ b o, σ.open_ b o -> σ1.open_ b o := fun b o h => .inl (by rw [hle.outer]; exact h)
  rintro b o (ho | ⟨n, hn⟩ | ho)
  ·exact side b o (.inl ho)
  ·simp only [σ2] at hn
   split at hn
   ·cases hn; exact .inr (.inl ⟨0, hb0⟩)
   ·exact side b o (.inr (.inl ⟨n, hn⟩))
  ·exact side b o (.inr (.inr ho))
 have hni : noIt (cellsOf e l) = true := cellsOf_ni he.hn h0
 have hat2 : BlkAt σ2 b0 (cellsOf e l) := by
  obtain ⟨cs, rest, elem, g1, g2⟩ := hat.plain hni
  refine .cells _ cs rest elem g1 ⟨g2.1, fun i a hia => ?_⟩
  obtain ⟨k1, y, k2, k3⟩ := g2.2 i a hia
  exact ⟨k1, y, k2, k3.move (he.mem (List.mem_of_getElem? hia)).1 rfl hop⟩
 refine ⟨σ2, _, _, x, rfl, rfl, hle2, ?_, ?_, hk⟩
 ·exact {
   blk := fun n cs hn => by
    by_cases hl : n < h.blks.length
    ·rw [List.getElem?_append_left hl] at hn
     obtain ⟨b, h1, h2⟩ := hi.blk n cs hn
     exact ⟨b, hle2.blk n b h1, h2.keep hle2 (hpast.old b h2.lt)⟩
    ·rw [List.getElem?_append_right (by omega)] at hn
     have hz : n = h.blks.length := by
      by_cases hz : n - h.blks.length = 0
      ·omega
      ·rw [List.getElem?_eq_none (by simp; omega)] at hn; cases hn
     subst hz
     simp at hn
     subst hn
     exact ⟨b0, if_pos rfl, hat2⟩
   dom := fun n b hn => by
    simp only [σ2] at hn
    split at hn
    ·rename_i hz; subst hz; exact ⟨cellsOf e l, by simp⟩
    ·obtain ⟨cs, hcs⟩ := hi.dom n b hn
     exact ⟨cs, by rw [List.getElem?_append_left (hdom n b hn)]; exact hcs⟩
   inj := fun n m b c c' hc hc' hz hz' hn hm => by
    simp only [σ2] at hn hm
    split at hn <;> split at hm
    ·omega
    ·cases hn; have := hblt m _ hm; omega
    ·cases hm; have := hblt n _ hn; omega
    ·rw [List.getElem?_append_left (hdom n b hn)] at hc
     rw [List.getElem?_append_left (hdom m b hm)] at hc'
     exact hi.inj n m b c c' hc hc' hz hz' hn hm
   buf := hi.buf
   bufdom := hi.bufdom
   bufle := hi.bufle
   bufat := (hi.world hpast).bufat
   bufinj := hi.bufinj
   bufblk := fun id e n b o he hs hn => by
    simp only [σ2] at hn
    split at hn
    ·cases hn; have := hslt id e _ o he hs; omega
    ·exact hi.bufblk id e n b o he hs hn
   outer := fun b o ho => by
    obtain ⟨h1, h2⟩ := hi.outer b o ho
    exact ⟨Nat.lt_of_lt_of_le h1 hpast.size, fun hx => h2 (hle2.own b o h1 hx)⟩
   glob := fun g cells hg => (hi.glob g cells hg).mono hle2 }
 ·cases hrx with
  | row _ _ _ _ _ b cap hb hc hm hx =>
   rw [hb0] at hb
   cases hb
   exact .row _ _ _ _ _ b0 cap (if_pos rfl) hc hm hx
theorem x_new {P : Program} {g : FuncId} {env : Env} {args : List AOpd} {h : AHeap} {l : List α} (hf : NewC P e sz g l) (he : RowE e sz) (h0 : l ≠ []) (ha : (evs env args).map (List.map nz) = some [.sl (l.map e) .no] := by kernel_rfl) :
  Does P (.call (.c (.clo (.func g) [] [])) args) env h (.row h.blks.length 0 sz l.length l.length) ⟨h.blks ++ [some (cellsOf e l)], h.bufs, h.globs⟩ := by
 obtain ⟨l', h1, h2⟩ := Option.map_eq_some_iff.1 ha
 exact fun K hk => (a_call rfl h1 (new_call hf he h0 h2 hk)).out
def qnew (e : α -> List AV) (sz : Nat) (rs : List ARes) (l : List α) : Exit -> Env -> AHeap -> Prop
 | .ret, env, h => outs env h rs fun l' => retv l' = .row 0 0 sz l.length l.length /\ h = ⟨[some (cellsOf e l)], [], []⟩
 | _, _, _ => False
theorem f_new {P : Program} {N : Nat} {f : FuncId} {ac : ACode} {rs : List ARes} (hf : getFn P f = some (N, ac, rs)) {l : List α} {e₀ : Env} (hn : Nat.ble 1 N = true) (he : envOf 0 [.sl (l.map e) .no] = e₀)
  (hbody : D P N 0 0 ac (qnew e sz rs l) e₀ ⟨[], [], []⟩) : NewC P e sz f l := by
 subst he
 refine call_of hf (Nat.le_of_ble_eq_true hn) (asem_mono (asem_of_d (Nat.le_refl _) (Nat.le_refl _) hbody) fun x env h hq => ?_)
 cases x <;> first | exact hq | exact hq.elim
theorem rnew {rs : List ARes} {l : List α} {env : Env} {h : AHeap} {c : List AV} (hc : c = cellsOf e l) (hh : h = ⟨[some c], [], []⟩ := by kernel_rfl) (ho : (outsF env h rs).map retv = some (.row 0 0 sz l.length l.length) := by kernel_rfl) : qnew e sz rs l .ret env h := by
 subst hc
 obtain ⟨l', h1, h2⟩ := Option.map_eq_some_iff.1 ho
 exact outsF_ok h1 ⟨h2, hh⟩
theorem x_appR {P : Program} {env : Env} {h : AHeap} {size byt : Nat} {x y : AOpd} (e : α -> List AV) (l : List α) (h0 : l ≠ []) (hb : l.length * byt <= 140737488355328) (hs : ∀ y, (e y).length = size) (hm : (y.ev env).bind (elsH h size) = some (List.map e l)) (hx : x.ev env = some (.sl [] .full) := by kernel_rfl) : Does P (.append size byt x y) env h (.row h.blks.length 0 size l.length l.length) ⟨h.blks ++ [some (cellsOf e l)], h.bufs, h.globs⟩ := by
 obtain ⟨Y, h1, h2⟩ := Option.bind_eq_some_iff.1 hm
 intro K hk
 simp only [aop, hx, h1, wv]
 refine .inr ?_
 simp only [appendedR, h2]
 refine ⟨⟨cellsOf_sz hs, fun hn => h0 (List.map_eq_nil_iff.1 hn)⟩, ?_, ?_, ?_⟩
 ·intro el hel; simp at hel
 ·simpa using hb
 ·simpa [cellsOf] using hk
theorem vemp {X : Prop} (l : List α) (h1 : l = [] -> X) (h2 : l ≠ [] -> X) : X := by
 rcases Classical.em (l = []) with h | h
 ·exact h1 h
 ·exact h2 h
end
section
variable {σ : Sg} {h : AHeap} {n : Nat} {m : List Bool} {k : Nat} {cells : List AV} {els : List (List AV)} {sz len : Nat}
end
section
variable {α : Type} {e : α -> List AV} {sz : Nat}
end
section
open Go.RowKit Go.ChangeShapes Go.WideShapes Go.ChangeAt
theorem list_of' {α : Type} {P : Nat -> α -> Prop} : ∀ n : Nat, (∀ i, i < n -> ∃ x, P i x) -> ∃ xs : List α, xs.length = n /\ ∀ (i : Nat) x, xs[i]? = some x -> P i x
 | 0, _ => ⟨[], rfl, fun i x h => by simp at h⟩
 | n + 1, h => by
  obtain ⟨xs, hl, hx⟩ := list_of' n (fun i hi => h i (by omega))
  obtain ⟨y, hy⟩ := h n (by omega)
  refine ⟨xs ++ [y], by simp [hl], fun i x hi => ?_⟩
  by_cases hin : i < n
  ·rw [List.getElem?_append_left (by omega)] at hi; exact hx i x hi
  ·rw [List.getElem?_append_right (by omega)] at hi
   by_cases e : i = n
   ·subst e; rw [hl] at hi; simp at hi; subst hi; exact hy
   ·rw [List.getElem?_eq_none (by simp; omega)] at hi; cases hi
def Ty (P : Program) : Nat -> TypeId -> List AV -> Prop
 | 0, _, _ => False
 | n + 1, t, avs => match P.underlying t with
  | some (.int k) => ∃ m, avs = [.v (.int k m)] /\ (Lit.int k m).wf = true
  | some .bool => ∃ b, avs = [.v (.bool b)]
  | some .string => ∃ s, avs = [.v (.string s)] /\ s.size <= 140737488351232
  | some (.slice e) => ∃ els : List (List AV), avs = [.sl els .no] /\ els.length * P.bytesOf e <= 140737488351232 /\ ∀ el ∈ els, Ty P n e el
  | some (.struct fs) => ∃ parts : List (List AV), avs = parts.flatten /\ parts.length = fs.size /\ ∀ (i : Nat) (f : Field), fs[i]? = some f -> ∃ p, parts[i]? = some p /\ Ty P n f.type p
  | some (.array k e) => ∃ parts : List (List AV), avs = parts.flatten /\ parts.length = k /\ ∀ p ∈ parts, Ty P n e p
  | _ => False
def contig (P : Program) : Nat -> List Field -> Nat -> Bool
 | off, [], tot => off == tot
 | off, f :: fs, tot => f.offset == off && contig P (off + P.cellsOf f.type) fs tot
def okT (P : Program) (ts : List TypeId) (t : TypeId) : Bool :=
 match P.underlying t with
 | some (.int _) | some .bool | some .string => true
 | some (.slice e) => ts.contains e && decide (0 < P.cellsOf e) && decide (1 <= P.bytesOf e)
 | some (.struct fs) => fs.toList.all (fun f => ts.contains f.type) && contig P 0 fs.toList (P.cellsOf t)
 | some (.array k e) => ts.contains e && decide (k * P.cellsOf e = P.cellsOf t)
 | _ => false
def okTypes (P : Program) (ts : List TypeId) : Bool := ts.all (okT P ts)
def nowhere : Nat -> Nat -> Prop := fun _ _ => False
section
variable {H : Type} {enc : TypeId × Value -> H} {P : Program} {W : World} {base : Nat} {spare : Nat -> Bool} {held : Bool}
def Lightly (P : Program) (t : TypeId) (d : DataW H) : Prop := ∀ x ∈ DataW.weights P t d, x <= 140737488351232
theorem weightsEach_mem' : ∀ (ts : List TypeId) (ds : List (DataW H)) (i : Nat) (t : TypeId) (d : DataW H), ts[i]? = some t -> ds[i]? = some d -> ∀ x ∈ DataW.weights P t d, x ∈ DataW.weightsEach P ts ds
 | [], _, i, _, _, h, _, _, _ => by simp at h
 | _ :: _, [], i, _, _, _, h, _, _ => by simp at h
 | t' :: ts, d' :: ds, 0, t, d, h1, h2, x, hx => by
  simp at h1 h2; subst h1; subst h2
  simp only [DataW.weightsEach, List.mem_append]; exact .inl hx
 | t' :: ts, d' :: ds, i + 1, t, d, h1, h2, x, hx => by
  simp only [DataW.weightsEach, List.mem_append]
  exact .inr (weightsEach_mem' ts ds i t d (by simpa using h1) (by simpa using h2) x hx)
theorem weightsAll_mem' (e : TypeId) : ∀ (ds : List (DataW H)) (i : Nat) (d : DataW H), ds[i]? = some d -> ∀ x ∈ DataW.weights P e d, x ∈ DataW.weightsAll P e ds
 | [], i, _, h, _, _ => by simp at h
 | d' :: ds, 0, d, h2, x, hx => by
  simp at h2; subst h2
  simp only [DataW.weightsAll, List.mem_append]; exact .inl hx
 | d' :: ds, i + 1, d, h2, x, hx => by
  simp only [DataW.weightsAll, List.mem_append]
  exact .inr (weightsAll_mem' e ds i d (by simpa using h2) x hx)
theorem Lightly.part {t : TypeId} {fs : Array Field} {ps : List (DataW H)} (ht : P.underlying t = some (.struct fs)) (h : Lightly P t (.agg ps)) {i : Nat} {f : Field} {d : DataW H} (hf : fs[i]? = some f) (hd : ps[i]? = some d) : Lightly P f.type d := by
 intro x hx
 refine h x ?_
 simp only [DataW.weights, ht]
 exact weightsEach_mem' _ _ i f.type d (by simp [hf]) hd x hx
theorem Lightly.elem {t e : TypeId} {es sp : List (DataW H)} (ht : P.underlying t = some (.slice e)) (h : Lightly P t (.slice es sp)) {i : Nat} {d : DataW H} (hd : es[i]? = some d) : Lightly P e d := by
 intro x hx
 refine h x ?_
 simp only [DataW.weights, ht, List.mem_cons, List.mem_append]
 exact .inr (.inl (weightsAll_mem' e es i d hd x hx))
theorem Lightly.short {t e : TypeId} {es sp : List (DataW H)} (ht : P.underlying t = some (.slice e)) (h : Lightly P t (.slice es sp)) : es.length * P.bytesOf e <= 140737488351232 := by
 have := h ((es.length + sp.length) * P.bytesOf e) (by simp only [DataW.weights, ht, List.mem_cons, true_or])
 rw [Nat.add_mul] at this
 omega
theorem Lightly.at_ {t e : TypeId} {k : Nat} {ps : List (DataW H)} (ht : P.underlying t = some (.array k e)) (h : Lightly P t (.agg ps)) {i : Nat} {d : DataW H} (hd : ps[i]? = some d) : Lightly P e d := by
 intro x hx
 refine h x ?_
 simp only [DataW.weights, ht]
 exact weightsAll_mem' e ps i d hd x hx
theorem cells_concat (σ : Sg) : ∀ (fs : List Field) (off tot : Nat) (cs : List Value) (parts : List (List AV)), contig P off fs tot = true -> cs.length = tot -> parts.length = fs.length ->
  (∀ (i : Nat) (f : Field) (p : List AV), fs[i]? = some f -> parts[i]? = some p -> Cells σ p ((cs.drop f.offset).take (P.cellsOf f.type))) -> Cells σ parts.flatten (cs.drop off)
 | [], off, tot, cs, parts, hc, hl, hp, _ => by
  simp only [contig, beq_iff_eq] at hc
  have : parts = [] := List.eq_nil_of_length_eq_zero (by simpa using hp)
  subst this
  rw [List.drop_of_length_le (by omega)]
  exact Cells.nil σ
 | f :: fs, off, tot, cs, [], hc, hl, hp, _ => by simp at hp
 | f :: fs, off, tot, cs, p :: parts, hc, hl, hp, h => by
  simp only [contig, Bool.and_eq_true, beq_iff_eq] at hc
  obtain ⟨h1, h2⟩ := hc
  have h3 := h 0 f p rfl rfl
  have h4 := cells_concat σ fs (off + P.cellsOf f.type) tot cs parts h2 hl (by simpa using hp) (fun i g q hg hq => h (i + 1) g q (by simpa using hg) (by simpa using hq))
  have := h3.append h4
  rw [h1, ← List.drop_drop, List.take_append_drop] at this
  simpa using this
theorem cells_rows (σ : Sg) (k : Nat) : ∀ (parts : List (List AV)) (cs : List Value), cs.length = parts.length * k ->
  (∀ (i : Nat) (p : List AV), parts[i]? = some p -> Cells σ p ((cs.drop (i * k)).take k)) -> Cells σ parts.flatten cs
 | [], cs, hl, _ => by
  have : cs = [] := List.eq_nil_of_length_eq_zero (by simpa using hl)
  subst this
  exact Cells.nil σ
 | p :: parts, cs, hl, h => by
  have h3 := h 0 p rfl
  rw [List.length_cons, Nat.add_mul] at hl
  have h4 := cells_rows σ k parts (cs.drop k) (by simp; omega) (fun i q hq => by
   have := h (i + 1) q (by simpa using hq)
   rw [List.drop_drop, show k + i * k = (i + 1) * k by rw [Nat.add_mul]; omega]
   exact this)
  have := h3.append h4
  simp only [Nat.zero_mul, List.drop_zero, List.take_append_drop] at this
  simpa using this
theorem plainL_append {a b : List AV} : plainL (a ++ b) = (plainL a && plainL b) := by
 induction a with
 | nil => simp [plainL]
 | cons x a ih => simp [plainL, ih, Bool.and_assoc]
theorem plainL_flatten : ∀ {l : List (List AV)}, (∀ p ∈ l, plainL p = true) -> plainL l.flatten = true
 | [], _ => rfl
 | p :: l, h => by rw [List.flatten_cons, plainL_append, h p (by simp), plainL_flatten (fun q hq => h q (by simp [hq]))]; rfl
theorem plainLL_of : ∀ {l : List (List AV)}, (∀ p ∈ l, plainL p = true) -> plainLL l = true
 | [], _ => rfl
 | p :: l, h => by simp only [plainLL, Bool.and_eq_true]; exact ⟨h p (by simp), plainLL_of fun q hq => h q (by simp [hq])⟩
theorem open_cells {ts : List TypeId} (ok : okTypes P ts = true) : ∀ (n : Nat) (t : TypeId) (cs : List Value) (z : DataW H × List MemPlace), t ∈ ts -> DataW.trod enc P W base spare held n t cs = some z -> Lightly P t z.1 ->
  ∃ avs, Cells (bare W nowhere) avs cs /\ Ty P n t avs /\ plainL avs = true := by
 intro n
 induction n with
 | zero => intro t cs z ht h; simp [DataW.trod] at h
 | succ n ih =>
  intro t cs z ht h hw
  have hok := List.all_eq_true.1 ok t ht
  unfold okT at hok
  split at hok
  ·rename_i k hu
   obtain ⟨m, rfl, _, hwf⟩ := DataW.trod_int hu h
   exact ⟨[.v (.int k m)], Cells.one (.v _ rfl) rfl, by unfold Ty; rw [hu]; exact ⟨m, rfl, hwf⟩, rfl⟩
  ·rename_i hu
   obtain ⟨b, rfl, _⟩ := DataW.trod_bool hu h
   exact ⟨[.v (.bool b)], Cells.one (.v _ rfl) rfl, by unfold Ty; rw [hu]; exact ⟨b, rfl⟩, rfl⟩
  ·rename_i hu
   obtain ⟨s, rfl, rfl, _⟩ := DataW.trod_string hu h
   have : s.size <= 140737488351232 := hw s.size (by simp [DataW.weights])
   exact ⟨[.v (.string s)], Cells.one (.v _ rfl) rfl, by unfold Ty; rw [hu]; exact ⟨s, rfl, this⟩, rfl⟩
  ·rename_i e hu
   simp only [Bool.and_eq_true, decide_eq_true_eq, List.contains_iff_mem] at hok
   obtain ⟨⟨he, hk0⟩, hb1⟩ := hok
   rcases DataW.trod_slice hu h with ⟨hc, _⟩ | ⟨a, len, cap, elems, rest, m, hm, hc, hy, hb, hl, hmx, hlen, helem, _⟩
   ·subst hc
    exact ⟨[.sl [] .no], Cells.one (.sl0 _ trivial) rfl, by unfold Ty; rw [hu]; exact ⟨[], rfl, by simp, fun el h => by cases h⟩, rfl⟩
   ·subst hc hy
    obtain rfl : m = n := by omega
    have hsh := Lightly.short hu hw
    rw [List.length_map, hlen] at hsh
    have key : ∀ i, i < len -> ∃ avs : List AV, ∃ vs : List Value, vs.length = P.cellsOf e /\ (∀ j, j < P.cellsOf e -> W.cell? ((a.add (i * P.cellsOf e)).add j) = vs[j]?) /\ Cells (bare W nowhere) avs vs /\ Ty P m e avs /\ plainL avs = true := by
     intro i hi
     have h1 := helem i hi
     rw [List.getElem?_eq_getElem (by omega), Option.bind_eq_some_iff] at h1
     obtain ⟨vs, hc1, hc2⟩ := h1
     obtain ⟨_, hl1, hc3⟩ := World.cells?_some hc1
     obtain ⟨avs, h2, h3, h4⟩ := ih e vs _ he hc2 (Lightly.elem hu hw (i := i) (by rw [List.getElem?_map, List.getElem?_eq_getElem (by omega)]; rfl))
     exact ⟨avs, vs, hl1, hc3, h2, h3, h4⟩
    obtain ⟨els, hel, hels⟩ := list_of' len key
    have hty : ∀ el ∈ els, Ty P m e el /\ plainL el = true := by
     intro el hmem
     obtain ⟨i, hi⟩ := List.mem_iff_getElem?.1 hmem
     obtain ⟨vs, _, _, _, q1, q2⟩ := hels i el hi
     exact ⟨q1, q2⟩
    refine ⟨[.sl els .no], Cells.one ?_ rfl, by unfold Ty; rw [hu]; exact ⟨els, rfl, by rw [hel]; exact hsh, fun el h => (hty el h).1⟩, by simp only [plainL, plain, Bool.true_and, Bool.and_true]; exact plainLL_of fun p hp => (hty p hp).2⟩
    by_cases h0 : len = 0
    ·subst h0
     have : els = [] := List.eq_nil_of_length_eq_zero hel
     subst this
     exact .slx _ a cap trivial (.inl rfl)
    ·obtain ⟨b, o, sp⟩ := a
     obtain ⟨avs0, vs0, hl0, hc0, _⟩ := key 0 (by omega)
     have hz := hc0 0 hk0
     rw [List.getElem?_eq_getElem (by omega)] at hz
     have hspot : sp = none := by
      have := World.cell?_spot hz
      simpa [Addr.add] using this
     subst hspot
     have := Rel.sl (σ := bare W nowhere) els .no b o cap (P.cellsOf e) (fun i j => ((W.cell? ⟨b, o + i * P.cellsOf e + j, none⟩).getD undef)) (fun i el hi => by
       obtain ⟨vs, q1, _, q3, _⟩ := hels i el hi
       rw [← q3.1, q1]) (by omega) trivial (fun id e h => by cases h) (fun i el hi j av hj => by
       obtain ⟨vs, q1, q2, q3, _⟩ := hels i el hi
       obtain ⟨c1, x, hx, hr⟩ := q3.2 j av hj
       have hjl : j < P.cellsOf e := by rw [← q1]; exact (List.getElem?_eq_some_iff.1 hx).1
       have := q2 j hjl
       rw [addr_add, addr_add, hx] at this
       exact ⟨by show W.cell? _ = _; rw [this]; rfl, fun h => (bare_open _ _ _ _).1 h, c1⟩) (fun i el hi j av hj => by
       obtain ⟨vs, q1, q2, q3, _⟩ := hels i el hi
       obtain ⟨c1, x, hx, hr⟩ := q3.2 j av hj
       have hjl : j < P.cellsOf e := by rw [← q1]; exact (List.getElem?_eq_some_iff.1 hx).1
       have := q2 j hjl
       rw [addr_add, addr_add, hx] at this
       rw [this]; exact hr)
     rw [hel] at this
     exact this
  ·rename_i fs hu
   simp only [Bool.and_eq_true, List.all_eq_true, List.contains_iff_mem] at hok
   obtain ⟨hfs, hcg⟩ := hok
   obtain ⟨xs, m, hm, rfl, hcl, hxl, hf⟩ := DataW.trod_struct hu h
   obtain rfl : m = n := by omega
   have key : ∀ i, i < fs.size -> ∃ avs : List AV, ∀ f, fs[i]? = some f -> Cells (bare W nowhere) avs ((cs.drop f.offset).take (P.cellsOf f.type)) /\ Ty P m f.type avs /\ plainL avs = true := by
    intro i hi
    have hfi : fs[i]? = some fs[i] := Array.getElem?_eq_getElem hi
    have e : xs[i]? = some xs[i] := List.getElem?_eq_getElem (by omega)
    obtain ⟨avs, h2, h3, h4⟩ := ih fs[i].type _ _ (hfs _ (by simp)) ((hf i _ hfi).trans e) (Lightly.part hu hw hfi (by rw [List.getElem?_map, e]; rfl))
    refine ⟨avs, fun f hf' => ?_⟩
    rw [hfi] at hf'; cases hf'
    exact ⟨h2, h3, h4⟩
   obtain ⟨parts, hpl, hparts⟩ := list_of' fs.size key
   have hcells := cells_concat (P := P) (bare W nowhere) fs.toList 0 (P.cellsOf t) cs parts hcg hcl (by simpa using hpl) (fun i f p hfi hpi => (hparts i p hpi f (by simpa using hfi)).1)
   refine ⟨parts.flatten, by simpa using hcells, ?_, plainL_flatten fun p hp => ?_⟩
   ·unfold Ty; rw [hu]
    refine ⟨parts, rfl, hpl, fun i f hfi => ?_⟩
    have hi : i < parts.length := by rw [hpl]; exact (Array.getElem?_eq_some_iff.1 hfi).1
    exact ⟨parts[i], List.getElem?_eq_getElem hi, (hparts i _ (List.getElem?_eq_getElem hi) f hfi).2.1⟩
   ·obtain ⟨i, hi⟩ := List.mem_iff_getElem?.1 hp
    have hlt : i < fs.size := by rw [← hpl]; exact (List.getElem?_eq_some_iff.1 hi).1
    exact (hparts i p hi fs[i] (Array.getElem?_eq_getElem hlt)).2.2
  ·rename_i k e hu
   simp only [Bool.and_eq_true, decide_eq_true_eq, List.contains_iff_mem] at hok
   obtain ⟨he, hke⟩ := hok
   obtain ⟨xs, m, hm, rfl, hcl, hxl, hf⟩ := DataW.trod_array hu h
   obtain rfl : m = n := by omega
   have key : ∀ i, i < k -> ∃ avs : List AV, Cells (bare W nowhere) avs ((cs.drop (i * P.cellsOf e)).take (P.cellsOf e)) /\ Ty P m e avs /\ plainL avs = true := by
    intro i hi
    have e1 : xs[i]? = some xs[i] := List.getElem?_eq_getElem (by omega)
    exact ih e _ _ he ((hf i hi).trans e1) (Lightly.at_ hu hw (by rw [List.getElem?_map, e1]; rfl))
   obtain ⟨parts, hpl, hparts⟩ := list_of' k key
   have hall : ∀ p ∈ parts, Ty P m e p /\ plainL p = true := by
    intro p hp
    obtain ⟨i, hi⟩ := List.mem_iff_getElem?.1 hp
    exact (hparts i p hi).2
   refine ⟨parts.flatten, cells_rows _ (P.cellsOf e) parts cs (by rw [hcl, hpl, hke]) (fun i p hi => (hparts i p hi).1), ?_, plainL_flatten fun p hp => (hall p hp).2⟩
   unfold Ty; rw [hu]
   exact ⟨parts, rfl, hpl, fun p hp => (hall p hp).1⟩
  ·cases hok
end
end
def eL {α : Type} (e : α -> List AV) (x : List α) : List AV := [.sl (List.map e x) .no]
def eI_i8 (x : Int) : List AV := [.v (.int .i8 x)]
theorem plm_I_i8 (l : List Int) : plainLL (l.map eI_i8) = true := plainLL_map _ _ fun x _ => rfl
def eI_i16 (x : Int) : List AV := [.v (.int .i16 x)]
theorem plm_I_i16 (l : List Int) : plainLL (l.map eI_i16) = true := plainLL_map _ _ fun x _ => rfl
def eI_i32 (x : Int) : List AV := [.v (.int .i32 x)]
theorem plm_I_i32 (l : List Int) : plainLL (l.map eI_i32) = true := plainLL_map _ _ fun x _ => rfl
def eI_i64 (x : Int) : List AV := [.v (.int .i64 x)]
theorem plm_I_i64 (l : List Int) : plainLL (l.map eI_i64) = true := plainLL_map _ _ fun x _ => rfl
def eI_u8 (x : Int) : List AV := [.v (.int .u8 x)]
theorem plm_I_u8 (l : List Int) : plainLL (l.map eI_u8) = true := plainLL_map _ _ fun x _ => rfl
def eI_u16 (x : Int) : List AV := [.v (.int .u16 x)]
theorem plm_I_u16 (l : List Int) : plainLL (l.map eI_u16) = true := plainLL_map _ _ fun x _ => rfl
def eI_u32 (x : Int) : List AV := [.v (.int .u32 x)]
theorem plm_I_u32 (l : List Int) : plainLL (l.map eI_u32) = true := plainLL_map _ _ fun x _ => rfl
def eI_u64 (x : Int) : List AV := [.v (.int .u64 x)]
theorem plm_I_u64 (l : List Int) : plainLL (l.map eI_u64) = true := plainLL_map _ _ fun x _ => rfl
def eBool (x : Bool) : List AV := [.v (.bool x)]
theorem plm_Bool (l : List Bool) : plainLL (l.map eBool) = true := plainLL_map _ _ fun x _ => rfl
def eStr (x : ByteArray) : List AV := [.v (.string x)]
theorem plm_Str (l : List ByteArray) : plainLL (l.map eStr) = true := plainLL_map _ _ fun x _ => rfl
structure GRaw where
 Num : Int
 Wire : Int
 Bits : Int
 Data : ByteArray
def eGRaw (x : GRaw) : List AV := [.v (.int .i64 x.Num), .v (.int .i64 x.Wire), .v (.int .u64 x.Bits), .v (.string x.Data)]
theorem pl_GRaw (x : GRaw) : plainL (eGRaw x) = true := by simp [eGRaw, plainL, plain, plm_I_i8, plm_I_i16, plm_I_i32, plm_I_i64, plm_I_u8, plm_I_u16, plm_I_u32, plm_I_u64, plm_Bool, plm_Str, gfn_fi, gfn_cap, plm_Fn]
theorem plm_GRaw (l : List GRaw) : plainLL (l.map eGRaw) = true := plainLL_map _ _ fun x _ => pl_GRaw x
structure GValue where
 Kind : Int
 Bits : Int
 Text : ByteArray
 List_ : (List GValue)
 Pairs : (List (GValue × GValue))
 Slots : (List (Int × GValue))
 Raws : (List GRaw)
mutual
def eGValue' : GValue -> List AV
 | ⟨f0, f1, f2, f3, f4, f5, f6⟩ => [.v (.int .i64 f0), .v (.int .u64 f1), .v (.string f2), .sl (eGValue'L f3) .no, .sl (eGPair'L f4) .no, .sl (eGSlot'L f5) .no, .sl (List.map eGRaw f6) .no]
def eGValue'L : List GValue -> List (List AV)
 | [] => []
 | x :: l => (eGValue' x) :: eGValue'L l
def eGPair'L : List (GValue × GValue) -> List (List AV)
 | [] => []
 | (z0, z1) :: l => (eGValue' z0 ++ eGValue' z1) :: eGPair'L l
def eGSlot'L : List (Int × GValue) -> List (List AV)
 | [] => []
 | (z0, z1) :: l => ([.v (.int .i64 z0)] ++ eGValue' z1) :: eGSlot'L l
end
def eGPair' (x : (GValue × GValue)) : List AV := eGValue' x.1 ++ eGValue' x.2
def eGSlot' (x : (Int × GValue)) : List AV := [.v (.int .i64 x.1)] ++ eGValue' x.2
theorem eGValue'L_map : ∀ l, eGValue'L l = List.map eGValue' l
 | [] => rfl
 | x :: l => by simp only [eGValue'L, List.map_cons, eGValue'L_map l]
theorem eGPair'L_map : ∀ l, eGPair'L l = List.map eGPair' l
 | [] => rfl
 | x :: l => by simp only [eGPair'L, List.map_cons, eGPair'L_map l, eGPair']
theorem eGSlot'L_map : ∀ l, eGSlot'L l = List.map eGSlot' l
 | [] => rfl
 | x :: l => by simp only [eGSlot'L, List.map_cons, eGSlot'L_map l, eGSlot']
def eGValue (x : GValue) : List AV := [.v (.int .i64 x.Kind), .v (.int .u64 x.Bits), .v (.string x.Text), .sl (List.map eGValue' x.List_) .no, .sl (List.map eGPair' x.Pairs) .no, .sl (List.map eGSlot' x.Slots) .no, .sl (List.map eGRaw x.Raws) .no]
def eGPair (x : (GValue × GValue)) : List AV := [.v (.int .i64 x.1.Kind), .v (.int .u64 x.1.Bits), .v (.string x.1.Text), .sl (List.map eGValue' x.1.List_) .no, .sl (List.map eGPair' x.1.Pairs) .no, .sl (List.map eGSlot' x.1.Slots) .no, .sl (List.map eGRaw x.1.Raws) .no, .v (.int .i64 x.2.Kind), .v (.int .u64 x.2.Bits), .v (.string x.2.Text), .sl (List.map eGValue' x.2.List_) .no, .sl (List.map eGPair' x.2.Pairs) .no, .sl (List.map eGSlot' x.2.Slots) .no, .sl (List.map eGRaw x.2.Raws) .no]
def eGSlot (x : (Int × GValue)) : List AV := [.v (.int .i64 x.1), .v (.int .i64 x.2.Kind), .v (.int .u64 x.2.Bits), .v (.string x.2.Text), .sl (List.map eGValue' x.2.List_) .no, .sl (List.map eGPair' x.2.Pairs) .no, .sl (List.map eGSlot' x.2.Slots) .no, .sl (List.map eGRaw x.2.Raws) .no]
theorem eGValue'_eq (x : GValue) : eGValue' x = eGValue x := by cases x; simp only [eGValue', eGValue, eGValue'L_map, eGPair'L_map, eGSlot'L_map]
theorem eGPair'_eq (x : (GValue × GValue)) : eGPair' x = eGPair x := by simp only [eGPair', eGPair, eGValue'_eq, eGValue, List.cons_append, List.nil_append]
theorem eGSlot'_eq (x : (Int × GValue)) : eGSlot' x = eGSlot x := by simp only [eGSlot', eGSlot, eGValue'_eq, eGValue, List.cons_append, List.nil_append]
mutual
theorem pl_GValue' : ∀ x, plainL (eGValue' x) = true
 | ⟨f0, f1, f2, f3, f4, f5, f6⟩ => by simp [eGValue', plainL, plain, pl_eGValue'L f3, pl_eGPair'L f4, pl_eGSlot'L f5, plm_I_i8, plm_I_i16, plm_I_i32, plm_I_i64, plm_I_u8, plm_I_u16, plm_I_u32, plm_I_u64, plm_Bool, plm_Str, gfn_fi, gfn_cap, plm_Fn, pl_GRaw, plm_GRaw]
theorem pl_eGValue'L : ∀ l, plainLL (eGValue'L l) = true
 | [] => rfl
 | x :: l => by simp [eGValue'L, plainLL, plainL, plain, plainL_append, pl_GValue' x, pl_eGValue'L l]
theorem pl_eGPair'L : ∀ l, plainLL (eGPair'L l) = true
 | [] => rfl
 | (z0, z1) :: l => by simp [eGPair'L, plainLL, plainL, plain, plainL_append, pl_GValue' z0, pl_GValue' z1, pl_eGPair'L l]
theorem pl_eGSlot'L : ∀ l, plainLL (eGSlot'L l) = true
 | [] => rfl
 | (z0, z1) :: l => by simp [eGSlot'L, plainLL, plainL, plain, plainL_append, pl_GValue' z1, pl_eGSlot'L l]
end
theorem plm_GValue (l : List GValue) : plainLL (l.map eGValue') = true := by rw [← eGValue'L_map]; exact pl_eGValue'L l
theorem pl_GValue (x : GValue) : plainL (eGValue x) = true := by have := plm_GValue [x]; simpa [plainLL, eGValue'_eq] using this
theorem plm_GPair (l : List (GValue × GValue)) : plainLL (l.map eGPair') = true := by rw [← eGPair'L_map]; exact pl_eGPair'L l
theorem pl_GPair (x : (GValue × GValue)) : plainL (eGPair x) = true := by have := plm_GPair [x]; simpa [plainLL, eGPair'_eq] using this
theorem plm_GSlot (l : List (Int × GValue)) : plainLL (l.map eGSlot') = true := by rw [← eGSlot'L_map]; exact pl_eGSlot'L l
theorem pl_GSlot (x : (Int × GValue)) : plainL (eGSlot x) = true := by have := plm_GSlot [x]; simpa [plainLL, eGSlot'_eq] using this
structure Gparts where
 slots : (List (Int × GValue))
 raws : (List GRaw)
def eGparts (x : Gparts) : List AV := [.sl (List.map eGSlot' x.slots) .no, .sl (List.map eGRaw x.raws) .no]
theorem pl_Gparts (x : Gparts) : plainL (eGparts x) = true := by simp [eGparts, plainL, plain, plm_I_i8, plm_I_i16, plm_I_i32, plm_I_i64, plm_I_u8, plm_I_u16, plm_I_u32, plm_I_u64, plm_Bool, plm_Str, gfn_fi, gfn_cap, plm_Fn, pl_GRaw, plm_GRaw, pl_GValue, plm_GValue, pl_GPair, plm_GPair, pl_GSlot, plm_GSlot]
theorem plm_Gparts (l : List Gparts) : plainLL (l.map eGparts) = true := plainLL_map _ _ fun x _ => pl_Gparts x
theorem lwm_GRaw (m : List Bool) (n : Nat) (l : List GRaw) : lowLL m n (l.map eGRaw) = true := lowLL_plain _ _ _ (plm_GRaw l)
theorem lwm_GValue (m : List Bool) (n : Nat) (l : List GValue) : lowLL m n (l.map eGValue') = true := lowLL_plain _ _ _ (plm_GValue l)
theorem lwm_GPair (m : List Bool) (n : Nat) (l : List (GValue × GValue)) : lowLL m n (l.map eGPair') = true := lowLL_plain _ _ _ (plm_GPair l)
theorem lwm_GSlot (m : List Bool) (n : Nat) (l : List (Int × GValue)) : lowLL m n (l.map eGSlot') = true := lowLL_plain _ _ _ (plm_GSlot l)
inductive GAny where
 | nil
 | a_order_one (x : GValue)
 | a_order_list (x : (List GValue))
 | a_order_pairs (x : (List (GValue × GValue)))
 | a_order_parts (x : Gparts)
def eAny : GAny -> AV
 | .nil => .v .nilIface
 | .a_order_one x => .iface 44 (.agg (eGValue x))
 | .a_order_list x => .iface 45 (.sl (List.map eGValue' x) .no)
 | .a_order_pairs x => .iface 47 (.sl (List.map eGPair' x) .no)
 | .a_order_parts x => .iface 50 (.agg (eGparts x))
theorem pl_Any (x : GAny) : plain (eAny x) = true := by cases x <;> simp [eAny, plain, plainL, plm_I_i8, plm_I_i16, plm_I_i32, plm_I_i64, plm_I_u8, plm_I_u16, plm_I_u32, plm_I_u64, plm_Bool, plm_Str, gfn_fi, gfn_cap, plm_Fn, pl_GRaw, plm_GRaw, pl_GValue, plm_GValue, pl_GPair, plm_GPair, pl_GSlot, plm_GSlot, pl_Gparts, plm_Gparts]
theorem vas44 {P : Program} {L : List AOper} {k d : Nat} {zero : AV} {x : AOpd} {env : Env} {h : AHeap} {K : Env -> AHeap -> Prop} (hl : L[k]? = some ⟨some d, .assertT 44 true zero x, none⟩) (y : GAny) (h1 : ∀ z, y = .a_order_one z -> Vp P L (k + 1) ((d, .tuple [.agg (eGValue z), .v (.bool true)]) :: env) h K) (h2 : (∀ z, y ≠ .a_order_one z) -> Vp P L (k + 1) ((d, .tuple [zero, .v (.bool false)]) :: env) h K) (hx : x.ev env = some (eAny y) := by kernel_rfl) : Vp P L k env h K := by
 cases y with
 | a_order_one z => exact vp_opg hl rfl (h' := h) (fun K hk => by simp only [aop, hx, wv, eAny, asserted]; exact hk) rfl rfl (h1 z rfl)
 | _ => exact vp_opg hl rfl (h' := h) (fun K hk => by simp only [aop, hx, wv, eAny, asserted]; first | exact ⟨trivial, hk⟩ | exact ⟨rfl, hk⟩) rfl rfl (h2 fun z hz => by cases hz)
theorem vas45 {P : Program} {L : List AOper} {k d : Nat} {zero : AV} {x : AOpd} {env : Env} {h : AHeap} {K : Env -> AHeap -> Prop} (hl : L[k]? = some ⟨some d, .assertT 45 true zero x, none⟩) (y : GAny) (h1 : ∀ z, y = .a_order_list z -> Vp P L (k + 1) ((d, .tuple [.sl (List.map eGValue' z) .no, .v (.bool true)]) :: env) h K) (h2 : (∀ z, y ≠ .a_order_list z) -> Vp P L (k + 1) ((d, .tuple [zero, .v (.bool false)]) :: env) h K) (hx : x.ev env = some (eAny y) := by kernel_rfl) : Vp P L k env h K := by
 cases y with
 | a_order_list z => exact vp_opg hl rfl (h' := h) (fun K hk => by simp only [aop, hx, wv, eAny, asserted]; exact hk) rfl rfl (h1 z rfl)
 | _ => exact vp_opg hl rfl (h' := h) (fun K hk => by simp only [aop, hx, wv, eAny, asserted]; first | exact ⟨trivial, hk⟩ | exact ⟨rfl, hk⟩) rfl rfl (h2 fun z hz => by cases hz)
theorem x_as45 {P : Program} {zero : AV} {x : AOpd} {env : Env} {h : AHeap} {y : GAny} {z : (List GValue)} (hy : y = .a_order_list z) (hx : x.ev env = some (eAny y) := by kernel_rfl) : Does P (.assertT 45 false zero x) env h (.sl (List.map eGValue' z) .no) h := by
 subst hy
 intro K hk
 simp only [aop, hx, wv, eAny, asserted]
 exact hk
theorem vas47 {P : Program} {L : List AOper} {k d : Nat} {zero : AV} {x : AOpd} {env : Env} {h : AHeap} {K : Env -> AHeap -> Prop} (hl : L[k]? = some ⟨some d, .assertT 47 true zero x, none⟩) (y : GAny) (h1 : ∀ z, y = .a_order_pairs z -> Vp P L (k + 1) ((d, .tuple [.sl (List.map eGPair' z) .no, .v (.bool true)]) :: env) h K) (h2 : (∀ z, y ≠ .a_order_pairs z) -> Vp P L (k + 1) ((d, .tuple [zero, .v (.bool false)]) :: env) h K) (hx : x.ev env = some (eAny y) := by kernel_rfl) : Vp P L k env h K := by
 cases y with
 | a_order_pairs z => exact vp_opg hl rfl (h' := h) (fun K hk => by simp only [aop, hx, wv, eAny, asserted]; exact hk) rfl rfl (h1 z rfl)
 | _ => exact vp_opg hl rfl (h' := h) (fun K hk => by simp only [aop, hx, wv, eAny, asserted]; first | exact ⟨trivial, hk⟩ | exact ⟨rfl, hk⟩) rfl rfl (h2 fun z hz => by cases hz)
theorem x_as47 {P : Program} {zero : AV} {x : AOpd} {env : Env} {h : AHeap} {y : GAny} {z : (List (GValue × GValue))} (hy : y = .a_order_pairs z) (hx : x.ev env = some (eAny y) := by kernel_rfl) : Does P (.assertT 47 false zero x) env h (.sl (List.map eGPair' z) .no) h := by
 subst hy
 intro K hk
 simp only [aop, hx, wv, eAny, asserted]
 exact hk
theorem vas50 {P : Program} {L : List AOper} {k d : Nat} {zero : AV} {x : AOpd} {env : Env} {h : AHeap} {K : Env -> AHeap -> Prop} (hl : L[k]? = some ⟨some d, .assertT 50 true zero x, none⟩) (y : GAny) (h1 : ∀ z, y = .a_order_parts z -> Vp P L (k + 1) ((d, .tuple [.agg (eGparts z), .v (.bool true)]) :: env) h K) (h2 : (∀ z, y ≠ .a_order_parts z) -> Vp P L (k + 1) ((d, .tuple [zero, .v (.bool false)]) :: env) h K) (hx : x.ev env = some (eAny y) := by kernel_rfl) : Vp P L k env h K := by
 cases y with
 | a_order_parts z => exact vp_opg hl rfl (h' := h) (fun K hk => by simp only [aop, hx, wv, eAny, asserted]; exact hk) rfl rfl (h1 z rfl)
 | _ => exact vp_opg hl rfl (h' := h) (fun K hk => by simp only [aop, hx, wv, eAny, asserted]; first | exact ⟨trivial, hk⟩ | exact ⟨rfl, hk⟩) rfl rfl (h2 fun z hz => by cases hz)
theorem x_as50 {P : Program} {zero : AV} {x : AOpd} {env : Env} {h : AHeap} {y : GAny} {z : Gparts} (hy : y = .a_order_parts z) (hx : x.ev env = some (eAny y) := by kernel_rfl) : Does P (.assertT 50 false zero x) env h (.agg (eGparts z)) h := by
 subst hy
 intro K hk
 simp only [aop, hx, wv, eAny, asserted]
 exact hk
theorem rowE_GPair : RowE eGPair' 14 := ⟨fun y => by rw [eGPair'_eq]; rfl, fun y => by rw [eGPair'_eq]; rfl, fun y => by rw [eGPair'_eq]; exact pl_GPair y, fun y => by rw [eGPair'_eq]; rfl⟩
def GLm (mg : Int) : List (Nat × List AV) := [(0, [.v (.int .i64 mg)])]
theorem pg {P : Program} {gl : List (Nat × List AV)} {f : FuncId} {a : List AV} {r : AV} (h : PureN P [] f a r) : PureN P gl f a r := ⟨h.1, fun w outer cargs ho _ hr => h.2 w outer cargs ho (fun g cells hg => by cases hg) hr⟩
def e3 (r : Bool) : AV := .v (.bool r)
def law16_OrderLast (mg : Int) (l : (List (GValue × GValue))) (r : Bool) : Prop := PureN Tryd.prog (GLm mg) 3 [.sl (List.map eGPair' l) .no] (e3 r)
def e4 (r : Bool) : AV := .v (.bool r)
def e5 (r : (List (GValue × GValue))) : AV := .sl (List.map eGPair' r) .no
def order_Pairs (l : (List (GValue × GValue))) (r : (List (GValue × GValue))) : Prop := PureN Tryd.prog [] 5 [.sl (List.map eGPair' l) .no] (e5 r)
def e6 (r : Int) : AV := .v (.int .i64 r)
def order_Cmp (a : GValue) (b : GValue) (r : Int) : Prop := PureN Tryd.prog [] 6 [.agg (eGValue a), .agg (eGValue b)] (e6 r)
def e7 (r : Bool) : AV := .v (.bool r)
def ref16_Equal (a : GValue) (b : GValue) (r : Bool) : Prop := PureN Tryd.prog [] 7 [.agg (eGValue a), .agg (eGValue b)] (e7 r)
def e8 (r : Bool) : AV := .v (.bool r)
def law16_awake (mg : Int)  (r : Bool) : Prop := PureN Tryd.prog (GLm mg) 8 [] (e8 r)
def e9 (r : (List (GValue × GValue))) : AV := .sl (List.map eGPair' r) .no
def ref16_Pairs (l : (List (GValue × GValue))) (r : (List (GValue × GValue))) : Prop := PureN Tryd.prog [] 9 [.sl (List.map eGPair' l) .no] (e9 r)
def e12 (r : (List (GValue × GValue))) : AV := .sl (List.map eGPair' r) .no
def slices_Clone_LPair_Pair (s : (List (GValue × GValue))) (r : (List (GValue × GValue))) : Prop := PureN Tryd.prog [] 12 [.sl (List.map eGPair' s) .no] (e12 r)
def slices_Clone_LPair_Pair_new (s : (List (GValue × GValue))) : Prop := NewC Tryd.prog eGPair' 14 12 s
def slices_SortStableFunc_LPair_Pair (n0 : Nat) (x : (List (GValue × GValue))) (cmp : GFn) (r : (List (GValue × GValue))) : Prop := RowIO Tryd.prog eGPair' 14 13 n0 [.clo (.func cmp.fn) cmp.fi cmp.cap] x r
def slices_SortStableFunc_LPair_Pair_nil (x1 : GFn) : Prop := PureN Tryd.prog [] 13 [.sl [] .no, .clo (.func x1.fn) x1.fi x1.cap] (.tuple [])
def e14 (r : Int) : AV := .v (.int .i64 r)
def order_Pairs_1 (a : (GValue × GValue)) (b : (GValue × GValue)) (r : Int) : Prop := PureN Tryd.prog [] 14 [.agg (eGPair a), .agg (eGPair b)] (e14 r)
def e15 (r : Bool) : AV := .v (.bool r)
def order_Equal (a : GValue) (b : GValue) (r : Bool) : Prop := PureN Tryd.prog [] 15 [.agg (eGValue a), .agg (eGValue b)] (e15 r)
def e16 (r : Int) : AV := .v (.int .i64 r)
def cmp_Compare_int (x : Int) (y : Int) (r : Int) : Prop := PureN Tryd.prog [] 16 [.v (.int .i64 x), .v (.int .i64 y)] (e16 r)
def e17 (r : GAny) : AV := eAny r
def order_contents (v : GValue) (r : GAny) : Prop := PureN Tryd.prog [] 17 [.agg (eGValue v)] (e17 r)
def e18 (r : Int) : AV := .v (.int .i64 r)
def scalar_Cmp (a : GValue) (b : GValue) (r : Int) : Prop := PureN Tryd.prog [] 18 [.agg (eGValue a), .agg (eGValue b)] (e18 r)
def e19 (r : Int) : AV := .v (.int .i64 r)
def slices_CompareFunc_order_list_order_list_Value_Value (s1_ : (List GValue)) (s2_ : (List GValue)) (cmp : GFn) (r : Int) : Prop := PureN Tryd.prog [] 19 [.sl (List.map eGValue' s1_) .no, .sl (List.map eGValue' s2_) .no, .clo (.func cmp.fn) cmp.fi cmp.cap] (e19 r)
def e20 (r : Int) : AV := .v (.int .i64 r)
def slices_CompareFunc_order_pairs_order_pairs_Pair_Pair (s1_ : (List (GValue × GValue))) (s2_ : (List (GValue × GValue))) (cmp : GFn) (r : Int) : Prop := PureN Tryd.prog [] 20 [.sl (List.map eGPair' s1_) .no, .sl (List.map eGPair' s2_) .no, .clo (.func cmp.fn) cmp.fi cmp.cap] (e20 r)
def e21 (r : Int) : AV := .v (.int .i64 r)
def order_cmpPair (a : (GValue × GValue)) (b : (GValue × GValue)) (r : Int) : Prop := PureN Tryd.prog [] 21 [.agg (eGPair a), .agg (eGPair b)] (e21 r)
def e22 (r : Int) : AV := .v (.int .i64 r)
def cmp_Or_int (vals : (List Int)) (r : Int) : Prop := PureN Tryd.prog [] 22 [.sl (List.map eI_i64 vals) .no] (e22 r)
def e23 (r : Int) : AV := .v (.int .i64 r)
def slices_CompareFunc_LSlot_LSlot_Slot_Slot (s1_ : (List (Int × GValue))) (s2_ : (List (Int × GValue))) (cmp : GFn) (r : Int) : Prop := PureN Tryd.prog [] 23 [.sl (List.map eGSlot' s1_) .no, .sl (List.map eGSlot' s2_) .no, .clo (.func cmp.fn) cmp.fi cmp.cap] (e23 r)
def e24 (r : Int) : AV := .v (.int .i64 r)
def order_cmpSlot (a : (Int × GValue)) (b : (Int × GValue)) (r : Int) : Prop := PureN Tryd.prog [] 24 [.agg (eGSlot a), .agg (eGSlot b)] (e24 r)
def e25 (r : Int) : AV := .v (.int .i64 r)
def slices_CompareFunc_LRaw_LRaw_Raw_Raw (s1_ : (List GRaw)) (s2_ : (List GRaw)) (cmp : GFn) (r : Int) : Prop := PureN Tryd.prog [] 25 [.sl (List.map eGRaw s1_) .no, .sl (List.map eGRaw s2_) .no, .clo (.func cmp.fn) cmp.fi cmp.cap] (e25 r)
def e26 (r : Int) : AV := .v (.int .i64 r)
def order_cmpRaw (a : GRaw) (b : GRaw) (r : Int) : Prop := PureN Tryd.prog [] 26 [.agg (eGRaw a), .agg (eGRaw b)] (e26 r)
def e27 (r : Int) : AV := .v (.int .i64 r)
def ref16_Cmp (a : GValue) (b : GValue) (r : Int) : Prop := PureN Tryd.prog [] 27 [.agg (eGValue a), .agg (eGValue b)] (e27 r)
def e28 (r : ByteArray) : AV := .v (.string r)
def order_Key (mg : Int) (v : GValue) (r : ByteArray) : Prop := PureN Tryd.prog (GLm mg) 28 [.agg (eGValue v)] (e28 r)
def slices_stableCmpFunc_Pair (n0 : Nat) (data : (List (GValue × GValue))) (n : Int) (cmp : GFn) (r : (List (GValue × GValue))) : Prop := RowIO Tryd.prog eGPair' 14 32 n0 [.v (.int .i64 n), .clo (.func cmp.fn) cmp.fi cmp.cap] data r
def e33 (r : Bool) : AV := .v (.bool r)
def cmp_isNaN_int (x : Int) (r : Bool) : Prop := PureN Tryd.prog [] 33 [.v (.int .i64 x)] (e33 r)
def e34 (r : Bool) : AV := .v (.bool r)
def scalar_Is (kind : Int) (r : Bool) : Prop := PureN Tryd.prog [] 34 [.v (.int .i64 kind)] (e34 r)
def e35 (r : Bool) : AV := .v (.bool r)
def scalar_texty (kind : Int) (r : Bool) : Prop := PureN Tryd.prog [] 35 [.v (.int .i64 kind)] (e35 r)
def e36 (r : Int) : AV := .v (.int .i64 r)
def cmp_Compare_string (x : ByteArray) (y : ByteArray) (r : Int) : Prop := PureN Tryd.prog [] 36 [.v (.string x), .v (.string y)] (e36 r)
def e37 (r : Int) : AV := .v (.int .i64 r)
def cmp_Compare_uint64 (x : Int) (y : Int) (r : Int) : Prop := PureN Tryd.prog [] 37 [.v (.int .u64 x), .v (.int .u64 y)] (e37 r)
def e38 (r : Int) : AV := .v (.int .u64 r)
def scalar_place (bits : Int) (r : Int) : Prop := PureN Tryd.prog [] 38 [.v (.int .u64 bits)] (e38 r)
def e39 (r : Int) : AV := .v (.int .i64 r)
def ref16_number (a : Int) (b : Int) (r : Int) : Prop := PureN Tryd.prog [] 39 [.v (.int .i64 a), .v (.int .i64 b)] (e39 r)
def e40 (r : Int) : AV := .v (.int .i64 r)
def ref16_lists (a : (List GValue)) (b : (List GValue)) (r : Int) : Prop := PureN Tryd.prog [] 40 [.sl (List.map eGValue' a) .no, .sl (List.map eGValue' b) .no] (e40 r)
def e41 (r : Int) : AV := .v (.int .i64 r)
def ref16_pairs (a : (List (GValue × GValue))) (b : (List (GValue × GValue))) (r : Int) : Prop := PureN Tryd.prog [] 41 [.sl (List.map eGPair' a) .no, .sl (List.map eGPair' b) .no] (e41 r)
def e42 (r : Int) : AV := .v (.int .i64 r)
def ref16_slots (a : (List (Int × GValue))) (b : (List (Int × GValue))) (r : Int) : Prop := PureN Tryd.prog [] 42 [.sl (List.map eGSlot' a) .no, .sl (List.map eGSlot' b) .no] (e42 r)
def e43 (r : Int) : AV := .v (.int .i64 r)
def ref16_raws (a : (List GRaw)) (b : (List GRaw)) (r : Int) : Prop := PureN Tryd.prog [] 43 [.sl (List.map eGRaw a) .no, .sl (List.map eGRaw b) .no] (e43 r)
def e44 (r : Int) : AV := .v (.int .i64 r)
def ref04_Cmp (a : GValue) (b : GValue) (r : Int) : Prop := PureN Tryd.prog [] 44 [.agg (eGValue a), .agg (eGValue b)] (e44 r)
def e45 (r : Bool) : AV := .v (.bool r)
def scalar_Fits (kind : Int) (v : GValue) (r : Bool) : Prop := PureN Tryd.prog [] 45 [.v (.int .i64 kind), .agg (eGValue v)] (e45 r)
def e46 (r : ByteArray) : AV := .v (.string r)
def strings_ReplaceAll (mg : Int) (x0 : ByteArray) (x1 : ByteArray) (x2 : ByteArray) (r : ByteArray) : Prop := PureN Tryd.prog (GLm mg) 46 [.v (.string x0), .v (.string x1), .v (.string x2)] (e46 r)
def e47 (r : ByteArray) : AV := .v (.string r)
def varint_Fixed (u : Int) (r : ByteArray) : Prop := PureN Tryd.prog [] 47 [.v (.int .u64 u)] (e47 r)
def e48 (r : Int) : AV := .v (.int .u64 r)
def order_turned (v : GValue) (r : Int) : Prop := PureN Tryd.prog [] 48 [.agg (eGValue v)] (e48 r)
def e49 (r : Unit) : AV := .tuple []
def slices_Reverse_Lbyte_byte (x0 : (List Int)) (r : Unit) : Prop := PureN Tryd.prog [] 49 [.sl (List.map eI_u8 x0) .no] (e49 r)
def slices_insertionSortCmpFunc_Pair (n0 : Nat) (data : (List (GValue × GValue))) (a : Int) (b : Int) (cmp : GFn) (r : (List (GValue × GValue))) : Prop := RowIO Tryd.prog eGPair' 14 51 n0 [.v (.int .i64 a), .v (.int .i64 b), .clo (.func cmp.fn) cmp.fi cmp.cap] data r
def slices_symMergeCmpFunc_Pair (n0 : Nat) (data : (List (GValue × GValue))) (a : Int) (m : Int) (b : Int) (cmp : GFn) (r : (List (GValue × GValue))) : Prop := RowIO Tryd.prog eGPair' 14 52 n0 [.v (.int .i64 a), .v (.int .i64 m), .v (.int .i64 b), .clo (.func cmp.fn) cmp.fi cmp.cap] data r
def e53 (r : Bool) : AV := .v (.bool r)
def cmp_isNaN_string (x : ByteArray) (r : Bool) : Prop := PureN Tryd.prog [] 53 [.v (.string x)] (e53 r)
def e54 (r : Bool) : AV := .v (.bool r)
def cmp_isNaN_uint64 (x : Int) (r : Bool) : Prop := PureN Tryd.prog [] 54 [.v (.int .u64 x)] (e54 r)
def e55 (r : Int) : AV := .v (.int .i64 r)
def scalar_Class (bits : Int) (r : Int) : Prop := PureN Tryd.prog [] 55 [.v (.int .u64 bits)] (e55 r)
def e56 (r : Int) : AV := .v (.int .i64 r)
def ref16_raw (a : GRaw) (b : GRaw) (r : Int) : Prop := PureN Tryd.prog [] 56 [.agg (eGRaw a), .agg (eGRaw b)] (e56 r)
def e57 (r : Bool) : AV := .v (.bool r)
def ref04_Is (kind : Int) (r : Bool) : Prop := PureN Tryd.prog [] 57 [.v (.int .i64 kind)] (e57 r)
def e58 (r : Bool) : AV := .v (.bool r)
def ref04_texts (kind : Int) (r : Bool) : Prop := PureN Tryd.prog [] 58 [.v (.int .i64 kind)] (e58 r)
def e59 (r : Int) : AV := .v (.int .u64 r)
def ref04_rank (v : GValue) (r : Int) : Prop := PureN Tryd.prog [] 59 [.agg (eGValue v)] (e59 r)
def slices_rotateCmpFunc_Pair (n0 : Nat) (data : (List (GValue × GValue))) (a : Int) (m : Int) (b : Int) (cmp : GFn) (r : (List (GValue × GValue))) : Prop := RowIO Tryd.prog eGPair' 14 67 n0 [.v (.int .i64 a), .v (.int .i64 m), .v (.int .i64 b), .clo (.func cmp.fn) cmp.fi cmp.cap] data r
def e68 (r : Bool) : AV := .v (.bool r)
def ref04_signed (kind : Int) (r : Bool) : Prop := PureN Tryd.prog [] 68 [.v (.int .i64 kind)] (e68 r)
def e69 (r : Int) : AV := .v (.int .i64 r)
def ref04_Class (bits : Int) (r : Int) : Prop := PureN Tryd.prog [] 69 [.v (.int .u64 bits)] (e69 r)
def slices_swapRangeCmpFunc_Pair (n0 : Nat) (data : (List (GValue × GValue))) (a : Int) (b : Int) (n : Int) (cmp : GFn) (r : (List (GValue × GValue))) : Prop := RowIO Tryd.prog eGPair' 14 78 n0 [.v (.int .i64 a), .v (.int .i64 b), .v (.int .i64 n), .clo (.func cmp.fn) cmp.fi cmp.cap] data r
theorem pl5 {x0 : (List (GValue × GValue))} : plainL [.sl (List.map eGPair' x0) .no] = true := (pcons (psl (plm_GPair x0)) rfl)
theorem pl6 {x0 : GValue} {x1 : GValue} : plainL [.agg (eGValue x0), .agg (eGValue x1)] = true := (pcons (pl_GValue x0) (pcons (pl_GValue x1) rfl))
theorem pl7 {x0 : GValue} {x1 : GValue} : plainL [.agg (eGValue x0), .agg (eGValue x1)] = true := (pcons (pl_GValue x0) (pcons (pl_GValue x1) rfl))
theorem pl8  : plainL [] = true := rfl
theorem pl12 {x0 : (List (GValue × GValue))} : plainL [.sl (List.map eGPair' x0) .no] = true := (pcons (psl (plm_GPair x0)) rfl)
theorem pio13 {x1 : GFn} : List.all [.clo (.func x1.fn) x1.fi x1.cap] okA = true := (okcons (okA_plain (gfn_pl x1)) rfl)
theorem pln13 {x1 : GFn} : plainL [.sl [] .no, .clo (.func x1.fn) x1.fi x1.cap] = true := (pcons rfl (pcons (gfn_pl x1) rfl))
theorem pl15 {x0 : GValue} {x1 : GValue} : plainL [.agg (eGValue x0), .agg (eGValue x1)] = true := (pcons (pl_GValue x0) (pcons (pl_GValue x1) rfl))
theorem pl16 {x0 : Int} {x1 : Int} : plainL [.v (.int .i64 x0), .v (.int .i64 x1)] = true := (pcons rfl (pcons rfl rfl))
theorem pl17 {x0 : GValue} : plainL [.agg (eGValue x0)] = true := (pcons (pl_GValue x0) rfl)
theorem pl18 {x0 : GValue} {x1 : GValue} : plainL [.agg (eGValue x0), .agg (eGValue x1)] = true := (pcons (pl_GValue x0) (pcons (pl_GValue x1) rfl))
theorem pl19 {x0 : (List GValue)} {x1 : (List GValue)} {x2 : GFn} : plainL [.sl (List.map eGValue' x0) .no, .sl (List.map eGValue' x1) .no, .clo (.func x2.fn) x2.fi x2.cap] = true := (pcons (psl (plm_GValue x0)) (pcons (psl (plm_GValue x1)) (pcons (gfn_pl x2) rfl)))
theorem pl20 {x0 : (List (GValue × GValue))} {x1 : (List (GValue × GValue))} {x2 : GFn} : plainL [.sl (List.map eGPair' x0) .no, .sl (List.map eGPair' x1) .no, .clo (.func x2.fn) x2.fi x2.cap] = true := (pcons (psl (plm_GPair x0)) (pcons (psl (plm_GPair x1)) (pcons (gfn_pl x2) rfl)))
theorem pl22 {x0 : (List Int)} : plainL [.sl (List.map eI_i64 x0) .no] = true := (pcons (psl (plm_I_i64 x0)) rfl)
theorem pl23 {x0 : (List (Int × GValue))} {x1 : (List (Int × GValue))} {x2 : GFn} : plainL [.sl (List.map eGSlot' x0) .no, .sl (List.map eGSlot' x1) .no, .clo (.func x2.fn) x2.fi x2.cap] = true := (pcons (psl (plm_GSlot x0)) (pcons (psl (plm_GSlot x1)) (pcons (gfn_pl x2) rfl)))
theorem pl25 {x0 : (List GRaw)} {x1 : (List GRaw)} {x2 : GFn} : plainL [.sl (List.map eGRaw x0) .no, .sl (List.map eGRaw x1) .no, .clo (.func x2.fn) x2.fi x2.cap] = true := (pcons (psl (plm_GRaw x0)) (pcons (psl (plm_GRaw x1)) (pcons (gfn_pl x2) rfl)))
theorem pl27 {x0 : GValue} {x1 : GValue} : plainL [.agg (eGValue x0), .agg (eGValue x1)] = true := (pcons (pl_GValue x0) (pcons (pl_GValue x1) rfl))
theorem pl28 {x0 : GValue} : plainL [.agg (eGValue x0)] = true := (pcons (pl_GValue x0) rfl)
theorem pio32 {x1 : Int} {x2 : GFn} : List.all [.v (.int .i64 x1), .clo (.func x2.fn) x2.fi x2.cap] okA = true := (okcons (okA_plain rfl) (okcons (okA_plain (gfn_pl x2)) rfl))
theorem pl33 {x0 : Int} : plainL [.v (.int .i64 x0)] = true := (pcons rfl rfl)
theorem pl34 {x0 : Int} : plainL [.v (.int .i64 x0)] = true := (pcons rfl rfl)
theorem pl35 {x0 : Int} : plainL [.v (.int .i64 x0)] = true := (pcons rfl rfl)
theorem pl36 {x0 : ByteArray} {x1 : ByteArray} : plainL [.v (.string x0), .v (.string x1)] = true := (pcons rfl (pcons rfl rfl))
theorem pl37 {x0 : Int} {x1 : Int} : plainL [.v (.int .u64 x0), .v (.int .u64 x1)] = true := (pcons rfl (pcons rfl rfl))
theorem pl38 {x0 : Int} : plainL [.v (.int .u64 x0)] = true := (pcons rfl rfl)
theorem pl39 {x0 : Int} {x1 : Int} : plainL [.v (.int .i64 x0), .v (.int .i64 x1)] = true := (pcons rfl (pcons rfl rfl))
theorem pl40 {x0 : (List GValue)} {x1 : (List GValue)} : plainL [.sl (List.map eGValue' x0) .no, .sl (List.map eGValue' x1) .no] = true := (pcons (psl (plm_GValue x0)) (pcons (psl (plm_GValue x1)) rfl))
theorem pl41 {x0 : (List (GValue × GValue))} {x1 : (List (GValue × GValue))} : plainL [.sl (List.map eGPair' x0) .no, .sl (List.map eGPair' x1) .no] = true := (pcons (psl (plm_GPair x0)) (pcons (psl (plm_GPair x1)) rfl))
theorem pl42 {x0 : (List (Int × GValue))} {x1 : (List (Int × GValue))} : plainL [.sl (List.map eGSlot' x0) .no, .sl (List.map eGSlot' x1) .no] = true := (pcons (psl (plm_GSlot x0)) (pcons (psl (plm_GSlot x1)) rfl))
theorem pl43 {x0 : (List GRaw)} {x1 : (List GRaw)} : plainL [.sl (List.map eGRaw x0) .no, .sl (List.map eGRaw x1) .no] = true := (pcons (psl (plm_GRaw x0)) (pcons (psl (plm_GRaw x1)) rfl))
theorem pl44 {x0 : GValue} {x1 : GValue} : plainL [.agg (eGValue x0), .agg (eGValue x1)] = true := (pcons (pl_GValue x0) (pcons (pl_GValue x1) rfl))
theorem pl45 {x0 : Int} {x1 : GValue} : plainL [.v (.int .i64 x0), .agg (eGValue x1)] = true := (pcons rfl (pcons (pl_GValue x1) rfl))
theorem pl46 {x0 : ByteArray} {x1 : ByteArray} {x2 : ByteArray} : plainL [.v (.string x0), .v (.string x1), .v (.string x2)] = true := (pcons rfl (pcons rfl (pcons rfl rfl)))
theorem pl47 {x0 : Int} : plainL [.v (.int .u64 x0)] = true := (pcons rfl rfl)
theorem pl48 {x0 : GValue} : plainL [.agg (eGValue x0)] = true := (pcons (pl_GValue x0) rfl)
theorem pl49 {x0 : (List Int)} : plainL [.sl (List.map eI_u8 x0) .no] = true := (pcons (psl (plm_I_u8 x0)) rfl)
theorem pio51 {x1 : Int} {x2 : Int} {x3 : GFn} : List.all [.v (.int .i64 x1), .v (.int .i64 x2), .clo (.func x3.fn) x3.fi x3.cap] okA = true := (okcons (okA_plain rfl) (okcons (okA_plain rfl) (okcons (okA_plain (gfn_pl x3)) rfl)))
theorem pio52 {x1 : Int} {x2 : Int} {x3 : Int} {x4 : GFn} : List.all [.v (.int .i64 x1), .v (.int .i64 x2), .v (.int .i64 x3), .clo (.func x4.fn) x4.fi x4.cap] okA = true := (okcons (okA_plain rfl) (okcons (okA_plain rfl) (okcons (okA_plain rfl) (okcons (okA_plain (gfn_pl x4)) rfl))))
theorem pl53 {x0 : ByteArray} : plainL [.v (.string x0)] = true := (pcons rfl rfl)
theorem pl54 {x0 : Int} : plainL [.v (.int .u64 x0)] = true := (pcons rfl rfl)
theorem pl55 {x0 : Int} : plainL [.v (.int .u64 x0)] = true := (pcons rfl rfl)
theorem pl56 {x0 : GRaw} {x1 : GRaw} : plainL [.agg (eGRaw x0), .agg (eGRaw x1)] = true := (pcons (pl_GRaw x0) (pcons (pl_GRaw x1) rfl))
theorem pl57 {x0 : Int} : plainL [.v (.int .i64 x0)] = true := (pcons rfl rfl)
theorem pl58 {x0 : Int} : plainL [.v (.int .i64 x0)] = true := (pcons rfl rfl)
theorem pl59 {x0 : GValue} : plainL [.agg (eGValue x0)] = true := (pcons (pl_GValue x0) rfl)
theorem pio67 {x1 : Int} {x2 : Int} {x3 : Int} {x4 : GFn} : List.all [.v (.int .i64 x1), .v (.int .i64 x2), .v (.int .i64 x3), .clo (.func x4.fn) x4.fi x4.cap] okA = true := (okcons (okA_plain rfl) (okcons (okA_plain rfl) (okcons (okA_plain rfl) (okcons (okA_plain (gfn_pl x4)) rfl))))
theorem pl68 {x0 : Int} : plainL [.v (.int .i64 x0)] = true := (pcons rfl rfl)
theorem pl69 {x0 : Int} : plainL [.v (.int .u64 x0)] = true := (pcons rfl rfl)
theorem pio78 {x1 : Int} {x2 : Int} {x3 : Int} {x4 : GFn} : List.all [.v (.int .i64 x1), .v (.int .i64 x2), .v (.int .i64 x3), .clo (.func x4.fn) x4.fi x4.cap] okA = true := (okcons (okA_plain rfl) (okcons (okA_plain rfl) (okcons (okA_plain rfl) (okcons (okA_plain (gfn_pl x4)) rfl))))
section
attribute [-simp] List.map_take List.map_drop List.map_append List.map_set List.map_replicate List.map_cons List.map_map
attribute [local simp] plain plainL lowE lowB keepB low lowL lowLL plm_I_i8 plm_I_i16 plm_I_i32 plm_I_i64 plm_I_u8 plm_I_u16 plm_I_u32 plm_I_u64 plm_Bool plm_Str gfn_fi gfn_cap plm_Fn pl_GRaw plm_GRaw pl_GValue plm_GValue pl_GPair plm_GPair pl_GSlot plm_GSlot pl_Gparts plm_Gparts pl_Any eI_i8 eI_i16 eI_i32 eI_i64 eI_u8 eI_u16 eI_u32 eI_u64 eBool eStr eFn gfn_lfi gfn_lcap lwm_GRaw lwm_GValue lwm_GPair lwm_GSlot
theorem plr3 (r : Bool) : plain (e3 r) = true := rfl
def r3_0 : LO := [o 2 (mb false)]
def r3_1 : LO := [o 10 (mv 0), o 11 (.len false (T 10)), o 12 (.bin .gtr (T 11) (ci 40))]
def r3_2 : LO := [o 2 (mb true)]
def k3_1 : ACode := .cond (T 12) (.seq (.region r3_2) .ret) .skip
def k3_2 : ACode := .seq (.region r3_1) k3_1
def r3_8 : LO := [o 13 (mv 0), o 14 (.call (cf 5) [(T 13)]), o 3 (mv 14)]
def r3_9 : LO := [o 4 (mi 0)]
def r3_10 : LO := [o 15 (mv 4), o 16 (mv 3), o 17 (.len false (T 16)), o 18 (.bin .lss (T 15) (T 17))]
def k3_3 : ACode := .cond (T 18) .skip (.exit 0)
def r3_15 : LO := [o 21 (mv 4), o 22 (.bin .gtr (T 21) (ci 0)), o 23 (mv 22), og 24 (mv 3) 23 true, og 25 (mv 4) 23 true, og 26 (.bin .sub (T 25) (ci 1)) 23 true, og 27 (.idxSl 14 (T 24) (T 26)) 23 true, og 28 (fa 0 27) 23 true, og 29 (ln 7 28) 23 true, og 30 (mv 3) 23 true, og 31 (mv 4) 23 true, og 32 (.idxSl 14 (T 30) (T 31)) 23 true, og 33 (fa 0 32) 23 true, og 34 (ln 7 33) 23 true, og 35 (.call (cf 6) [(T 29), (T 34)]) 23 true, og 36 (.bin .geq (T 35) (ci 0)) 23 true, o 37 (.pick (T 23) (T 36) (cb false))]
def r3_15t : LO := []
def r3_15o : LN := [[], [0], [1], [2], [2], [2, 4], [2, 3, 5], [2, 6], [2, 7], [2], [2], [2, 9, 10], [2, 11], [2, 12], [2, 8, 13], [2, 14], [2, 15]]
def r3_16 : LO := [o 2 (mb false)]
def k3_4 : ACode := .cond (T 37) (.seq (.region r3_16) .ret) .skip
def k3_5 : ACode := .seq (.drawn r3_15o r3_15 r3_15t) k3_4
def r3_23 : LO := [o 19 (mv 4), o 20 (.bin .add (T 19) (ci 1)), o 4 (mv 20)]
def k3_6 : ACode := .seq (.block 1 k3_5) (.region r3_23)
def k3_7 : ACode := .seq (.seq (.region r3_10) k3_3) k3_6
def k3_8 : ACode := .block 0 (.loop k3_7)
def r3_29 : LO := [o 5 (mi 0)]
def r3_30 : LO := [o 38 (mv 5), o 39 (mv 0), o 40 (.len false (T 39)), o 41 (.bin .lss (T 38) (T 40))]
def k3_9 : ACode := .cond (T 41) .skip (.exit 2)
def r3_35 : LO := [o 44 (mv 5), o 6 (mv 44)]
def r3_36 : LO := [o 45 (mv 5), o 7 (mv 45)]
def r3_37 : LO := [o 46 (mv 7), o 47 (mv 0), o 48 (.len false (T 47)), o 49 (.bin .lss (T 46) (T 48))]
def k3_10 : ACode := .cond (T 49) .skip (.exit 4)
def r3_42 : LO := [o 52 (mv 0), o 53 (mv 7), o 54 (.idxSl 14 (T 52) (T 53)), o 55 (fa 0 54), o 56 (ln 7 55), o 57 (mv 0), o 58 (mv 5), o 59 (.idxSl 14 (T 57) (T 58)), o 60 (fa 0 59), o 61 (ln 7 60), o 62 (.call (cf 7) [(T 56), (T 61)])]
def r3_42t : LO := []
def r3_42o : LN := [[], [], [0, 1], [2], [3], [], [], [5, 6], [7], [8], [4, 9]]
def r3_43 : LO := [o 63 (mv 7), o 6 (mv 63)]
def k3_11 : ACode := .cond (T 62) (.region r3_43) .skip
def k3_12 : ACode := .seq (.drawn r3_42o r3_42 r3_42t) k3_11
def r3_48 : LO := [o 50 (mv 7), o 51 (.bin .add (T 50) (ci 1)), o 7 (mv 51)]
def k3_13 : ACode := .seq (.block 5 k3_12) (.region r3_48)
def k3_14 : ACode := .seq (.seq (.region r3_37) k3_10) k3_13
def k3_15 : ACode := .block 4 (.loop k3_14)
def r3_54 : LO := [o 8 (mb false)]
def r3_55 : LO := [o 9 (mi 0)]
def r3_56 : LO := [o 64 (mv 9), o 65 (mv 3), o 66 (.len false (T 65)), o 67 (.bin .lss (T 64) (T 66))]
def k3_16 : ACode := .cond (T 67) .skip (.exit 6)
def r3_61 : LO := [o 70 (mv 3), o 71 (mv 9), o 72 (.idxSl 14 (T 70) (T 71)), o 73 (fa 0 72), o 74 (ln 7 73), o 75 (mv 0), o 76 (mv 5), o 77 (.idxSl 14 (T 75) (T 76)), o 78 (fa 0 77), o 79 (ln 7 78), o 80 (.call (cf 7) [(T 74), (T 79)])]
def r3_61t : LO := []
def r3_61o : LN := [[], [], [0, 1], [2], [3], [], [], [5, 6], [7], [8], [4, 9]]
def r3_62 : LO := [o 81 (mv 3), o 82 (mv 9), o 83 (.idxSl 14 (T 81) (T 82)), o 84 (fa 7 83), o 85 (ln 7 84), o 86 (mv 0), o 87 (mv 6), o 88 (.idxSl 14 (T 86) (T 87)), o 89 (fa 7 88), o 90 (ln 7 89), o 91 (.call (cf 7) [(T 85), (T 90)])]
def r3_62t : LO := [o 8 (mv 91)]
def r3_62o : LN := [[], [], [0, 1], [2], [3], [], [], [5, 6], [7], [8], [4, 9]]
def k3_17 : ACode := .cond (T 80) (.drawn r3_62o r3_62 r3_62t) .skip
def k3_18 : ACode := .seq (.drawn r3_61o r3_61 r3_61t) k3_17
def r3_67 : LO := [o 68 (mv 9), o 69 (.bin .add (T 68) (ci 1)), o 9 (mv 69)]
def k3_19 : ACode := .seq (.block 7 k3_18) (.region r3_67)
def k3_20 : ACode := .seq (.seq (.region r3_56) k3_16) k3_19
def k3_21 : ACode := .block 6 (.loop k3_20)
def r3_73 : LO := [o 92 (mv 8), o 93 (.un .not (T 92))]
def r3_74 : LO := [o 2 (mb false)]
def k3_22 : ACode := .cond (T 93) (.seq (.region r3_74) .ret) .skip
def k3_23 : ACode := .seq (.region r3_73) k3_22
def k3_24 : ACode := .seq (.seq (.region r3_55) k3_21) k3_23
def k3_25 : ACode := .seq (.region r3_54) k3_24
def k3_26 : ACode := .seq (.seq (.region r3_36) k3_15) k3_25
def k3_27 : ACode := .seq (.region r3_35) k3_26
def r3_85 : LO := [o 42 (mv 5), o 43 (.bin .add (T 42) (ci 1)), o 5 (mv 43)]
def k3_28 : ACode := .seq (.block 3 k3_27) (.region r3_85)
def k3_29 : ACode := .seq (.seq (.region r3_30) k3_9) k3_28
def k3_30 : ACode := .block 2 (.loop k3_29)
def r3_91 : LO := [o 94 (mv 3), o 95 (.len false (T 94)), o 96 (mv 0), o 97 (.len false (T 96)), o 98 (.bin .leq (T 95) (T 97)), o 99 (mv 98), og 100 (.call (cf 8) []) 99 true, o 101 (.pick (T 99) (T 100) (cb false)), o 2 (mv 101)]
def k3_31 : ACode := .seq (.region r3_91) .ret
def k3_32 : ACode := .seq (.seq (.region r3_29) k3_30) k3_31
def k3_33 : ACode := .seq (.seq (.region r3_9) k3_8) k3_32
def k3_34 : ACode := .seq (.region r3_8) k3_33
def k3_35 : ACode := .seq k3_2 k3_34
def k3_36 : ACode := .seq (.region r3_0) k3_35
theorem fn3 : getFn Tryd.prog 3 = some (102, k3_36, [.tmp 2]) := by kernel_rfl
def q3_0 (r : Bool) : QP := qret [.tmp 2] (e3 r)
def q3_12 (r : Bool) : QP := tq Tryd.prog 102 k3_31 (q3_0 r)
def q3_14 (r : Bool) : QP := inBlockA 2 (q3_12 r)
def q3_15 (r : Bool) : QP := tl Tryd.prog 102 k3_29 (q3_14 r)
def q3_19 (r : Bool) : QP := tq Tryd.prog 102 (.region r3_85) (q3_15 r)
def q3_20 (r : Bool) : QP := inBlockA 3 (q3_19 r)
def q3_29 (r : Bool) : QP := tq Tryd.prog 102 k3_23 (q3_20 r)
def q3_31 (r : Bool) : QP := inBlockA 6 (q3_29 r)
def law16_OrderLast_j42 (ij38 : Int) (bj39 : Bool) (ij37 : Int) (ij30 : Int) (y1 : (List (GValue × GValue))) (l : (List (GValue × GValue))) (mg : Int) (r : Bool) : Prop := DL Tryd.prog 102 0 0 k3_20 (q3_31 r) [(9, aI ij38), (8, aB bj39), (6, aI ij37), (5, aI ij30), (3, .sl (List.map eGPair' y1) .no), (0, .sl (List.map eGPair' l) .no)] ⟨[], [], GLm mg⟩
def q3_22 (r : Bool) : QP := tq Tryd.prog 102 k3_25 (q3_20 r)
def q3_24 (r : Bool) : QP := inBlockA 4 (q3_22 r)
def law16_OrderLast_j40 (ij36 : Int) (ij37 : Int) (ij30 : Int) (y1 : (List (GValue × GValue))) (l : (List (GValue × GValue))) (mg : Int) (r : Bool) : Prop := DL Tryd.prog 102 0 0 k3_14 (q3_24 r) [(7, aI ij36), (6, aI ij37), (5, aI ij30), (3, .sl (List.map eGPair' y1) .no), (0, .sl (List.map eGPair' l) .no)] ⟨[], [], GLm mg⟩
def law16_OrderLast_j33 (ij30 : Int) (y1 : (List (GValue × GValue))) (l : (List (GValue × GValue))) (mg : Int) (r : Bool) : Prop := DL Tryd.prog 102 0 0 k3_29 (q3_14 r) [(5, aI ij30), (3, .sl (List.map eGPair' y1) .no), (0, .sl (List.map eGPair' l) .no)] ⟨[], [], GLm mg⟩
def q3_6 (r : Bool) : QP := tq Tryd.prog 102 k3_32 (q3_0 r)
def q3_8 (r : Bool) : QP := inBlockA 0 (q3_6 r)
def law16_OrderLast_j22 (ij20 : Int) (y1 : (List (GValue × GValue))) (l : (List (GValue × GValue))) (mg : Int) (r : Bool) : Prop := DL Tryd.prog 102 0 0 k3_7 (q3_8 r) [(4, aI ij20), (3, .sl (List.map eGPair' y1) .no), (0, .sl (List.map eGPair' l) .no)] ⟨[], [], GLm mg⟩
theorem law16_OrderLast_j42_step (ij38 : Int) (bj39 : Bool) (ij37 : Int) (ij30 : Int) (y1 : (List (GValue × GValue))) (l : (List (GValue × GValue))) (mg : Int) (r : Bool) (hw : ((decide (ij38 < (y1.length : Int))) = true -> ∃ y177, y1[ij38.toNat]? = some y177 /\ 0 <= ij38 /\ (∃ y178, l[ij30.toNat]? = some y178 /\ 0 <= ij30 /\ (∃ y179, ref16_Equal y177.1 y178.1 y179 /\ ((y179 = true -> ∃ y180, y1[ij38.toNat]? = some y180 /\ 0 <= ij38 /\ (∃ y181, l[ij37.toNat]? = some y181 /\ 0 <= ij37 /\ (∃ y182, ref16_Equal y180.2 y181.2 y182 /\ (law16_OrderLast_j42 (wI (ij38 + 1)) y182 ij37 ij30 y1 l mg r)))) /\ (y179 = false -> law16_OrderLast_j42 (wI (ij38 + 1)) bj39 ij37 ij30 y1 l mg r))))) /\ ((decide (ij38 < (y1.length : Int))) = false -> ((!bj39) = true -> r = false) /\ ((!bj39) = false -> law16_OrderLast_j33 (wI (ij30 + 1)) y1 l mg r))) : law16_OrderLast_j42 ij38 bj39 ij37 ij30 y1 l mg r := by
 refine dl_unroll (d_seqQ (ds (va 2 [(65, .sl (List.map eGPair' y1) .no), (64, aI ij38)] (vo rfl (x_len y1 eGPair') rfl (va 1 [(67, aB (decide (ij38 < (y1.length : Int))))] (ve (dw hw (fun _ hw => ?_) (fun _ hw => ?_))))))))
 ·refine d_skip (d_seqQ (d_blockQ (d_seqQ (dS [] (sa 0 2 [(71, aI ij38), (70, .sl (List.map eGPair' y1) .no)] ?_)))))
  obtain ⟨y177, hy, h0, hw⟩ := hw
  refine sq rfl (fun _ _ => x_idx h0 hy (eGPair'_eq _)) rfl (sa 0 4 [(76, aI ij30), (75, .sl (List.map eGPair' l) .no), (74, .agg (eGValue y177.1))] ?_)
  obtain ⟨y178, hy, h0, hw⟩ := hw
  refine sq rfl (fun _ _ => x_idx h0 hy (eGPair'_eq _)) rfl (sa 0 2 [(79, .agg (eGValue y178.1))] ?_)
  obtain ⟨y179, hy, hw⟩ := hw
  refine sq rfl (y_call (pg hy) pl7) rfl (send (vp_start' (ve (dw hw (fun _ hw => ?_) (fun _ hw => ?_)))))
  ·refine dS [] (sa 0 2 [(82, aI ij38), (81, .sl (List.map eGPair' y1) .no)] ?_)
   obtain ⟨y180, hy, h0, hw⟩ := hw
   refine sq rfl (fun _ _ => x_idx h0 hy (eGPair'_eq _)) rfl (sa 0 4 [(87, aI ij37), (86, .sl (List.map eGPair' l) .no), (85, .agg (eGValue y180.2))] ?_)
   obtain ⟨y181, hy, h0, hw⟩ := hw
   refine sq rfl (fun _ _ => x_idx h0 hy (eGPair'_eq _)) rfl (sa 0 2 [(90, .agg (eGValue y181.2))] ?_)
   obtain ⟨y182, hy, hw⟩ := hw
   exact sq rfl (y_call (pg hy) pl7) rfl (send (vp_start' (va 1 [(8, aB y182)] (ve (dr (va 3 [(9, aI (wI (ij38 + 1)))] (ve (jl0 hw))))))))
  exact d_skip (dr (va 3 [(9, aI (wI (ij38 + 1)))] (ve (jl0 hw))))
 refine d_exit (ds (va 2 [(93, aB (!bj39))] (ve (dw hw (fun _ hw => ?_) (fun _ hw => ?_)))))
 ·exact ds (va 1 [(2, aB false)] (ve (d_ret (rx hw (plr3 _)))))
 exact d_skip (dr (va 3 [(5, aI (wI (ij30 + 1)))] (ve (jl0 hw))))
theorem law16_OrderLast_j40_step (ij36 : Int) (ij37 : Int) (ij30 : Int) (y1 : (List (GValue × GValue))) (l : (List (GValue × GValue))) (mg : Int) (r : Bool) (hw : ((decide (ij36 < (l.length : Int))) = true -> ∃ y183, l[ij36.toNat]? = some y183 /\ 0 <= ij36 /\ (∃ y184, l[ij30.toNat]? = some y184 /\ 0 <= ij30 /\ (∃ y185, ref16_Equal y183.1 y184.1 y185 /\ ((y185 = true -> law16_OrderLast_j40 (wI (ij36 + 1)) ij36 ij30 y1 l mg r) /\ (y185 = false -> law16_OrderLast_j40 (wI (ij36 + 1)) ij37 ij30 y1 l mg r))))) /\ ((decide (ij36 < (l.length : Int))) = false -> law16_OrderLast_j42 0 false ij37 ij30 y1 l mg r)) : law16_OrderLast_j40 ij36 ij37 ij30 y1 l mg r := by
 refine dl_unroll (d_seqQ (ds (va 2 [(47, .sl (List.map eGPair' l) .no), (46, aI ij36)] (vo rfl (x_len l eGPair') rfl (va 1 [(49, aB (decide (ij36 < (l.length : Int))))] (ve (dw hw (fun _ hw => ?_) (fun _ hw => ?_))))))))
 ·refine d_skip (d_seqQ (d_blockQ (d_seqQ (dS [] (sa 0 2 [(53, aI ij36), (52, .sl (List.map eGPair' l) .no)] ?_)))))
  obtain ⟨y183, hy, h0, hw⟩ := hw
  refine sq rfl (fun _ _ => x_idx h0 hy (eGPair'_eq _)) rfl (sa 0 4 [(58, aI ij30), (57, .sl (List.map eGPair' l) .no), (56, .agg (eGValue y183.1))] ?_)
  obtain ⟨y184, hy, h0, hw⟩ := hw
  refine sq rfl (fun _ _ => x_idx h0 hy (eGPair'_eq _)) rfl (sa 0 2 [(61, .agg (eGValue y184.1))] ?_)
  obtain ⟨y185, hy, hw⟩ := hw
  refine sq rfl (y_call (pg hy) pl7) rfl (send (vp_start' (ve (dw hw (fun _ hw => ?_) (fun _ hw => ?_)))))
  ·exact dr (va 2 [(6, aI ij36)] (ve (dr (va 3 [(7, aI (wI (ij36 + 1)))] (ve (jl0 hw))))))
  exact d_skip (dr (va 3 [(7, aI (wI (ij36 + 1)))] (ve (jl0 hw))))
 exact d_exit (ds (va 1 [(8, aB false)] (ve (d_seqQ (ds (va 1 [(9, aI 0)] (ve (d_blockQ (d_loopQ (jl0 hw))))))))))
theorem law16_OrderLast_j33_step (ij30 : Int) (y1 : (List (GValue × GValue))) (l : (List (GValue × GValue))) (mg : Int) (r : Bool) (hw : ((decide (ij30 < (l.length : Int))) = true -> law16_OrderLast_j40 ij30 ij30 ij30 y1 l mg r) /\ ((decide (ij30 < (l.length : Int))) = false -> ((decide ((y1.length : Int) <= (l.length : Int))) = true -> ∃ y140, law16_awake mg y140 /\ (r = y140)) /\ ((decide ((y1.length : Int) <= (l.length : Int))) = false -> r = false))) : law16_OrderLast_j33 ij30 y1 l mg r := by
 refine dl_unroll (d_seqQ (ds (va 2 [(39, .sl (List.map eGPair' l) .no), (38, aI ij30)] (vo rfl (x_len l eGPair') rfl (va 1 [(41, aB (decide (ij30 < (l.length : Int))))] (ve (dw hw (fun _ hw => ?_) (fun _ hw => ?_))))))))
 ·exact d_skip (d_seqQ (d_blockQ (ds (va 2 [(6, aI ij30)] (ve (d_seqQ (ds (va 2 [(7, aI ij30)] (ve (d_blockQ (d_loopQ (jl0 hw))))))))))))
 refine d_exit (ds (va 1 [(94, .sl (List.map eGPair' y1) .no)] (vo rfl (x_len y1 eGPair') rfl (va 1 [(96, .sl (List.map eGPair' l) .no)] (vo rfl (x_len l eGPair') rfl (va 2 [(99, aB (decide ((y1.length : Int) <= (l.length : Int))))] (vw2 99 hw (fun _ hw => ?_) (fun _ hw => ?_))))))))
 ·obtain ⟨y140, hy, hw⟩ := hw
  exact vo rfl (x_call hy pl8) rfl (va 2 [(2, aB y140)] (ve (d_ret (rx hw (plr3 _)))))
 exact va 3 [(2, aB false)] (ve (d_ret (rx hw (plr3 _))))
theorem law16_OrderLast_j22_step (ij20 : Int) (y1 : (List (GValue × GValue))) (l : (List (GValue × GValue))) (mg : Int) (r : Bool) (hw : ((decide (ij20 < (y1.length : Int))) = true -> ((decide (0 < ij20)) = true -> ∃ y187, y1[(wI (ij20 - 1)).toNat]? = some y187 /\ 0 <= (wI (ij20 - 1)) /\ (∃ y188, y1[ij20.toNat]? = some y188 /\ 0 <= ij20 /\ (∃ y189, order_Cmp y187.1 y188.1 y189 /\ (((decide (0 <= y189)) = true -> r = false) /\ ((decide (0 <= y189)) = false -> law16_OrderLast_j22 (wI (ij20 + 1)) y1 l mg r))))) /\ ((decide (0 < ij20)) = false -> law16_OrderLast_j22 (wI (ij20 + 1)) y1 l mg r)) /\ ((decide (ij20 < (y1.length : Int))) = false -> law16_OrderLast_j33 0 y1 l mg r)) : law16_OrderLast_j22 ij20 y1 l mg r := by
 refine dl_unroll (d_seqQ (ds (va 2 [(16, .sl (List.map eGPair' y1) .no), (15, aI ij20)] (vo rfl (x_len y1 eGPair') rfl (va 1 [(18, aB (decide (ij20 < (y1.length : Int))))] (ve (dw hw (fun _ hw => ?_) (fun _ hw => ?_))))))))
 ·refine d_skip (d_seqQ (d_blockQ (d_seqQ (dS [] (sa 0 3 [(23, aB (decide (0 < ij20)))] (sw2 23 hw (fun _ hw => ?_) (fun _ hw => ?_)))))))
  ·refine sa 0 3 [(26, aI (wI (ij20 - 1))), (24, .sl (List.map eGPair' y1) .no)] ?_
   obtain ⟨y187, hy, h0, hw⟩ := hw
   refine sq rfl (fun _ _ => x_idx h0 hy (eGPair'_eq _)) rfl (sa 0 4 [(31, aI ij20), (30, .sl (List.map eGPair' y1) .no), (29, .agg (eGValue y187.1))] ?_)
   obtain ⟨y188, hy, h0, hw⟩ := hw
   refine sq rfl (fun _ _ => x_idx h0 hy (eGPair'_eq _)) rfl (sa 0 2 [(34, .agg (eGValue y188.1))] ?_)
   obtain ⟨y189, hy, hw⟩ := hw
   refine sq rfl (y_call (pg hy) pl6) rfl (sa 0 2 [(37, aB (decide (0 <= y189)))] (send (vp_start' (ve (dw hw (fun _ hw => ?_) (fun _ hw => ?_))))))
   ·exact ds (va 1 [(2, aB false)] (ve (d_ret (rx hw (plr3 _)))))
   exact d_skip (dr (va 3 [(4, aI (wI (ij20 + 1)))] (ve (jl0 hw))))
  exact sa 0 14 [(37, aB false)] (send (vp_start' (ve (df (d_skip (dr (va 3 [(4, aI (wI (ij20 + 1)))] (ve (jl0 hw)))))))))
 exact d_exit (d_seqQ (ds (va 1 [(5, aI 0)] (ve (d_blockQ (d_loopQ (jl0 hw)))))))
theorem law16_OrderLast_step (mg : Int) (l : (List (GValue × GValue))) (r : Bool) (hw : ((decide (40 < (l.length : Int))) = true -> r = true) /\ ((decide (40 < (l.length : Int))) = false -> ∃ y1, order_Pairs l y1 /\ (law16_OrderLast_j22 0 y1 l mg r))) : law16_OrderLast mg l r := by
 refine f_pureD fn3 nle rfl (ds (va 1 [] (ve (d_seqQ (ds (va 1 [(10, .sl (List.map eGPair' l) .no)] (vo rfl (x_len l eGPair') rfl (va 1 [(12, aB (decide (40 < (l.length : Int))))] (ve (dw hw (fun _ hw => ?_) (fun _ hw => ?_)))))))))))
 ·exact ds (va 1 [(2, aB true)] (ve (d_ret (rx hw (plr3 _)))))
 refine d_skip (ds (va 1 [(13, .sl (List.map eGPair' l) .no)] ?_))
 obtain ⟨y1, hy, hw⟩ := hw
 exact vo rfl (x_call (pg hy) pl5) rfl (va 1 [(3, .sl (List.map eGPair' y1) .no)] (ve (d_seqQ (ds (va 1 [(4, aI 0)] (ve (d_blockQ (d_loopQ (jl0 hw)))))))))
theorem plr5 (r : (List (GValue × GValue))) : plain (e5 r) = true := (psl (plm_GPair r))
def r5_0 : LO := [o 2 (.mv (.c .nil))]
def r5_1 : LO := [o 7 (mv 0), o 8 (.call (cf 12) [(T 7)]), o 3 (mv 8)]
def r5_2 : LO := [o 9 (mv 3), o 10 (.call (cf 13) [(T 9), (cf 14)])]
def r5_3 : LO := [o 4 (.mv (.c .nil))]
def r5_4 : LO := [o 11 (mv 3), o 12 (.len false (T 11)), o 13 (mi 0)]
def r5_5 : LO := [o 14 (.bin .lss (T 13) (T 12))]
def r5_9 : LO := [o 15 (mv 13), o 16 (.idxSl 14 (T 11) (T 13)), o 17 (ln 14 16), o 6 (.alloc [(aI 0), (aU 0), aE, .nil, .nil, .nil, .nil, (aI 0), (aU 0), aE, .nil, .nil, .nil, .nil]), o 5 (mv 15), on (st 14 6 17)]
def r5_10 : LO := [o 18 (mv 5), o 19 (.bin .add (T 18) (ci 1)), o 20 (mv 3), o 21 (.len false (T 20)), o 22 (.bin .eql (T 19) (T 21)), o 23 (mv 22), og 24 (fa 0 6) 23 false, og 25 (ln 7 24) 23 false, og 26 (mv 3) 23 false, og 27 (mv 5) 23 false, og 28 (.bin .add (T 27) (ci 1)) 23 false, og 29 (.idxSl 14 (T 26) (T 28)) 23 false, og 30 (fa 0 29) 23 false, og 31 (ln 7 30) 23 false, og 32 (.call (cf 15) [(T 25), (T 31)]) 23 false, og 33 (.un .not (T 32)) 23 false, o 34 (.pick (T 23) (cb true) (T 33))]
def r5_10t : LO := []
def r5_10o : LN := [[], [0], [], [2], [1, 3], [4], [5], [5, 6], [5], [5], [5, 9], [5, 8, 10], [5, 11], [5, 12], [5, 7, 13], [5, 14], [5, 15]]
def r5_11 : LO := [o 35 (mv 4), o 36 (ln 14 6), o 37 (.sliceLit 14 1 [(aI 0), (aU 0), aE, .nil, .nil, .nil, .nil, (aI 0), (aU 0), aE, .nil, .nil, .nil, .nil] [((0, 14), (T 36))]), o 38 (.append 14 256 (T 35) (T 37)), o 4 (mv 38)]
def k5_1 : ACode := .cond (T 34) (.region r5_11) .skip
def k5_2 : ACode := .seq (.drawn r5_10o r5_10 r5_10t) k5_1
def r5_17 : LO := [o 39 (.bin .add (T 13) (ci 1)), o 13 (mv 39)]
def k5_3 : ACode := .seq (.block 1 (.seq (.region r5_9) k5_2)) (.region r5_17)
def k5_4 : ACode := .seq (.cond (T 14) .skip (.exit 0)) k5_3
def k5_5 : ACode := .seq (.region r5_5) k5_4
def k5_6 : ACode := .block 0 (.loop k5_5)
def r5_24 : LO := [o 40 (mv 4), o 2 (mv 40)]
def k5_7 : ACode := .seq (.region r5_24) .ret
def k5_8 : ACode := .seq (.seq (.region r5_4) k5_6) k5_7
def k5_9 : ACode := .seq (.region r5_3) k5_8
def k5_10 : ACode := .seq (.region r5_2) k5_9
def k5_11 : ACode := .seq (.region r5_1) k5_10
def k5_12 : ACode := .seq (.region r5_0) k5_11
theorem fn5 : getFn Tryd.prog 5 = some (41, k5_12, [.tmp 2]) := by kernel_rfl
def q5_0 (r : (List (GValue × GValue))) : QP := qret [.tmp 2] (e5 r)
def q5_5 (r : (List (GValue × GValue))) : QP := tq Tryd.prog 41 k5_7 (q5_0 r)
def q5_7 (r : (List (GValue × GValue))) : QP := inBlockA 0 (q5_5 r)
def order_Pairs_j2 (ij1 : Int) (lj2 : (List (GValue × GValue))) (r : (List (GValue × GValue))) : Prop := DL Tryd.prog 41 0 0 k5_5 (q5_7 r) [(13, aI ij1), (12, aI (([] : List (GValue × GValue)).length : Int)), (11, .sl (List.map eGPair' ([] : List (GValue × GValue))) .no), (4, .sl (List.map eGPair' lj2) (.own 0)), (3, .sl (List.map eGPair' ([] : List (GValue × GValue))) .no)] ⟨[], [(lj2.length, 14)], []⟩
def order_Pairs_j4 (ij3 : Int) (y9 : (List (GValue × GValue))) (lj4 : (List (GValue × GValue))) (r : (List (GValue × GValue))) : Prop := DL Tryd.prog 41 0 0 k5_5 (q5_7 r) [(13, aI ij3), (12, aI (y9.length : Int)), (11, .sl (List.map eGPair' y9) .no), (4, .sl (List.map eGPair' lj4) (.own 0)), (3, .sl (List.map eGPair' y9) .no)] ⟨[], [(lj4.length, 14)], []⟩
theorem order_Pairs_j2_low {ij1 : Int} {lj2 : (List (GValue × GValue))} : lowE [] 1 [(13, aI ij1), (12, aI (([] : List (GValue × GValue)).length : Int)), (11, .sl (List.map eGPair' ([] : List (GValue × GValue))) .no), (4, .sl (List.map eGPair' lj2) (.own 0)), (3, .sl (List.map eGPair' ([] : List (GValue × GValue))) .no)] = true /\ lowB [] 1 [] = true := ⟨by first | rfl | simp, by first | rfl | simp⟩
theorem order_Pairs_j4_low {ij3 : Int} {y9 : (List (GValue × GValue))} {lj4 : (List (GValue × GValue))} : lowE [] 1 [(13, aI ij3), (12, aI (y9.length : Int)), (11, .sl (List.map eGPair' y9) .no), (4, .sl (List.map eGPair' lj4) (.own 0)), (3, .sl (List.map eGPair' y9) .no)] = true /\ lowB [] 1 [] = true := ⟨by first | rfl | simp, by first | rfl | simp⟩
theorem order_Pairs_j2_step (ij1 : Int) (lj2 : (List (GValue × GValue))) (r : (List (GValue × GValue))) (hw : ((decide (ij1 < (([] : List (GValue × GValue)).length : Int))) = true -> ∃ y5, ([] : List (GValue × GValue))[ij1.toNat]? = some y5 /\ 0 <= ij1 /\ (∃ R4 : Bool -> Prop, (∀ bz4 : Bool, R4 bz4 -> ((bz4 = true -> (lj2.length + [y5].length) * 256 <= 140737488355328 /\ (order_Pairs_j2 (wI (ij1 + 1)) (lj2 ++ [y5]) r)) /\ (bz4 = false -> order_Pairs_j2 (wI (ij1 + 1)) lj2 r))) /\ ((((wI (ij1 + 1)) == (([] : List (GValue × GValue)).length : Int)) = true -> R4 true) /\ (((wI (ij1 + 1)) == (([] : List (GValue × GValue)).length : Int)) = false -> ∃ y7, ([] : List (GValue × GValue))[(wI (ij1 + 1)).toNat]? = some y7 /\ 0 <= (wI (ij1 + 1)) /\ (∃ y8, order_Equal y5.1 y7.1 y8 /\ (R4 (!y8))))))) /\ ((decide (ij1 < (([] : List (GValue × GValue)).length : Int))) = false -> r = lj2)) : order_Pairs_j2 ij1 lj2 r := by
 refine dl_unroll (ds (va 1 [(14, aB (decide (ij1 < (([] : List (GValue × GValue)).length : Int))))] (ve (d_seqQ (dw hw (fun _ hw => ?_) (fun _ hw => ?_))))))
 ·refine d_skip (d_seqQ (d_blockQ (ds (va 1 [(15, aI ij1)] ?_))))
  obtain ⟨y5, hy, h0, hw⟩ := hw
  refine vo rfl (x_idx h0 hy (eGPair'_eq _)) rfl (vg 4 [(5, aI ij1), (6, .ptr 0 0)] [(eGPair y5)] [] (ve (d_seqQ (dS [(0, (eGPair y5))] (sa 1 3 [(20, .sl (List.map eGPair' ([] : List (GValue × GValue))) .no), (19, aI (wI (ij1 + 1)))] (sq rfl (fun _ _ => x_len ([] : List (GValue × GValue)) eGPair') rfl (sa 1 2 [(23, aB ((wI (ij1 + 1)) == (([] : List (GValue × GValue)).length : Int)))] ?_)))))))
  obtain ⟨R4, hR, hw⟩ := hw
  refine sr 23 34 17 ((wI (ij1 + 1)) == (([] : List (GValue × GValue)).length : Int)) R4 (fun bz4 => aB bz4) (km_vd km_d) (fun bz4 hz => ?_) (fun key => ⟨fun hb8 => ?_, fun hb8 => ?_⟩)
  ·have hw := hR bz4 hz
   refine send (vp_start' (ve (dw hw (fun _ hw => ?_) (fun _ hw => ?_))))
   ·refine dr (va 3 [(37, .sl [(eGPair y5)] .full), (35, .sl (List.map eGPair' lj2) (.own 0))] ?_)
    obtain ⟨h0, hw⟩ := hw
    exact vo rfl (x_app 0 eGPair' lj2 [y5] h0 (fun _ => by rw [eGPair'_eq]; rfl) (Eq.trans (show _ = some [eGPair y5] by kernel_rfl) (by simp only [List.map_cons, List.map_nil, eGPair'_eq]))) rfl (va 1 [(4, .sl (List.map eGPair' (lj2 ++ [y5])) (.own 0))] (ve (dr (va 2 [(13, aI (wI (ij1 + 1)))] (ve (jl order_Pairs_j2_low hw))))))
   exact d_skip (dr (va 2 [(13, aI (wI (ij1 + 1)))] (ve (jl order_Pairs_j2_low hw))))
  ·have hw := hw.1 hb8
   exact sa 1 10 [(33, .tuple [])] (sa 1 1 [(34, aB true)] (sle (km_vd km_d) (key _ hw)))
  ·have hw := hw.2 hb8
   refine sa 1 5 [(28, aI (wI (ij1 + 1))), (26, .sl (List.map eGPair' ([] : List (GValue × GValue))) .no), (25, .agg (eGValue y5.1))] ?_
   obtain ⟨y7, hy, h0, hw⟩ := hw
   refine sq rfl (fun _ _ => x_idx h0 hy (eGPair'_eq _)) rfl (sa 1 2 [(31, .agg (eGValue y7.1))] ?_)
   obtain ⟨y8, hy, hw⟩ := hw
   exact sq rfl (y_call hy pl15) rfl (sa 1 1 [(33, aB (!y8))] (sa 1 1 [(34, aB (!y8))] (sle (km_vd km_d) (key _ hw))))
 exact d_exit (ds (va 2 [(2, .sl (List.map eGPair' lj2) (.own 0))] (ve (d_ret (rx hw (plr5 _))))))
theorem order_Pairs_j4_step (ij3 : Int) (y9 : (List (GValue × GValue))) (lj4 : (List (GValue × GValue))) (r : (List (GValue × GValue))) (hw : ((decide (ij3 < (y9.length : Int))) = true -> ∃ y14, y9[ij3.toNat]? = some y14 /\ 0 <= ij3 /\ (∃ R8 : Bool -> Prop, (∀ bz8 : Bool, R8 bz8 -> ((bz8 = true -> (lj4.length + [y14].length) * 256 <= 140737488355328 /\ (order_Pairs_j4 (wI (ij3 + 1)) y9 (lj4 ++ [y14]) r)) /\ (bz8 = false -> order_Pairs_j4 (wI (ij3 + 1)) y9 lj4 r))) /\ ((((wI (ij3 + 1)) == (y9.length : Int)) = true -> R8 true) /\ (((wI (ij3 + 1)) == (y9.length : Int)) = false -> ∃ y16, y9[(wI (ij3 + 1)).toNat]? = some y16 /\ 0 <= (wI (ij3 + 1)) /\ (∃ y17, order_Equal y14.1 y16.1 y17 /\ (R8 (!y17))))))) /\ ((decide (ij3 < (y9.length : Int))) = false -> r = lj4)) : order_Pairs_j4 ij3 y9 lj4 r := by
 refine dl_unroll (ds (va 1 [(14, aB (decide (ij3 < (y9.length : Int))))] (ve (d_seqQ (dw hw (fun _ hw => ?_) (fun _ hw => ?_))))))
 ·refine d_skip (d_seqQ (d_blockQ (ds (va 1 [(15, aI ij3)] ?_))))
  obtain ⟨y14, hy, h0, hw⟩ := hw
  refine vo rfl (x_idx h0 hy (eGPair'_eq _)) rfl (vg 4 [(5, aI ij3), (6, .ptr 0 0)] [(eGPair y14)] [] (ve (d_seqQ (dS [(0, (eGPair y14))] (sa 1 3 [(20, .sl (List.map eGPair' y9) .no), (19, aI (wI (ij3 + 1)))] (sq rfl (fun _ _ => x_len y9 eGPair') rfl (sa 1 2 [(23, aB ((wI (ij3 + 1)) == (y9.length : Int)))] ?_)))))))
  obtain ⟨R8, hR, hw⟩ := hw
  refine sr 23 34 17 ((wI (ij3 + 1)) == (y9.length : Int)) R8 (fun bz8 => aB bz8) (km_vd km_d) (fun bz8 hz => ?_) (fun key => ⟨fun hb16 => ?_, fun hb16 => ?_⟩)
  ·have hw := hR bz8 hz
   refine send (vp_start' (ve (dw hw (fun _ hw => ?_) (fun _ hw => ?_))))
   ·refine dr (va 3 [(37, .sl [(eGPair y14)] .full), (35, .sl (List.map eGPair' lj4) (.own 0))] ?_)
    obtain ⟨h0, hw⟩ := hw
    exact vo rfl (x_app 0 eGPair' lj4 [y14] h0 (fun _ => by rw [eGPair'_eq]; rfl) (Eq.trans (show _ = some [eGPair y14] by kernel_rfl) (by simp only [List.map_cons, List.map_nil, eGPair'_eq]))) rfl (va 1 [(4, .sl (List.map eGPair' (lj4 ++ [y14])) (.own 0))] (ve (dr (va 2 [(13, aI (wI (ij3 + 1)))] (ve (jl order_Pairs_j4_low hw))))))
   exact d_skip (dr (va 2 [(13, aI (wI (ij3 + 1)))] (ve (jl order_Pairs_j4_low hw))))
  ·have hw := hw.1 hb16
   exact sa 1 10 [(33, .tuple [])] (sa 1 1 [(34, aB true)] (sle (km_vd km_d) (key _ hw)))
  ·have hw := hw.2 hb16
   refine sa 1 5 [(28, aI (wI (ij3 + 1))), (26, .sl (List.map eGPair' y9) .no), (25, .agg (eGValue y14.1))] ?_
   obtain ⟨y16, hy, h0, hw⟩ := hw
   refine sq rfl (fun _ _ => x_idx h0 hy (eGPair'_eq _)) rfl (sa 1 2 [(31, .agg (eGValue y16.1))] ?_)
   obtain ⟨y17, hy, hw⟩ := hw
   exact sq rfl (y_call hy pl15) rfl (sa 1 1 [(33, aB (!y17))] (sa 1 1 [(34, aB (!y17))] (sle (km_vd km_d) (key _ hw))))
 exact d_exit (ds (va 2 [(2, .sl (List.map eGPair' lj4) (.own 0))] (ve (d_ret (rx hw (plr5 _))))))
theorem order_Pairs_step (l : (List (GValue × GValue))) (r : (List (GValue × GValue))) (hw : (l = [] -> slices_Clone_LPair_Pair l ([] : List (GValue × GValue)) /\ (slices_SortStableFunc_LPair_Pair_nil (⟨14, [], [], rfl⟩ : GFn) /\ (order_Pairs_j2 0 ([] : List (GValue × GValue)) r))) /\ (l ≠ [] -> slices_Clone_LPair_Pair_new l /\ (∃ y9, slices_SortStableFunc_LPair_Pair l.length l (⟨14, [], [], rfl⟩ : GFn) y9 /\ (l ≠ [] /\ y9 ≠ []) /\ (y9.length = l.length /\ (order_Pairs_j4 0 y9 ([] : List (GValue × GValue)) r))))) : order_Pairs l r := by
 refine f_pureD fn5 nle rfl (ds (va 1 [] (ve (ds (va 1 [(7, .sl (List.map eGPair' l) .no)] (vemp l (fun hb1 => ?_) (fun hb1 => ?_)))))))
 ·obtain ⟨hy, hw⟩ := hw.1 hb1
  refine vo rfl (x_call hy pl12) rfl (va 1 [(3, .sl (List.map eGPair' ([] : List (GValue × GValue))) .no)] (ve (ds (va 1 [(9, .sl (List.map eGPair' ([] : List (GValue × GValue))) .no)] ?_))))
  obtain ⟨hy, hw⟩ := hw
  exact vo rfl (x_call hy pln13) rfl (ve (ds (va 1 [(4, .nil)] (ve (d_seqQ (ds (va 1 [(11, .sl (List.map eGPair' ([] : List (GValue × GValue))) .no)] (vo rfl (x_len ([] : List (GValue × GValue)) eGPair') rfl (va 1 [(13, aI 0)] (ve (d_blockQ (d_loopQ (dl_own (t := 4) 14 (by kernel_rfl) (jl0 hw))))))))))))))
 ·obtain ⟨hy, hw⟩ := hw.2 hb1
  refine vo rfl (x_new hy rowE_GPair hb1) rfl (va 1 [(3, .row 0 0 14 l.length l.length)] (ve (ds (va 1 [(9, .row 0 0 14 l.length l.length)] ?_))))
  obtain ⟨y9, hy, h0, hw⟩ := hw
  refine vo rfl (x_rio 0 [.row 0 0 14 l.length l.length, .clo (.func 14) [] []] rowE_GPair hy h0 pio13) rfl (ve ?_)
  obtain ⟨h0, hw⟩ := hw
  exact drf (sz := 14) (f := eGPair') 0 [false] 0 3 y9 l.length [(10, .tuple []), (9, .sl (List.map eGPair' y9) .no), (3, .sl (List.map eGPair' y9) .no), (8, .sl (List.map eGPair' y9) .no), (7, .sl (List.map eGPair' l) .no), (0, .sl (List.map eGPair' l) .no)] [none] (fun _ => by rw [eGPair'_eq]; rfl) (fun _ => by rw [eGPair'_eq]; rfl) h0 ⟨by first | rfl | simp, by first | rfl | simp⟩ (ds (va 1 [(4, .nil)] (ve (d_seqQ (ds (va 1 [(11, .sl (List.map eGPair' y9) .no)] (vo rfl (x_len y9 eGPair') rfl (va 1 [(13, aI 0)] (ve (d_blockQ (d_loopQ (dl_own (t := 4) 14 (by kernel_rfl) (jl order_Pairs_j4_low hw)))))))))))))
theorem plr6 (r : Int) : plain (e6 r) = true := rfl
def r6_0 : LO := [o 2 (bx 0), o 3 (bx 1), o 4 (mi 0)]
def r6_1 : LO := [o 11 (fa 0 2), o 12 (ld 11), o 13 (fa 0 3), o 14 (ld 13), o 15 (.bin .neq (T 12) (T 14))]
def r6_2 : LO := [o 16 (fa 0 2), o 17 (ld 16), o 18 (fa 0 3), o 19 (ld 18), o 20 (.call (cf 16) [(T 17), (T 19)]), o 4 (mv 20)]
def k6_1 : ACode := .cond (T 15) (.seq (.region r6_2) .ret) .skip
def k6_2 : ACode := .seq (.region r6_1) k6_1
def r6_8 : LO := [o 21 (ln 7 3), o 22 (.call (cf 17) [(T 21)]), o 5 (mv 22)]
def r6_9 : LO := [o 23 (ln 7 2), o 24 (.call (cf 17) [(T 23)])]
def r6_10 : LO := [o 25 (.assertT 44 true (.agg zV) (T 24)), o 26 (.extract 1 (T 25)), o 27 (.extract 0 (T 25))]
def r6_11 : LO := [o 6 (.alloc zV), on (st 7 6 27)]
def r6_12 : LO := [o 28 (ln 7 6), o 29 (ln 7 3), o 30 (.call (cf 18) [(T 28), (T 29)]), o 4 (mv 30)]
def k6_3 : ACode := .seq (.region r6_12) .ret
def r6_16 : LO := [o 31 (.assertT 45 true .nil (T 24)), o 32 (.extract 1 (T 31)), o 33 (.extract 0 (T 31))]
def r6_17 : LO := [o 7 (mv 33)]
def r6_18 : LO := [o 34 (mv 7), o 35 (mv 5), o 36 (.assertT 45 false .nil (T 35)), o 37 (.call (cf 19) [(T 34), (T 36), (cf 6)]), o 4 (mv 37)]
def k6_4 : ACode := .seq (.region r6_18) .ret
def r6_22 : LO := [o 38 (.assertT 47 true .nil (T 24)), o 39 (.extract 1 (T 38)), o 40 (.extract 0 (T 38))]
def r6_23 : LO := [o 8 (mv 40)]
def r6_24 : LO := [o 41 (mv 8), o 42 (mv 5), o 43 (.assertT 47 false .nil (T 42)), o 44 (.call (cf 20) [(T 41), (T 43), (cf 21)]), o 4 (mv 44)]
def k6_5 : ACode := .seq (.region r6_24) .ret
def r6_28 : LO := [o 45 (.assertT 50 true (.agg [.nil, .nil]) (T 24)), o 46 (.extract 1 (T 45)), o 47 (.extract 0 (T 45))]
def r6_29 : LO := [o 9 (.alloc [.nil, .nil]), on (st 2 9 47)]
def r6_30 : LO := [o 48 (mv 5), o 49 (.assertT 50 false (.agg [.nil, .nil]) (T 48)), o 10 (.alloc [.nil, .nil]), on (st 2 10 49)]
def r6_31 : LO := [o 50 (fa 0 9), o 51 (ld 50), o 52 (fa 0 10), o 53 (ld 52), o 54 (.call (cf 23) [(T 51), (T 53), (cf 24)]), o 55 (fa 1 9), o 56 (ld 55), o 57 (fa 1 10), o 58 (ld 57), o 59 (.call (cf 25) [(T 56), (T 58), (cf 26)]), o 60 (.sliceLit 1 2 [(aI 0), (aI 0)] [((0, 1), (T 54)), ((1, 1), (T 59))]), o 61 (.call (cf 22) [(T 60)])]
def r6_31t : LO := [o 4 (mv 61)]
def r6_31o : LN := [[], [0], [], [2], [1, 3], [], [5], [], [7], [4, 6, 8], [4, 9], [9, 10]]
def k6_6 : ACode := .seq (.drawn r6_31o r6_31 r6_31t) .ret
def k6_7 : ACode := .seq (.region r6_30) k6_6
def k6_8 : ACode := .cond (T 46) (.seq (.region r6_29) k6_7) .skip
def k6_9 : ACode := .seq (.region r6_28) k6_8
def k6_10 : ACode := .cond (T 39) (.seq (.region r6_23) k6_5) k6_9
def k6_11 : ACode := .cond (T 32) (.seq (.region r6_17) k6_4) (.seq (.region r6_22) k6_10)
def k6_12 : ACode := .cond (T 26) (.seq (.region r6_11) k6_3) (.seq (.region r6_16) k6_11)
def k6_13 : ACode := .block 0 (.seq (.region r6_10) k6_12)
def r6_47 : LO := [o 4 (mi 0)]
def k6_14 : ACode := .seq (.region r6_47) .ret
def k6_15 : ACode := .seq (.seq (.region r6_9) k6_13) k6_14
def k6_16 : ACode := .seq (.region r6_8) k6_15
def k6_17 : ACode := .seq k6_2 k6_16
def k6_18 : ACode := .seq (.region r6_0) k6_17
theorem fn6 : getFn Tryd.prog 6 = some (62, k6_18, [.tmp 4]) := by kernel_rfl
theorem order_Cmp_step (a : GValue) (b : GValue) (r : Int) (hw : ((a.Kind != b.Kind) = true -> ∃ y1, cmp_Compare_int a.Kind b.Kind y1 /\ (r = y1)) /\ ((a.Kind != b.Kind) = false -> ∃ y2, order_contents b y2 /\ (∃ y3, order_contents a y3 /\ ((∀ y4, y3 = GAny.a_order_one y4 -> ∃ y5, scalar_Cmp y4 b y5 /\ (r = y5)) /\ ((∀ y4, y3 ≠ GAny.a_order_one y4) -> (∀ y6, y3 = GAny.a_order_list y6 -> ∃ y7, y2 = GAny.a_order_list y7 /\ (∃ y8, slices_CompareFunc_order_list_order_list_Value_Value y6 y7 (⟨6, [], [], rfl⟩ : GFn) y8 /\ (r = y8))) /\ ((∀ y6, y3 ≠ GAny.a_order_list y6) -> (∀ y9, y3 = GAny.a_order_pairs y9 -> ∃ y10, y2 = GAny.a_order_pairs y10 /\ (∃ y11, slices_CompareFunc_order_pairs_order_pairs_Pair_Pair y9 y10 (⟨21, [], [], rfl⟩ : GFn) y11 /\ (r = y11))) /\ ((∀ y9, y3 ≠ GAny.a_order_pairs y9) -> (∀ y12, y3 = GAny.a_order_parts y12 -> ∃ y13, y2 = GAny.a_order_parts y13 /\ (∃ y14, slices_CompareFunc_LSlot_LSlot_Slot_Slot y12.slots y13.slots (⟨24, [], [], rfl⟩ : GFn) y14 /\ (∃ y15, slices_CompareFunc_LRaw_LRaw_Raw_Raw y12.raws y13.raws (⟨26, [], [], rfl⟩ : GFn) y15 /\ (∃ y16, cmp_Or_int ([y14, y15] : (List Int)) y16 /\ (r = y16))))) /\ ((∀ y12, y3 ≠ GAny.a_order_parts y12) -> r = 0)))))))) : order_Cmp a b r := by
 refine f_pureD fn6 nle rfl (ds (vg 3 [(3, .ptr 1 0), (2, .ptr 0 0)] [(eGValue a), (eGValue b)] [] (ve (d_seqQ (ds (va 5 [(15, aB (a.Kind != b.Kind))] (ve (dw hw (fun _ hw => ?_) (fun _ hw => ?_)))))))))
 ·refine ds (va 4 [(19, aI b.Kind), (17, aI a.Kind)] ?_)
  obtain ⟨y1, hy, hw⟩ := hw
  exact vo rfl (x_call hy pl16) rfl (va 1 [(4, aI y1)] (ve (d_ret (rx hw (plr6 _)))))
 refine d_skip (ds (va 1 [(21, .agg (eGValue b))] ?_))
 obtain ⟨y2, hy, hw⟩ := hw
 refine vo rfl (x_call hy pl17) rfl (va 1 [(5, eAny y2)] (ve (d_seqQ (ds (va 1 [(23, .agg (eGValue a))] ?_)))))
 obtain ⟨y3, hy, hw⟩ := hw
 refine vo rfl (x_call hy pl17) rfl (ve (d_blockQ (ds (vas44 rfl y3 (fun y4 hb2 => ?_) (fun hb2 => ?_)))))
 ·have hw := hw.1 y4 hb2
  refine va 2 [(27, .agg (eGValue y4)), (26, aB true)] (ve (dt (ds (vg 2 [(6, .ptr 2 0)] [(eGValue y4)] [] (ve (ds (va 2 [(29, .agg (eGValue b)), (28, .agg (eGValue y4))] ?_)))))))
  obtain ⟨y5, hy, hw⟩ := hw
  exact vo rfl (x_call hy pl18) rfl (va 1 [(4, aI y5)] (ve (d_ret (rx hw (plr6 _)))))
 ·have hw := hw.2 hb2
  refine va 2 [(27, .agg zV), (26, aB false)] (ve (df (ds (vas45 rfl y3 (fun y6 hb3 => ?_) (fun hb3 => ?_)))))
  ·have hw := hw.1 y6 hb3
   refine va 2 [(33, .sl (List.map eGValue' y6) .no), (32, aB true)] (ve (dt (ds (va 1 [(7, .sl (List.map eGValue' y6) .no)] (ve (ds (va 2 [(35, eAny y2), (34, .sl (List.map eGValue' y6) .no)] ?_)))))))
   obtain ⟨y7, h0, hw⟩ := hw
   refine vo rfl (x_as45 h0) rfl ?_
   obtain ⟨y8, hy, hw⟩ := hw
   exact vo rfl (x_call hy pl19) rfl (va 1 [(4, aI y8)] (ve (d_ret (rx hw (plr6 _)))))
  ·have hw := hw.2 hb3
   refine va 2 [(33, .nil), (32, aB false)] (ve (df (ds (vas47 rfl y3 (fun y9 hb4 => ?_) (fun hb4 => ?_)))))
   ·have hw := hw.1 y9 hb4
    refine va 2 [(40, .sl (List.map eGPair' y9) .no), (39, aB true)] (ve (dt (ds (va 1 [(8, .sl (List.map eGPair' y9) .no)] (ve (ds (va 2 [(42, eAny y2), (41, .sl (List.map eGPair' y9) .no)] ?_)))))))
    obtain ⟨y10, h0, hw⟩ := hw
    refine vo rfl (x_as47 h0) rfl ?_
    obtain ⟨y11, hy, hw⟩ := hw
    exact vo rfl (x_call hy pl20) rfl (va 1 [(4, aI y11)] (ve (d_ret (rx hw (plr6 _)))))
   ·have hw := hw.2 hb4
    refine va 2 [(40, .nil), (39, aB false)] (ve (df (ds (vas50 rfl y3 (fun y12 hb5 => ?_) (fun hb5 => ?_)))))
    ·have hw := hw.1 y12 hb5
     refine va 2 [(47, .agg (eGparts y12)), (46, aB true)] (ve (dt (ds (vg 2 [(9, .ptr 2 0)] [(eGparts y12)] [] (ve (ds (va 1 [(48, eAny y2)] ?_)))))))
     obtain ⟨y13, h0, hw⟩ := hw
     refine vo rfl (x_as50 h0) rfl (vg 2 [(10, .ptr 3 0)] [(eGparts y13)] [] (ve (d_seqQ (dS [(2, (eGparts y12)), (3, (eGparts y13))] (sa 4 4 [(53, .sl (List.map eGSlot' y13.slots) .no), (51, .sl (List.map eGSlot' y12.slots) .no)] ?_)))))
     obtain ⟨y14, hy, hw⟩ := hw
     refine sq rfl (y_call hy pl23) rfl (sa 4 4 [(58, .sl (List.map eGRaw y13.raws) .no), (56, .sl (List.map eGRaw y12.raws) .no)] ?_)
     obtain ⟨y15, hy, hw⟩ := hw
     refine sq rfl (y_call hy pl25) rfl (sa 4 1 [(60, .sl [[aI y14], [aI y15]] .full)] ?_)
     obtain ⟨y16, hy, hw⟩ := hw
     exact sq rfl (y_call hy pl22) rfl (send (vp_start' (va 1 [(4, aI y16)] (ve (d_ret (rx hw (plr6 _)))))))
    ·have hw := hw.2 hb5
     exact va 2 [(47, .agg [.nil, .nil]), (46, aB false)] (ve (df (d_skip (ds (va 1 [(4, aI 0)] (ve (d_ret (rx hw (plr6 _)))))))))
theorem plr7 (r : Bool) : plain (e7 r) = true := rfl
def r7_0 : LO := [o 2 (bx 0), o 3 (bx 1), o 4 (mb false)]
def r7_1 : LO := [o 5 (ln 7 2), o 6 (ln 7 3), o 7 (.call (cf 27) [(T 5), (T 6)]), o 8 (.bin .eql (T 7) (ci 0)), o 4 (mv 8)]
def k7_1 : ACode := .seq (.region r7_1) .ret
def k7_2 : ACode := .seq (.region r7_0) k7_1
theorem fn7 : getFn Tryd.prog 7 = some (9, k7_2, [.tmp 4]) := by kernel_rfl
theorem ref16_Equal_step (a : GValue) (b : GValue) (r : Bool) (hw : ∃ y1, ref16_Cmp a b y1 /\ (r = (y1 == 0))) : ref16_Equal a b r := by
 refine f_pureD fn7 nle rfl (ds (vg 3 [(3, .ptr 1 0), (2, .ptr 0 0)] [(eGValue a), (eGValue b)] [] (ve (ds (va 2 [(6, .agg (eGValue b)), (5, .agg (eGValue a))] ?_)))))
 obtain ⟨y1, hy, hw⟩ := hw
 exact vo rfl (x_call hy pl27) rfl (va 2 [(4, aB (y1 == 0))] (ve (d_ret (rx hw (plr7 _)))))
theorem plr8 (r : Bool) : plain (e8 r) = true := rfl
def r8_0 : LO := [o 0 (mb false)]
def r8_1 : LO := [o 5 (.build zV [((0, 1), (ci 2)), ((1, 1), (.c (aU 1)))]), o 6 (.build zV [((0, 1), (ci 2)), ((1, 1), (.c (aU 2)))]), o 1 (.alloc zV), o 2 (.alloc zV), on (st 7 1 5), on (st 7 2 6)]
def r8_2 : LO := [o 7 (ln 7 1), o 8 (.sliceLit 7 1 zV [((0, 7), (T 7))]), o 9 (.build zV [((0, 1), (ci 11)), ((3, 1), (T 8))]), o 10 (ln 7 1), o 11 (ln 7 2), o 12 (.sliceLit 7 2 [(aI 0), (aU 0), aE, .nil, .nil, .nil, .nil, (aI 0), (aU 0), aE, .nil, .nil, .nil, .nil] [((0, 7), (T 10)), ((7, 7), (T 11))]), o 13 (.build zV [((0, 1), (ci 11)), ((3, 1), (T 12))]), o 3 (.alloc zV), o 4 (.alloc zV), on (st 7 3 9)]
def r8_2t : LO := [on (st 7 4 13)]
def r8_2o : LN := [[], [0], [1], [], [], [3, 4], [5], [], [], [0, 1, 2, 7, 8]]
def r8_3 : LO := [o 14 (ln 7 3), o 15 (ln 7 4), o 16 (.call (cf 6) [(T 14), (T 15)]), o 17 (.bin .eql (T 16) (ci (-1))), o 18 (mv 17), og 19 (.build zV [((0, 1), (ci 7)), ((2, 1), (.c (aS ⟨#[97, 0]⟩)))]) 18 true, og 20 (.call (cf 28) [(T 19)]) 18 true, og 21 (.bin .eql (T 20) (.c (aS ⟨#[7, 97, 0, 255, 0, 0]⟩))) 18 true, o 22 (.pick (T 18) (T 21) (cb false)), o 0 (mv 22)]
def k8_1 : ACode := .seq (.region r8_3) .ret
def k8_2 : ACode := .seq (.drawn r8_2o r8_2 r8_2t) k8_1
def k8_3 : ACode := .seq (.region r8_1) k8_2
def k8_4 : ACode := .seq (.region r8_0) k8_3
theorem fn8 : getFn Tryd.prog 8 = some (23, k8_4, [.tmp 0]) := by kernel_rfl
theorem law16_awake_step (mg : Int)  (r : Bool) (hw : ∃ y1, PureN Tryd.prog [] 6 [.agg [aI 11, aU 0, aE, .sl [[aI 2, aU 1, aE, .nil, .nil, .nil, .nil]] .no, .sl [] .no, .sl [] .no, .sl [] .no], .agg [aI 11, aU 0, aE, .sl [[aI 2, aU 1, aE, .nil, .nil, .nil, .nil], [aI 2, aU 2, aE, .nil, .nil, .nil, .nil]] .no, .sl [] .no, .sl [] .no, .sl [] .no]] (e6 y1) /\ (((y1 == (-1)) = true -> ∃ y2, order_Key mg (⟨7, 0, (⟨#[97, 0]⟩ : ByteArray), ([] : (List GValue)), ([] : (List (GValue × GValue))), ([] : (List (Int × GValue))), ([] : (List GRaw))⟩ : GValue) y2 /\ (r = (decide (y2 = (⟨#[7, 97, 0, 255, 0, 0]⟩ : ByteArray))))) /\ ((y1 == (-1)) = false -> r = false))) : law16_awake mg r := by
 refine f_pureD fn8 nle rfl (ds (va 1 [] (ve (ds (vg 6 [(2, .ptr 1 0), (1, .ptr 0 0)] [[aI 2, aU 1, aE, .nil, .nil, .nil, .nil], [aI 2, aU 2, aE, .nil, .nil, .nil, .nil]] [] (ve (d_seqQ (dS [(0, [aI 2, aU 1, aE, .nil, .nil, .nil, .nil]), (1, [aI 2, aU 2, aE, .nil, .nil, .nil, .nil])] (sg 2 9 [(4, .ptr 3 0), (3, .ptr 2 0), (13, .agg [aI 11, aU 0, aE, .sl [[aI 2, aU 1, aE, .nil, .nil, .nil, .nil], [aI 2, aU 2, aE, .nil, .nil, .nil, .nil]] .full, .nil, .nil, .nil]), (9, .agg [aI 11, aU 0, aE, .sl [[aI 2, aU 1, aE, .nil, .nil, .nil, .nil]] .full, .nil, .nil, .nil])] [zV, zV] (sw [] rfl (x_U (.tuple []) [] [(2, [aI 11, aU 0, aE, .sl [[aI 2, aU 1, aE, .nil, .nil, .nil, .nil]] .full, .nil, .nil, .nil])]) (send (vp_start' (vg 1 [] [] [(3, [aI 11, aU 0, aE, .sl [[aI 2, aU 1, aE, .nil, .nil, .nil, .nil], [aI 2, aU 2, aE, .nil, .nil, .nil, .nil]] .full, .nil, .nil, .nil])] (ve (ds (va 2 [(15, .agg [aI 11, aU 0, aE, .sl [[aI 2, aU 1, aE, .nil, .nil, .nil, .nil], [aI 2, aU 2, aE, .nil, .nil, .nil, .nil]] .full, .nil, .nil, .nil]), (14, .agg [aI 11, aU 0, aE, .sl [[aI 2, aU 1, aE, .nil, .nil, .nil, .nil]] .full, .nil, .nil, .nil])] ?_))))))))))))))))
 obtain ⟨y1, hy, hw⟩ := hw
 refine vo rfl (x_call (pg hy) rfl) rfl (va 2 [(18, aB (y1 == (-1)))] (vw2 18 hw (fun _ hw => ?_) (fun _ hw => ?_)))
 ·refine va 1 [(19, .agg [aI 7, aU 0, aS (⟨#[97, 0]⟩ : ByteArray), .nil, .nil, .nil, .nil])] ?_
  obtain ⟨y2, hy, hw⟩ := hw
  exact vo rfl (x_call hy pl28) rfl (vo rfl (x_eqS y2 (⟨#[7, 97, 0, 255, 0, 0]⟩ : ByteArray)) rfl (va 2 [(0, aB (decide (y2 = (⟨#[7, 97, 0, 255, 0, 0]⟩ : ByteArray))))] (ve (d_ret (rx hw (plr8 _))))))
 exact va 5 [(0, aB false)] (ve (d_ret (rx hw (plr8 _))))
theorem plr9 (r : (List (GValue × GValue))) : plain (e9 r) = true := (psl (plm_GPair r))
def r9_0 : LO := [o 2 (.mv (.c .nil))]
def r9_1 : LO := [o 3 (.mv (.c .nil))]
def r9_2 : LO := [o 4 (mi 0)]
def r9_3 : LO := [o 9 (mv 4), o 10 (mv 0), o 11 (.len false (T 10)), o 12 (.bin .lss (T 9) (T 11))]
def k9_1 : ACode := .cond (T 12) .skip (.exit 0)
def r9_8 : LO := [o 5 (mb true)]
def r9_9 : LO := [o 15 (mv 4), o 16 (.bin .add (T 15) (ci 1)), o 6 (mv 16)]
def r9_10 : LO := [o 17 (mv 6), o 18 (mv 0), o 19 (.len false (T 18)), o 20 (.bin .lss (T 17) (T 19))]
def k9_2 : ACode := .cond (T 20) .skip (.exit 2)
def r9_15 : LO := [o 23 (mv 5), o 24 (mv 23), og 25 (mv 0) 24 true, og 26 (mv 4) 24 true, og 27 (.idxSl 14 (T 25) (T 26)) 24 true, og 28 (fa 0 27) 24 true, og 29 (ln 7 28) 24 true, og 30 (mv 0) 24 true, og 31 (mv 6) 24 true, og 32 (.idxSl 14 (T 30) (T 31)) 24 true, og 33 (fa 0 32) 24 true, og 34 (ln 7 33) 24 true, og 35 (.call (cf 27) [(T 29), (T 34)]) 24 true, og 36 (.bin .neq (T 35) (ci 0)) 24 true, o 37 (.pick (T 24) (T 36) (cb false))]
def r9_15t : LO := [o 5 (mv 37)]
def r9_15o : LN := [[], [0], [1], [1], [1, 2, 3], [1, 4], [1, 5], [1], [1], [1, 7, 8], [1, 9], [1, 10], [1, 6, 11], [1, 12], [1, 13]]
def r9_17 : LO := [o 21 (mv 6), o 22 (.bin .add (T 21) (ci 1)), o 6 (mv 22)]
def k9_3 : ACode := .seq (.block 3 (.drawn r9_15o r9_15 r9_15t)) (.region r9_17)
def k9_4 : ACode := .seq (.seq (.region r9_10) k9_2) k9_3
def k9_5 : ACode := .block 2 (.loop k9_4)
def r9_23 : LO := [o 38 (mv 5)]
def r9_24 : LO := [o 7 (mi 0)]
def r9_25 : LO := [o 39 (mv 7), o 40 (mv 3), o 41 (.len false (T 40)), o 42 (.bin .lss (T 39) (T 41)), o 43 (mv 42), og 44 (mv 3) 43 true, og 45 (mv 7) 43 true, og 46 (.idxSl 14 (T 44) (T 45)) 43 true, og 47 (fa 0 46) 43 true, og 48 (ln 7 47) 43 true, og 49 (mv 0) 43 true, og 50 (mv 4) 43 true, og 51 (.idxSl 14 (T 49) (T 50)) 43 true, og 52 (fa 0 51) 43 true, og 53 (ln 7 52) 43 true, og 54 (.call (cf 27) [(T 48), (T 53)]) 43 true, og 55 (.bin .lss (T 54) (ci 0)) 43 true, o 56 (.pick (T 43) (T 55) (cb false))]
def r9_25t : LO := []
def r9_25o : LN := [[], [], [1], [0, 2], [3], [4], [4], [4, 5, 6], [4, 7], [4, 8], [4], [4], [4, 10, 11], [4, 12], [4, 13], [4, 9, 14], [4, 15], [4, 16]]
def k9_6 : ACode := .cond (T 56) .skip (.exit 4)
def k9_7 : ACode := .seq (.drawn r9_25o r9_25 r9_25t) k9_6
def r9_30 : LO := [o 57 (mv 7), o 58 (.bin .add (T 57) (ci 1)), o 7 (mv 58)]
def k9_8 : ACode := .block 5 (.region r9_30)
def k9_9 : ACode := .seq k9_7 k9_8
def r9_35 : LO := [o 59 (mv 0), o 60 (mv 4), o 61 (.idxSl 14 (T 59) (T 60)), o 62 (ln 14 61), o 63 (.sliceLit 14 1 [(aI 0), (aU 0), aE, .nil, .nil, .nil, .nil, (aI 0), (aU 0), aE, .nil, .nil, .nil, .nil] [((0, 14), (T 62))]), o 64 (mv 3), o 65 (mv 7), o 66 (.sliceV 14 (T 64) (some (T 65)) none none), o 67 (.append 14 256 (T 63) (T 66))]
def r9_35t : LO := [o 8 (mv 67)]
def r9_35o : LN := [[], [], [0, 1], [2], [3], [], [], [5, 6], [4, 7]]
def r9_36 : LO := [o 68 (.sliceLit 14 0 [] []), o 69 (mv 3), o 70 (mv 7), o 71 (.sliceV 14 (T 69) none (some (T 70)) none), o 72 (.append 14 256 (T 68) (T 71)), o 73 (mv 8), o 74 (.append 14 256 (T 72) (T 73)), o 3 (mv 74)]
def k9_10 : ACode := .seq (.drawn r9_35o r9_35 r9_35t) (.region r9_36)
def k9_11 : ACode := .seq (.block 4 (.loop k9_9)) k9_10
def k9_12 : ACode := .cond (T 38) (.seq (.region r9_24) k9_11) .skip
def k9_13 : ACode := .seq (.region r9_23) k9_12
def k9_14 : ACode := .seq (.seq (.region r9_9) k9_5) k9_13
def k9_15 : ACode := .seq (.region r9_8) k9_14
def r9_46 : LO := [o 13 (mv 4), o 14 (.bin .add (T 13) (ci 1)), o 4 (mv 14)]
def k9_16 : ACode := .seq (.block 1 k9_15) (.region r9_46)
def k9_17 : ACode := .seq (.seq (.region r9_3) k9_1) k9_16
def k9_18 : ACode := .block 0 (.loop k9_17)
def r9_52 : LO := [o 75 (mv 3), o 2 (mv 75)]
def k9_19 : ACode := .seq (.region r9_52) .ret
def k9_20 : ACode := .seq (.seq (.region r9_2) k9_18) k9_19
def k9_21 : ACode := .seq (.region r9_1) k9_20
def k9_22 : ACode := .seq (.region r9_0) k9_21
theorem fn9 : getFn Tryd.prog 9 = some (76, k9_22, [.tmp 2]) := by kernel_rfl
def q9_0 (r : (List (GValue × GValue))) : QP := qret [.tmp 2] (e9 r)
def q9_3 (r : (List (GValue × GValue))) : QP := tq Tryd.prog 76 k9_19 (q9_0 r)
def q9_5 (r : (List (GValue × GValue))) : QP := inBlockA 0 (q9_3 r)
def q9_6 (r : (List (GValue × GValue))) : QP := tl Tryd.prog 76 k9_17 (q9_5 r)
def q9_10 (r : (List (GValue × GValue))) : QP := tq Tryd.prog 76 (.region r9_46) (q9_6 r)
def q9_11 (r : (List (GValue × GValue))) : QP := inBlockA 1 (q9_10 r)
def q9_21 (r : (List (GValue × GValue))) : QP := tq Tryd.prog 76 k9_10 (q9_11 r)
def q9_22 (r : (List (GValue × GValue))) : QP := inBlockA 4 (q9_21 r)
def ref16_Pairs_j17 (ij11 : Int) (ij7 : Int) (lj6 : (List (GValue × GValue))) (l : (List (GValue × GValue))) (r : (List (GValue × GValue))) : Prop := DL Tryd.prog 76 0 0 k9_9 (q9_22 r) [(7, aI ij11), (4, aI ij7), (3, .sl (List.map eGPair' lj6) .no), (0, .sl (List.map eGPair' l) .no)] ⟨[], [], []⟩
def q9_13 (r : (List (GValue × GValue))) : QP := tq Tryd.prog 76 k9_13 (q9_11 r)
def q9_15 (r : (List (GValue × GValue))) : QP := inBlockA 2 (q9_13 r)
def ref16_Pairs_j15 (ij9 : Int) (bj10 : Bool) (ij7 : Int) (lj6 : (List (GValue × GValue))) (l : (List (GValue × GValue))) (r : (List (GValue × GValue))) : Prop := DL Tryd.prog 76 0 0 k9_4 (q9_15 r) [(6, aI ij9), (5, aB bj10), (4, aI ij7), (3, .sl (List.map eGPair' lj6) .no), (0, .sl (List.map eGPair' l) .no)] ⟨[], [], []⟩
def ref16_Pairs_j11 (ij7 : Int) (lj6 : (List (GValue × GValue))) (l : (List (GValue × GValue))) (r : (List (GValue × GValue))) : Prop := DL Tryd.prog 76 0 0 k9_17 (q9_5 r) [(4, aI ij7), (3, .sl (List.map eGPair' lj6) .no), (0, .sl (List.map eGPair' l) .no)] ⟨[], [], []⟩
theorem ref16_Pairs_j11_low {ij7 : Int} {lj6 : (List (GValue × GValue))} {l : (List (GValue × GValue))} : lowE [] 0 [(4, aI ij7), (3, .sl (List.map eGPair' lj6) .no), (0, .sl (List.map eGPair' l) .no)] = true /\ lowB [] 0 [] = true := ⟨by first | rfl | simp, by first | rfl | simp⟩
theorem ref16_Pairs_j17_step (ij11 : Int) (ij7 : Int) (lj6 : (List (GValue × GValue))) (l : (List (GValue × GValue))) (r : (List (GValue × GValue))) (hw : ((decide (ij11 < (lj6.length : Int))) = true -> ∃ y55, lj6[ij11.toNat]? = some y55 /\ 0 <= ij11 /\ (∃ y56, l[ij7.toNat]? = some y56 /\ 0 <= ij7 /\ (∃ y57, ref16_Cmp y55.1 y56.1 y57 /\ (((decide (y57 < 0)) = true -> ref16_Pairs_j17 (wI (ij11 + 1)) ij7 lj6 l r) /\ ((decide (y57 < 0)) = false -> ∃ y58, l[ij7.toNat]? = some y58 /\ 0 <= ij7 /\ ((0 <= ij11 /\ ij11 <= (lj6.length : Int) /\ (lj6.length : Int) <= (lj6.length : Int)) /\ (([y58].length + ((lj6.take (lj6.length : Int).toNat).drop ij11.toNat).length) * 256 <= 140737488355328 /\ ((0 <= (0 : Int) /\ (0 : Int) <= ij11 /\ ij11 <= (lj6.length : Int)) /\ ((([] : List (GValue × GValue)).length + ((lj6.take ij11.toNat).drop (0 : Int).toNat).length) * 256 <= 140737488355328 /\ (((([] : List (GValue × GValue)) ++ ((lj6.take ij11.toNat).drop (0 : Int).toNat)).length + ([y58] ++ ((lj6.take (lj6.length : Int).toNat).drop ij11.toNat)).length) * 256 <= 140737488355328 /\ (ref16_Pairs_j11 (wI (ij7 + 1)) ((([] : List (GValue × GValue)) ++ ((lj6.take ij11.toNat).drop (0 : Int).toNat)) ++ ([y58] ++ ((lj6.take (lj6.length : Int).toNat).drop ij11.toNat))) l r))))))))))) /\ ((decide (ij11 < (lj6.length : Int))) = false -> ∃ y59, l[ij7.toNat]? = some y59 /\ 0 <= ij7 /\ ((0 <= ij11 /\ ij11 <= (lj6.length : Int) /\ (lj6.length : Int) <= (lj6.length : Int)) /\ (([y59].length + ((lj6.take (lj6.length : Int).toNat).drop ij11.toNat).length) * 256 <= 140737488355328 /\ ((0 <= (0 : Int) /\ (0 : Int) <= ij11 /\ ij11 <= (lj6.length : Int)) /\ ((([] : List (GValue × GValue)).length + ((lj6.take ij11.toNat).drop (0 : Int).toNat).length) * 256 <= 140737488355328 /\ (((([] : List (GValue × GValue)) ++ ((lj6.take ij11.toNat).drop (0 : Int).toNat)).length + ([y59] ++ ((lj6.take (lj6.length : Int).toNat).drop ij11.toNat)).length) * 256 <= 140737488355328 /\ (ref16_Pairs_j11 (wI (ij7 + 1)) ((([] : List (GValue × GValue)) ++ ((lj6.take ij11.toNat).drop (0 : Int).toNat)) ++ ([y59] ++ ((lj6.take (lj6.length : Int).toNat).drop ij11.toNat))) l r)))))))) : ref16_Pairs_j17 ij11 ij7 lj6 l r := by
 refine dl_unroll (d_seqQ (d_seqQ (dS [] (sa 0 2 [(40, .sl (List.map eGPair' lj6) .no), (39, aI ij11)] (sq rfl (fun _ _ => x_len lj6 eGPair') rfl (sa 0 2 [(43, aB (decide (ij11 < (lj6.length : Int))))] (sw2 43 hw (fun _ hw => ?_) (fun _ hw => ?_))))))))
 ·refine sa 0 2 [(45, aI ij11), (44, .sl (List.map eGPair' lj6) .no)] ?_
  obtain ⟨y55, hy, h0, hw⟩ := hw
  refine sq rfl (fun _ _ => x_idx h0 hy (eGPair'_eq _)) rfl (sa 0 4 [(50, aI ij7), (49, .sl (List.map eGPair' l) .no), (48, .agg (eGValue y55.1))] ?_)
  obtain ⟨y56, hy, h0, hw⟩ := hw
  refine sq rfl (fun _ _ => x_idx h0 hy (eGPair'_eq _)) rfl (sa 0 2 [(53, .agg (eGValue y56.1))] ?_)
  obtain ⟨y57, hy, hw⟩ := hw
  refine sq rfl (y_call hy pl27) rfl (sa 0 2 [(56, aB (decide (y57 < 0)))] (send (vp_start' (ve (dw hw (fun _ hw => ?_) (fun _ hw => ?_))))))
  ·exact d_skip (d_blockQ (dr (va 3 [(7, aI (wI (ij11 + 1)))] (ve (jl0 hw)))))
  refine d_exit (d_seqQ (dS [] (sa 0 2 [(60, aI ij7), (59, .sl (List.map eGPair' l) .no)] ?_)))
  obtain ⟨y58, hy, h0, hw⟩ := hw
  refine sq rfl (fun _ _ => x_idx h0 hy (eGPair'_eq _)) rfl (sa 0 4 [(65, aI ij11), (64, .sl (List.map eGPair' lj6) .no), (63, .sl [(eGPair y58)] .full)] ?_)
  obtain ⟨h0, hw⟩ := hw
  refine sq rfl (fun _ _ => x_slice (l := lj6) (e' := eGPair') h0 (fun _ => by rw [eGPair'_eq]; rfl)) rfl ?_
  obtain ⟨h0, hw⟩ := hw
  refine sw [(67, .sl (List.map eGPair' ([y58] ++ ((lj6.take (lj6.length : Int).toNat).drop ij11.toNat))) (.own 0))] rfl (x_appf eGPair' [y58] ((lj6.take (lj6.length : Int).toNat).drop ij11.toNat) h0 (fun _ => by rw [eGPair'_eq]; rfl) (by kernel_rfl) (Eq.trans (show _ = some [eGPair y58] by kernel_rfl) (by simp only [List.map_cons, List.map_nil, eGPair'_eq]))) (send (vp_start' (va 1 [(8, .sl (List.map eGPair' ([y58] ++ ((lj6.take (lj6.length : Int).toNat).drop ij11.toNat))) (.own 0))] (ve (dr (va 3 [(70, aI ij11), (69, .sl (List.map eGPair' lj6) .no), (68, .sl [] .full)] ?_))))))
  obtain ⟨h0, hw⟩ := hw
  refine vo rfl (x_slice (l := lj6) (e' := eGPair') h0 (fun _ => by rw [eGPair'_eq]; rfl)) rfl ?_
  obtain ⟨h0, hw⟩ := hw
  refine vo rfl (x_appf eGPair' ([] : List (GValue × GValue)) ((lj6.take ij11.toNat).drop (0 : Int).toNat) h0 (fun _ => by rw [eGPair'_eq]; rfl) (by kernel_rfl) (by kernel_rfl)) rfl (va 1 [(73, .sl (List.map eGPair' ([y58] ++ ((lj6.take (lj6.length : Int).toNat).drop ij11.toNat))) (.own 0))] ?_)
  obtain ⟨h0, hw⟩ := hw
  exact vo rfl (x_app 1 eGPair' (([] : List (GValue × GValue)) ++ ((lj6.take ij11.toNat).drop (0 : Int).toNat)) ([y58] ++ ((lj6.take (lj6.length : Int).toNat).drop ij11.toNat)) h0 (fun _ => by rw [eGPair'_eq]; rfl) (by kernel_rfl)) rfl (va 1 [(3, .sl (List.map eGPair' ((([] : List (GValue × GValue)) ++ ((lj6.take ij11.toNat).drop (0 : Int).toNat)) ++ ([y58] ++ ((lj6.take (lj6.length : Int).toNat).drop ij11.toNat)))) (.own 1))] (ve (dr (va 3 [(4, aI (wI (ij7 + 1)))] (ve (dl_nz (t := 3) (av := .sl (List.map eGPair' ((([] : List (GValue × GValue)) ++ ((lj6.take ij11.toNat).drop (0 : Int).toNat)) ++ ([y58] ++ ((lj6.take (lj6.length : Int).toNat).drop ij11.toNat)))) (.own 1)) (by kernel_rfl) (b := .sl (List.map eGPair' ((([] : List (GValue × GValue)) ++ ((lj6.take ij11.toNat).drop (0 : Int).toNat)) ++ ([y58] ++ ((lj6.take (lj6.length : Int).toNat).drop ij11.toNat)))) .no) (by kernel_rfl) (jl ref16_Pairs_j11_low hw)))))))
 refine sa 0 13 [(56, aB false)] (send (vp_start' (ve (df (d_exit (d_seqQ (dS [] (sa 0 2 [(60, aI ij7), (59, .sl (List.map eGPair' l) .no)] ?_))))))))
 obtain ⟨y59, hy, h0, hw⟩ := hw
 refine sq rfl (fun _ _ => x_idx h0 hy (eGPair'_eq _)) rfl (sa 0 4 [(65, aI ij11), (64, .sl (List.map eGPair' lj6) .no), (63, .sl [(eGPair y59)] .full)] ?_)
 obtain ⟨h0, hw⟩ := hw
 refine sq rfl (fun _ _ => x_slice (l := lj6) (e' := eGPair') h0 (fun _ => by rw [eGPair'_eq]; rfl)) rfl ?_
 obtain ⟨h0, hw⟩ := hw
 refine sw [(67, .sl (List.map eGPair' ([y59] ++ ((lj6.take (lj6.length : Int).toNat).drop ij11.toNat))) (.own 0))] rfl (x_appf eGPair' [y59] ((lj6.take (lj6.length : Int).toNat).drop ij11.toNat) h0 (fun _ => by rw [eGPair'_eq]; rfl) (by kernel_rfl) (Eq.trans (show _ = some [eGPair y59] by kernel_rfl) (by simp only [List.map_cons, List.map_nil, eGPair'_eq]))) (send (vp_start' (va 1 [(8, .sl (List.map eGPair' ([y59] ++ ((lj6.take (lj6.length : Int).toNat).drop ij11.toNat))) (.own 0))] (ve (dr (va 3 [(70, aI ij11), (69, .sl (List.map eGPair' lj6) .no), (68, .sl [] .full)] ?_))))))
 obtain ⟨h0, hw⟩ := hw
 refine vo rfl (x_slice (l := lj6) (e' := eGPair') h0 (fun _ => by rw [eGPair'_eq]; rfl)) rfl ?_
 obtain ⟨h0, hw⟩ := hw
 refine vo rfl (x_appf eGPair' ([] : List (GValue × GValue)) ((lj6.take ij11.toNat).drop (0 : Int).toNat) h0 (fun _ => by rw [eGPair'_eq]; rfl) (by kernel_rfl) (by kernel_rfl)) rfl (va 1 [(73, .sl (List.map eGPair' ([y59] ++ ((lj6.take (lj6.length : Int).toNat).drop ij11.toNat))) (.own 0))] ?_)
 obtain ⟨h0, hw⟩ := hw
 exact vo rfl (x_app 1 eGPair' (([] : List (GValue × GValue)) ++ ((lj6.take ij11.toNat).drop (0 : Int).toNat)) ([y59] ++ ((lj6.take (lj6.length : Int).toNat).drop ij11.toNat)) h0 (fun _ => by rw [eGPair'_eq]; rfl) (by kernel_rfl)) rfl (va 1 [(3, .sl (List.map eGPair' ((([] : List (GValue × GValue)) ++ ((lj6.take ij11.toNat).drop (0 : Int).toNat)) ++ ([y59] ++ ((lj6.take (lj6.length : Int).toNat).drop ij11.toNat)))) (.own 1))] (ve (dr (va 3 [(4, aI (wI (ij7 + 1)))] (ve (dl_nz (t := 3) (av := .sl (List.map eGPair' ((([] : List (GValue × GValue)) ++ ((lj6.take ij11.toNat).drop (0 : Int).toNat)) ++ ([y59] ++ ((lj6.take (lj6.length : Int).toNat).drop ij11.toNat)))) (.own 1)) (by kernel_rfl) (b := .sl (List.map eGPair' ((([] : List (GValue × GValue)) ++ ((lj6.take ij11.toNat).drop (0 : Int).toNat)) ++ ([y59] ++ ((lj6.take (lj6.length : Int).toNat).drop ij11.toNat)))) .no) (by kernel_rfl) (jl ref16_Pairs_j11_low hw)))))))
theorem ref16_Pairs_j15_step (ij9 : Int) (bj10 : Bool) (ij7 : Int) (lj6 : (List (GValue × GValue))) (l : (List (GValue × GValue))) (r : (List (GValue × GValue))) (hw : ((decide (ij9 < (l.length : Int))) = true -> (bj10 = true -> ∃ y61, l[ij7.toNat]? = some y61 /\ 0 <= ij7 /\ (∃ y62, l[ij9.toNat]? = some y62 /\ 0 <= ij9 /\ (∃ y63, ref16_Cmp y61.1 y62.1 y63 /\ (ref16_Pairs_j15 (wI (ij9 + 1)) (y63 != 0) ij7 lj6 l r)))) /\ (bj10 = false -> ref16_Pairs_j15 (wI (ij9 + 1)) false ij7 lj6 l r)) /\ ((decide (ij9 < (l.length : Int))) = false -> (bj10 = true -> ref16_Pairs_j17 0 ij7 lj6 l r) /\ (bj10 = false -> ref16_Pairs_j11 (wI (ij7 + 1)) lj6 l r))) : ref16_Pairs_j15 ij9 bj10 ij7 lj6 l r := by
 refine dl_unroll (d_seqQ (ds (va 2 [(18, .sl (List.map eGPair' l) .no), (17, aI ij9)] (vo rfl (x_len l eGPair') rfl (va 1 [(20, aB (decide (ij9 < (l.length : Int))))] (ve (dw hw (fun _ hw => ?_) (fun _ hw => ?_))))))))
 ·refine d_skip (d_seqQ (d_blockQ (dS [] (sa 0 2 [(24, aB bj10)] (sw2 24 hw (fun _ hw => ?_) (fun _ hw => ?_))))))
  ·refine sa 0 2 [(26, aI ij7), (25, .sl (List.map eGPair' l) .no)] ?_
   obtain ⟨y61, hy, h0, hw⟩ := hw
   refine sq rfl (fun _ _ => x_idx h0 hy (eGPair'_eq _)) rfl (sa 0 4 [(31, aI ij9), (30, .sl (List.map eGPair' l) .no), (29, .agg (eGValue y61.1))] ?_)
   obtain ⟨y62, hy, h0, hw⟩ := hw
   refine sq rfl (fun _ _ => x_idx h0 hy (eGPair'_eq _)) rfl (sa 0 2 [(34, .agg (eGValue y62.1))] ?_)
   obtain ⟨y63, hy, hw⟩ := hw
   exact sq rfl (y_call hy pl27) rfl (sa 0 2 [(37, aB (y63 != 0))] (send (vp_start' (va 1 [(5, aB (y63 != 0))] (ve (dr (va 3 [(6, aI (wI (ij9 + 1)))] (ve (jl0 hw)))))))))
  exact sa 0 13 [(37, aB false)] (send (vp_start' (va 1 [(5, aB false)] (ve (dr (va 3 [(6, aI (wI (ij9 + 1)))] (ve (jl0 hw))))))))
 refine d_exit (ds (va 1 [(38, aB bj10)] (ve (dw hw (fun _ hw => ?_) (fun _ hw => ?_)))))
 ·exact ds (va 1 [(7, aI 0)] (ve (d_seqQ (d_blockQ (d_loopQ (jl0 hw))))))
 exact d_skip (dr (va 3 [(4, aI (wI (ij7 + 1)))] (ve (jl0 hw))))
theorem ref16_Pairs_j11_step (ij7 : Int) (lj6 : (List (GValue × GValue))) (l : (List (GValue × GValue))) (r : (List (GValue × GValue))) (hw : ((decide (ij7 < (l.length : Int))) = true -> ref16_Pairs_j15 (wI (ij7 + 1)) true ij7 lj6 l r) /\ ((decide (ij7 < (l.length : Int))) = false -> r = lj6)) : ref16_Pairs_j11 ij7 lj6 l r := by
 refine dl_unroll (d_seqQ (ds (va 2 [(10, .sl (List.map eGPair' l) .no), (9, aI ij7)] (vo rfl (x_len l eGPair') rfl (va 1 [(12, aB (decide (ij7 < (l.length : Int))))] (ve (dw hw (fun _ hw => ?_) (fun _ hw => ?_))))))))
 ·exact d_skip (d_seqQ (d_blockQ (ds (va 1 [(5, aB true)] (ve (d_seqQ (ds (va 3 [(6, aI (wI (ij7 + 1)))] (ve (d_blockQ (d_loopQ (jl0 hw))))))))))))
 exact d_exit (ds (va 2 [(2, .sl (List.map eGPair' lj6) .no)] (ve (d_ret (rx hw (plr9 _))))))
theorem ref16_Pairs_step (l : (List (GValue × GValue))) (r : (List (GValue × GValue))) (hw : ref16_Pairs_j11 0 ([] : (List (GValue × GValue))) l r) : ref16_Pairs l r := by
 exact f_pureD fn9 nle rfl (ds (va 1 [] (ve (ds (va 1 [(3, .nil)] (ve (d_seqQ (ds (va 1 [(4, aI 0)] (ve (d_blockQ (d_loopQ (dl_nz (t := 3) (av := .nil) (by kernel_rfl) (b := .sl [] .no) (by kernel_rfl) (jl0 hw))))))))))))))
theorem plr12 (r : (List (GValue × GValue))) : plain (e12 r) = true := (psl (plm_GPair r))
def r12_0 : LO := [o 2 (.mv (.c .nil))]
def r12_1 : LO := [o 3 (mv 0), o 4 (.eq .slice true (T 3) (.c .nil))]
def r12_2 : LO := [o 2 (.mv (.c .nil))]
def k12_1 : ACode := .cond (T 4) (.seq (.region r12_2) .ret) .skip
def k12_2 : ACode := .seq (.region r12_1) k12_1
def r12_8 : LO := [o 5 (.sliceLit 14 0 [] []), o 6 (mv 0), o 7 (.append 14 256 (T 5) (T 6)), o 2 (mv 7)]
def k12_3 : ACode := .seq (.region r12_8) .ret
def k12_4 : ACode := .seq k12_2 k12_3
def k12_5 : ACode := .seq (.region r12_0) k12_4
theorem fn12 : getFn Tryd.prog 12 = some (8, k12_5, [.tmp 2]) := by kernel_rfl
theorem slices_Clone_LPair_Pair_step (s : (List (GValue × GValue))) (r : (List (GValue × GValue))) (hw : ∀ bj1 : Bool, (s ≠ [] -> bj1 = false) -> ((bj1 = true -> r = ([] : (List (GValue × GValue)))) /\ (bj1 = false -> (([] : List (GValue × GValue)).length + s.length) * 256 <= 140737488355328 /\ (r = (([] : List (GValue × GValue)) ++ s))))) : slices_Clone_LPair_Pair s r := by
 refine f_pureD fn12 nle rfl (ds (va 1 [] (ve (d_seqQ (ds (va 1 [(3, .sl (List.map eGPair' s) .no)] (vn rfl s eGPair' (fun bj1 hb0 => ?_))))))))
 have hw := hw bj1 hb0
 refine ve (dw hw (fun _ hw => ?_) (fun _ hw => ?_))
 ·exact ds (va 1 [(2, .nil)] (ve (d_ret (rx hw (plr12 _)))))
 refine d_skip (ds (va 2 [(6, .sl (List.map eGPair' s) .no), (5, .sl [] .full)] ?_))
 obtain ⟨h0, hw⟩ := hw
 exact vo rfl (x_appf eGPair' ([] : List (GValue × GValue)) s h0 (fun _ => by rw [eGPair'_eq]; rfl) (by kernel_rfl) (by kernel_rfl)) rfl (va 1 [(2, .sl (List.map eGPair' (([] : List (GValue × GValue)) ++ s)) (.own 0))] (ve (d_ret (rx hw (plr12 _)))))
theorem slices_Clone_LPair_Pair_new_step (s : (List (GValue × GValue))) (hw : s ≠ [] /\ s.length * 256 <= 140737488355328) : slices_Clone_LPair_Pair_new s := by
 refine f_new fn12 rfl rfl (ds (va 1 [] (ve (d_seqQ (ds (va 1 [(3, .sl (List.map eGPair' s) .no)] (vn rfl s eGPair' (fun bj1 hb0 => ?_))))))))
 refine ve (dkf (hb0 hw.1) ?_)
 refine d_skip (ds (va 2 [(6, .sl (List.map eGPair' s) .no), (5, .sl [] .full)] ?_))
 exact vo rfl (x_appR eGPair' s hw.1 hw.2 (fun _ => by rw [eGPair'_eq]; rfl) (by kernel_rfl)) rfl (va 1 [(2, .row 0 0 14 s.length s.length)] (ve (d_ret (rnew rfl))))
def r13_0 : LO := [o 4 (mv 0), o 5 (mv 0), o 6 (.len false (T 5)), o 7 (mv 1), o 8 (.call (cf 32) [(T 4), (T 6), (T 7)])]
theorem fn13 : getFn Tryd.prog 13 = some (9, .region r13_0, []) := by kernel_rfl
theorem slices_SortStableFunc_LPair_Pair_step (n0 : Nat) (x : (List (GValue × GValue))) (cmp : GFn) (r : (List (GValue × GValue))) (hw : ∃ y1, slices_stableCmpFunc_Pair n0 x (n0 : Int) cmp y1 /\ (x ≠ [] /\ y1 ≠ []) /\ (y1 ≠ [] /\ r = y1)) : slices_SortStableFunc_LPair_Pair n0 x cmp r := by
 refine f_rio fn13 nle rfl (dr (va 4 [(7, .clo (.func cmp.fn) cmp.fi cmp.cap), (6, aI (n0 : Int)), (4, .row 0 0 14 n0 n0)] (hK := km_io) ?_))
 obtain ⟨y1, hy, h0, hw⟩ := hw
 exact vo rfl (x_rio 0 [.row 0 0 14 n0 n0, aI (n0 : Int), .clo (.func cmp.fn) cmp.fi cmp.cap] rowE_GPair hy h0 pio32) rfl (ve (riorn rowE_GPair hw))
theorem plr14 (r : Int) : plain (e14 r) = true := rfl
def r14_0 : LO := [o 2 (bx 0), o 3 (bx 1), o 4 (mi 0)]
def r14_1 : LO := [o 5 (fa 0 2), o 6 (ln 7 5), o 7 (fa 0 3), o 8 (ln 7 7), o 9 (.call (cf 6) [(T 6), (T 8)]), o 4 (mv 9)]
def k14_1 : ACode := .seq (.region r14_1) .ret
def k14_2 : ACode := .seq (.region r14_0) k14_1
theorem fn14 : getFn Tryd.prog 14 = some (10, k14_2, [.tmp 4]) := by kernel_rfl
theorem order_Pairs_1_step (a : (GValue × GValue)) (b : (GValue × GValue)) (r : Int) (hw : ∃ y1, order_Cmp a.1 b.1 y1 /\ (r = y1)) : order_Pairs_1 a b r := by
 refine f_pureD fn14 nle rfl (ds (vg 3 [(3, .ptr 1 0), (2, .ptr 0 0)] [(eGPair a), (eGPair b)] [] (ve (ds (va 4 [(8, .agg (eGValue b.1)), (6, .agg (eGValue a.1))] ?_)))))
 obtain ⟨y1, hy, hw⟩ := hw
 exact vo rfl (x_call hy pl6) rfl (va 1 [(4, aI y1)] (ve (d_ret (rx hw (plr14 _)))))
theorem plr15 (r : Bool) : plain (e15 r) = true := rfl
def r15_0 : LO := [o 2 (bx 0), o 3 (bx 1), o 4 (mb false)]
def r15_1 : LO := [o 5 (ln 7 2), o 6 (ln 7 3), o 7 (.call (cf 6) [(T 5), (T 6)]), o 8 (.bin .eql (T 7) (ci 0)), o 4 (mv 8)]
def k15_1 : ACode := .seq (.region r15_1) .ret
def k15_2 : ACode := .seq (.region r15_0) k15_1
theorem fn15 : getFn Tryd.prog 15 = some (9, k15_2, [.tmp 4]) := by kernel_rfl
theorem order_Equal_step (a : GValue) (b : GValue) (r : Bool) (hw : ∃ y1, order_Cmp a b y1 /\ (r = (y1 == 0))) : order_Equal a b r := by
 refine f_pureD fn15 nle rfl (ds (vg 3 [(3, .ptr 1 0), (2, .ptr 0 0)] [(eGValue a), (eGValue b)] [] (ve (ds (va 2 [(6, .agg (eGValue b)), (5, .agg (eGValue a))] ?_)))))
 obtain ⟨y1, hy, hw⟩ := hw
 exact vo rfl (x_call hy pl6) rfl (va 2 [(4, aB (y1 == 0))] (ve (d_ret (rx hw (plr15 _)))))
theorem plr16 (r : Int) : plain (e16 r) = true := rfl
def r16_0 : LO := [o 4 (mi 0)]
def r16_1 : LO := [o 7 (mv 0), o 8 (.call (cf 33) [(T 7)]), o 5 (mv 8)]
def r16_2 : LO := [o 9 (mv 1), o 10 (.call (cf 33) [(T 9)]), o 6 (mv 10)]
def r16_3 : LO := [o 11 (mv 5)]
def r16_4 : LO := [o 12 (mv 6)]
def r16_5 : LO := [o 4 (mi 0)]
def k16_1 : ACode := .cond (T 12) (.seq (.region r16_5) .ret) .skip
def k16_2 : ACode := .seq (.region r16_4) k16_1
def r16_11 : LO := [o 4 (mi (-1))]
def k16_3 : ACode := .seq (.region r16_11) .ret
def k16_4 : ACode := .cond (T 11) (.seq k16_2 k16_3) .skip
def k16_5 : ACode := .seq (.region r16_3) k16_4
def r16_18 : LO := [o 13 (mv 6)]
def r16_19 : LO := [o 4 (mi 1)]
def k16_6 : ACode := .cond (T 13) (.seq (.region r16_19) .ret) .skip
def k16_7 : ACode := .seq (.region r16_18) k16_6
def r16_25 : LO := [o 14 (mv 0), o 15 (mv 1), o 16 (.bin .lss (T 14) (T 15))]
def r16_26 : LO := [o 4 (mi (-1))]
def k16_8 : ACode := .cond (T 16) (.seq (.region r16_26) .ret) .skip
def k16_9 : ACode := .seq (.region r16_25) k16_8
def r16_32 : LO := [o 17 (mv 0), o 18 (mv 1), o 19 (.bin .gtr (T 17) (T 18))]
def r16_33 : LO := [o 4 (mi 1)]
def k16_10 : ACode := .cond (T 19) (.seq (.region r16_33) .ret) .skip
def k16_11 : ACode := .seq (.region r16_32) k16_10
def r16_39 : LO := [o 4 (mi 0)]
def k16_12 : ACode := .seq (.region r16_39) .ret
def k16_13 : ACode := .seq k16_11 k16_12
def k16_14 : ACode := .seq k16_9 k16_13
def k16_15 : ACode := .seq k16_7 k16_14
def k16_16 : ACode := .seq k16_5 k16_15
def k16_17 : ACode := .seq (.region r16_2) k16_16
def k16_18 : ACode := .seq (.region r16_1) k16_17
def k16_19 : ACode := .seq (.region r16_0) k16_18
theorem fn16 : getFn Tryd.prog 16 = some (20, k16_19, [.tmp 4]) := by kernel_rfl
theorem cmp_Compare_int_step (x : Int) (y : Int) (r : Int) (hw : ∃ y1, cmp_isNaN_int x y1 /\ (∃ y2, cmp_isNaN_int y y2 /\ ((y1 = true -> (y2 = true -> r = 0) /\ (y2 = false -> r = (-1))) /\ (y1 = false -> (y2 = true -> r = 1) /\ (y2 = false -> ((decide (x < y)) = true -> r = (-1)) /\ ((decide (x < y)) = false -> ((decide (y < x)) = true -> r = 1) /\ ((decide (y < x)) = false -> r = 0))))))) : cmp_Compare_int x y r := by
 refine f_pureD fn16 nle rfl (ds (va 1 [] (ve (ds (va 1 [(7, aI x)] ?_)))))
 obtain ⟨y1, hy, hw⟩ := hw
 refine vo rfl (x_call hy pl33) rfl (va 1 [(5, aB y1)] (ve (ds (va 1 [(9, aI y)] ?_))))
 obtain ⟨y2, hy, hw⟩ := hw
 refine vo rfl (x_call hy pl33) rfl (va 1 [(6, aB y2)] (ve (d_seqQ (ds (va 1 [(11, aB y1)] (ve (dw hw (fun _ hw => ?_) (fun _ hw => ?_))))))))
 ·refine d_seqQ (ds (va 1 [(12, aB y2)] (ve (dw hw (fun _ hw => ?_) (fun _ hw => ?_)))))
  ·exact ds (va 1 [(4, aI 0)] (ve (d_ret (rx hw (plr16 _)))))
  exact d_skip (ds (va 1 [(4, aI (-1))] (ve (d_ret (rx hw (plr16 _))))))
 refine d_skip (d_seqQ (ds (va 1 [(13, aB y2)] (ve (dw hw (fun _ hw => ?_) (fun _ hw => ?_))))))
 ·exact ds (va 1 [(4, aI 1)] (ve (d_ret (rx hw (plr16 _)))))
 refine d_skip (d_seqQ (ds (va 3 [(16, aB (decide (x < y)))] (ve (dw hw (fun _ hw => ?_) (fun _ hw => ?_))))))
 ·exact ds (va 1 [(4, aI (-1))] (ve (d_ret (rx hw (plr16 _)))))
 refine d_skip (d_seqQ (ds (va 3 [(19, aB (decide (y < x)))] (ve (dw hw (fun _ hw => ?_) (fun _ hw => ?_))))))
 ·exact ds (va 1 [(4, aI 1)] (ve (d_ret (rx hw (plr16 _)))))
 exact d_skip (ds (va 1 [(4, aI 0)] (ve (d_ret (rx hw (plr16 _))))))
theorem plr17 (r : GAny) : plain (e17 r) = true := (pl_Any r)
def r17_0 : LO := [o 1 (bx 0), o 2 (.mv (.c (.v .nilIface)))]
def r17_1 : LO := [o 4 (fa 0 1), o 5 (ld 4), o 6 (.call (cf 34) [(T 5)]), o 3 (mv 6)]
def r17_2 : LO := [o 7 (ln 7 1), o 8 (.iface 44 (T 7)), o 2 (mv 8)]
def r17_5 : LO := [o 10 (fa 0 1), o 11 (ld 10), o 12 (.bin .eql (T 11) (ci 11)), o 9 (mv 12)]
def r17_6 : LO := [o 13 (fa 3 1), o 14 (ld 13), o 15 (.iface 45 (T 14)), o 2 (mv 15)]
def r17_9 : LO := [o 17 (fa 0 1), o 18 (ld 17), o 19 (.bin .eql (T 18) (ci 12)), o 16 (mv 19)]
def r17_10 : LO := [o 20 (fa 4 1), o 21 (ld 20), o 22 (.iface 47 (T 21)), o 2 (mv 22)]
def r17_13 : LO := [o 24 (fa 0 1), o 25 (ld 24), o 26 (.bin .eql (T 25) (ci 10)), o 23 (mv 26)]
def r17_14 : LO := [o 27 (fa 5 1), o 28 (ld 27), o 29 (fa 6 1), o 30 (ld 29), o 31 (.build [.nil, .nil] [((0, 1), (T 28)), ((1, 1), (T 30))]), o 32 (.iface 50 (T 31)), o 2 (mv 32)]
def k17_1 : ACode := .cond (T 23) (.seq (.region r17_14) .ret) .skip
def k17_2 : ACode := .seq (.region r17_13) k17_1
def k17_3 : ACode := .cond (T 16) (.seq (.region r17_10) .ret) k17_2
def k17_4 : ACode := .seq (.region r17_9) k17_3
def k17_5 : ACode := .cond (T 9) (.seq (.region r17_6) .ret) k17_4
def k17_6 : ACode := .seq (.region r17_5) k17_5
def k17_7 : ACode := .cond (T 3) (.seq (.region r17_2) .ret) k17_6
def k17_8 : ACode := .seq (.region r17_1) k17_7
def r17_27 : LO := [o 2 (.mv (.c (.v .nilIface)))]
def k17_9 : ACode := .seq (.region r17_27) .ret
def k17_10 : ACode := .seq (.block 0 k17_8) k17_9
def k17_11 : ACode := .seq (.region r17_0) k17_10
theorem fn17 : getFn Tryd.prog 17 = some (33, k17_11, [.tmp 2]) := by kernel_rfl
theorem order_contents_step (v : GValue) (r : GAny) (hw : ∃ y1, scalar_Is v.Kind y1 /\ ((y1 = true -> r = (GAny.a_order_one v)) /\ (y1 = false -> ((v.Kind == 11) = true -> r = (GAny.a_order_list v.List_)) /\ ((v.Kind == 11) = false -> ((v.Kind == 12) = true -> r = (GAny.a_order_pairs v.Pairs)) /\ ((v.Kind == 12) = false -> ((v.Kind == 10) = true -> r = (GAny.a_order_parts (⟨v.Slots, v.Raws⟩ : Gparts))) /\ ((v.Kind == 10) = false -> r = GAny.nil)))))) : order_contents v r := by
 refine f_pureD fn17 nle rfl (ds (vg 2 [(1, .ptr 0 0)] [(eGValue v)] [] (ve (d_seqQ (d_blockQ (ds (va 2 [(5, aI v.Kind)] ?_)))))))
 obtain ⟨y1, hy, hw⟩ := hw
 refine vo rfl (x_call hy pl34) rfl (va 1 [(3, aB y1)] (ve (dw hw (fun _ hw => ?_) (fun _ hw => ?_))))
 ·exact ds (va 3 [(2, .iface 44 (.agg (eGValue v)))] (ve (d_ret (rx hw (plr17 _)))))
 refine ds (va 4 [(9, aB (v.Kind == 11))] (ve (dw hw (fun _ hw => ?_) (fun _ hw => ?_))))
 ·exact ds (va 4 [(2, .iface 45 (.sl (List.map eGValue' v.List_) .no))] (ve (d_ret (rx hw (plr17 _)))))
 refine ds (va 4 [(16, aB (v.Kind == 12))] (ve (dw hw (fun _ hw => ?_) (fun _ hw => ?_))))
 ·exact ds (va 4 [(2, .iface 47 (.sl (List.map eGPair' v.Pairs) .no))] (ve (d_ret (rx hw (plr17 _)))))
 refine ds (va 4 [(23, aB (v.Kind == 10))] (ve (dw hw (fun _ hw => ?_) (fun _ hw => ?_))))
 ·exact ds (va 7 [(2, .iface 50 (.agg [.sl (List.map eGSlot' v.Slots) .no, .sl (List.map eGRaw v.Raws) .no]))] (ve (d_ret (rx hw (plr17 _)))))
 exact d_skip (ds (va 1 [(2, .v .nilIface)] (ve (d_ret (rx hw (plr17 _))))))
theorem plr18 (r : Int) : plain (e18 r) = true := rfl
def r18_0 : LO := [o 2 (bx 0), o 3 (bx 1), o 4 (mi 0)]
def r18_1 : LO := [o 6 (fa 0 2), o 7 (ld 6), o 8 (fa 0 3), o 9 (ld 8), o 10 (.bin .neq (T 7) (T 9)), o 5 (mv 10)]
def r18_2 : LO := [o 11 (fa 0 2), o 12 (ld 11), o 13 (fa 0 3), o 14 (ld 13), o 15 (.call (cf 16) [(T 12), (T 14)]), o 4 (mv 15)]
def r18_5 : LO := [o 17 (fa 0 2), o 18 (ld 17), o 19 (.call (cf 34) [(T 18)]), o 20 (.un .not (T 19)), o 16 (mv 20)]
def r18_6 : LO := [o 4 (mi 0)]
def r18_9 : LO := [o 22 (fa 0 2), o 23 (ld 22), o 24 (.call (cf 35) [(T 23)]), o 21 (mv 24)]
def r18_10 : LO := [o 25 (fa 2 2), o 26 (ld 25), o 27 (fa 2 3), o 28 (ld 27), o 29 (.call (cf 36) [(T 26), (T 28)]), o 4 (mv 29)]
def r18_13 : LO := [o 31 (fa 0 2), o 32 (ld 31), o 33 (.bin .eql (T 32) (ci 2)), o 34 (mv 33), og 35 (fa 0 2) 34 false, og 36 (ld 35) 34 false, og 37 (.bin .eql (T 36) (ci 3)) 34 false, o 38 (.pick (T 34) (cb true) (T 37)), o 30 (mv 38)]
def r18_14 : LO := [o 39 (fa 1 2), o 40 (ld 39), o 41 (.conv (.num .i64) (T 40)), o 42 (fa 1 3), o 43 (ld 42), o 44 (.conv (.num .i64) (T 43)), o 45 (.call (cf 16) [(T 41), (T 44)]), o 4 (mv 45)]
def r18_17 : LO := [o 47 (fa 0 2), o 48 (ld 47), o 49 (.bin .eql (T 48) (ci 6)), o 46 (mv 49)]
def r18_18 : LO := [o 50 (fa 1 2), o 51 (ld 50), o 52 (.call (cf 38) [(T 51)]), o 53 (fa 1 3), o 54 (ld 53), o 55 (.call (cf 38) [(T 54)]), o 56 (.call (cf 37) [(T 52), (T 55)])]
def r18_18t : LO := [o 4 (mv 56)]
def r18_18o : LN := [[], [0], [1], [], [3], [2, 4], [2, 5]]
def k18_1 : ACode := .cond (T 46) (.seq (.drawn r18_18o r18_18 r18_18t) .ret) .skip
def k18_2 : ACode := .cond (T 30) (.seq (.region r18_14) .ret) (.seq (.region r18_17) k18_1)
def k18_3 : ACode := .cond (T 21) (.seq (.region r18_10) .ret) (.seq (.region r18_13) k18_2)
def k18_4 : ACode := .cond (T 16) (.seq (.region r18_6) .ret) (.seq (.region r18_9) k18_3)
def k18_5 : ACode := .cond (T 5) (.seq (.region r18_2) .ret) (.seq (.region r18_5) k18_4)
def r18_33 : LO := [o 57 (fa 1 2), o 58 (ld 57), o 59 (fa 1 3), o 60 (ld 59), o 61 (.call (cf 37) [(T 58), (T 60)]), o 4 (mv 61)]
def k18_6 : ACode := .seq (.region r18_33) .ret
def k18_7 : ACode := .seq (.block 0 (.seq (.region r18_1) k18_5)) k18_6
def k18_8 : ACode := .seq (.region r18_0) k18_7
theorem fn18 : getFn Tryd.prog 18 = some (62, k18_8, [.tmp 4]) := by kernel_rfl
theorem scalar_Cmp_step (a : GValue) (b : GValue) (r : Int) (hw : ((a.Kind != b.Kind) = true -> ∃ y1, cmp_Compare_int a.Kind b.Kind y1 /\ (r = y1)) /\ ((a.Kind != b.Kind) = false -> ∃ y2, scalar_Is a.Kind y2 /\ (((!y2) = true -> r = 0) /\ ((!y2) = false -> ∃ y3, scalar_texty a.Kind y3 /\ ((y3 = true -> ∃ y4, cmp_Compare_string a.Text b.Text y4 /\ (r = y4)) /\ (y3 = false -> (((a.Kind == 2) || (a.Kind == 3)) = true -> ∃ y5, cmp_Compare_int (wI a.Bits) (wI b.Bits) y5 /\ (r = y5)) /\ (((a.Kind == 2) || (a.Kind == 3)) = false -> ((a.Kind == 6) = true -> ∃ y6, scalar_place a.Bits y6 /\ (∃ y7, scalar_place b.Bits y7 /\ (∃ y8, cmp_Compare_uint64 y6 y7 y8 /\ (r = y8)))) /\ ((a.Kind == 6) = false -> ∃ y9, cmp_Compare_uint64 a.Bits b.Bits y9 /\ (r = y9))))))))) : scalar_Cmp a b r := by
 refine f_pureD fn18 nle rfl (ds (vg 3 [(3, .ptr 1 0), (2, .ptr 0 0)] [(eGValue a), (eGValue b)] [] (ve (d_seqQ (d_blockQ (ds (va 6 [(5, aB (a.Kind != b.Kind))] (ve (dw hw (fun _ hw => ?_) (fun _ hw => ?_))))))))))
 ·refine ds (va 4 [(14, aI b.Kind), (12, aI a.Kind)] ?_)
  obtain ⟨y1, hy, hw⟩ := hw
  exact vo rfl (x_call hy pl16) rfl (va 1 [(4, aI y1)] (ve (d_ret (rx hw (plr18 _)))))
 refine ds (va 2 [(18, aI a.Kind)] ?_)
 obtain ⟨y2, hy, hw⟩ := hw
 refine vo rfl (x_call hy pl34) rfl (va 2 [(16, aB (!y2))] (ve (dw hw (fun _ hw => ?_) (fun _ hw => ?_))))
 ·exact ds (va 1 [(4, aI 0)] (ve (d_ret (rx hw (plr18 _)))))
 refine ds (va 2 [(23, aI a.Kind)] ?_)
 obtain ⟨y3, hy, hw⟩ := hw
 refine vo rfl (x_call hy pl35) rfl (va 1 [(21, aB y3)] (ve (dw hw (fun _ hw => ?_) (fun _ hw => ?_))))
 ·refine ds (va 4 [(28, aS b.Text), (26, aS a.Text)] ?_)
  obtain ⟨y4, hy, hw⟩ := hw
  exact vo rfl (x_call hy pl36) rfl (va 1 [(4, aI y4)] (ve (d_ret (rx hw (plr18 _)))))
 refine ds (va 4 [(34, aB (a.Kind == 2))] (vj 34 38 8 (a.Kind == 2) (fun z => aB (z || (a.Kind == 3))) km_d (fun _ key => ?_) (fun _ key => ?_) ?_))
 ·exact va 3 [(37, .tuple [])] (va 1 [(38, aB true)] (vle km_d key))
 ·exact va 3 [(37, aB (a.Kind == 3))] (va 1 [(38, aB (a.Kind == 3))] (vle km_d key))
 refine va 1 [(30, aB ((a.Kind == 2) || (a.Kind == 3)))] (ve (dw hw (fun _ hw => ?_) (fun _ hw => ?_)))
 ·refine ds (va 6 [(44, aI (wI b.Bits)), (41, aI (wI a.Bits))] ?_)
  obtain ⟨y5, hy, hw⟩ := hw
  exact vo rfl (x_call hy pl16) rfl (va 1 [(4, aI y5)] (ve (d_ret (rx hw (plr18 _)))))
 refine ds (va 4 [(46, aB (a.Kind == 6))] (ve (dw hw (fun _ hw => ?_) (fun _ hw => ?_))))
 ·refine d_seqQ (dS [(0, (eGValue a)), (1, (eGValue b))] (sa 2 2 [(51, aU a.Bits)] ?_))
  obtain ⟨y6, hy, hw⟩ := hw
  refine sq rfl (y_call hy pl38) rfl (sa 2 2 [(54, aU b.Bits)] ?_)
  obtain ⟨y7, hy, hw⟩ := hw
  refine sq rfl (y_call hy pl38) rfl ?_
  obtain ⟨y8, hy, hw⟩ := hw
  exact sq rfl (y_call hy pl37) rfl (send (vp_start' (va 1 [(4, aI y8)] (ve (d_ret (rx hw (plr18 _)))))))
 refine d_skip (ds (va 4 [(60, aU b.Bits), (58, aU a.Bits)] ?_))
 obtain ⟨y9, hy, hw⟩ := hw
 exact vo rfl (x_call hy pl37) rfl (va 1 [(4, aI y9)] (ve (d_ret (rx hw (plr18 _)))))
end
end Go.Proofs.YtkcbmobdpenngaaDoor.Lift
