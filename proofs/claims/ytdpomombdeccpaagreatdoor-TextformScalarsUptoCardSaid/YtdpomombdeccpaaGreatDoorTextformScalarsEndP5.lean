/- Part 6 of the texts that prove TextformScalarsEnd. -/
import Derived.Test.YtdpomombdeccpaaGreatDoorTextformScalarsEndP4
namespace Go.Proofs.YtdpomombdeccpaaGreatDoor.Lift
open Go.RowKit
set_option linter.unusedVariables false
set_option linter.unusedSimpArgs false
set_option linter.unnecessarySimpa false
set_option linter.unusedSectionVars false
set_option maxRecDepth 100000
def hasP (s t : ByteArray) : Bool := decide (t.size <= s.size) && decide (s.extract 0 t.size = t)
def cutP (s t : ByteArray) : ByteArray × Bool := if hasP s t = true then (s.extract t.size s.size, true) else (s, false)
theorem ipre_is (s t : ByteArray) : internal_stringslite_HasPrefix s t (hasP s t) := by
 refine internal_stringslite_HasPrefix_step _ _ _ ⟨fun h => ⟨⟨by omega, by omega, of_decide_eq_true h⟩, ?_⟩, fun h => ?_⟩
 ·have := of_decide_eq_true h
  simp only [Int.toNat_natCast, Int.toNat_zero]
  rw [hasP, decide_eq_true (by omega : t.size <= s.size)]; rfl
 ·have := of_decide_eq_false h
  rw [hasP, decide_eq_false (by omega : ¬ t.size <= s.size)]; rfl
theorem cutp_is (s t : ByteArray) : strings_CutPrefix s t (cutP s t) := by
 refine strings_CutPrefix_step _ _ _ ⟨cutP s t, internal_stringslite_CutPrefix_step _ _ _ ⟨_, ipre_is s t, fun h => ?_, fun h => ⟨?_, ?_⟩⟩, rfl⟩
 ·rw [cutP, if_neg (by simpa using h)]
 ·have h1 : hasP s t = true := by simpa using h
  simp only [hasP, Bool.and_eq_true, decide_eq_true_eq] at h1
  omega
 ·rw [cutP, if_pos (by simpa using h)]; rfl
theorem trim_is (s t : ByteArray) : strings_TrimPrefix s t (cutP s t).1 := by
 refine strings_TrimPrefix_step _ _ _ ⟨_, internal_stringslite_TrimPrefix_step _ _ _ ⟨_, ipre_is s t, fun h => ⟨?_, ?_⟩, fun h => ?_⟩, rfl⟩
 ·simp only [hasP, Bool.and_eq_true, decide_eq_true_eq] at h
  omega
 ·rw [cutP, if_pos h]; rfl
 ·rw [cutP, if_neg (by simpa using h)]
theorem hasP1 (s : ByteArray) (c : UInt8) : hasP s ⟨#[c]⟩ = decide (0 < s.size /\ byteN s 0 = c.toNat) := by
 have e1 : (⟨#[c]⟩ : ByteArray).size = 1 := rfl
 have e2 : byteN ⟨#[c]⟩ 0 = c.toNat := by rw [byteN_get]; rfl
 unfold hasP
 rw [e1]
 by_cases h : 0 < s.size
 ·rw [decide_eq_true (by omega : 1 <= s.size), Bool.true_and]
  congr 1
  simp only [eq_iff_iff]
  constructor
  ·intro he
   refine ⟨h, ?_⟩
   rw [← e2, ← he, byteN_cut s (by omega)]
  ·intro ⟨_, he⟩
   refine ba_ext (by rw [size_cut s (by omega)]; rfl) fun i hi => ?_
   rw [size_cut s (by omega)] at hi
   obtain rfl : i = 0 := by omega
   rw [byteN_cut s (by omega), e2]; exact he
 ·rw [decide_eq_false (by omega : ¬ 1 <= s.size), Bool.false_and, decide_eq_false (fun q => h q.1)]
def bs (s : ByteArray) : List Nat := s.data.toList.map UInt8.toNat
def nB (l : List Nat) : ByteArray := ⟨(l.map UInt8.ofNat).toArray⟩
theorem bs_len (s : ByteArray) : (bs s).length = s.size := by simp [bs]
theorem nB_size (l : List Nat) : (nB l).size = l.length := by show (List.toArray _).size = _; simp
theorem bs_lt (s : ByteArray) : ∀ n ∈ bs s, n < 256 := by
 intro n h
 obtain ⟨b, _, rfl⟩ := List.mem_map.1 h
 exact b.toNat_lt
theorem bs_get (s : ByteArray) (i : Nat) (h : i < s.size) : (bs s)[i]? = some (byteN s i) := by
 have h2 : i < s.data.size := h
 rw [bs, List.getElem?_map, Array.getElem?_toList, Array.getElem?_eq_getElem h2, byteN_get]
 exact congrArg (fun b => some (UInt8.toNat b)) (getElem!_pos s.data i h2).symm
theorem bs_drop (s : ByteArray) (i : Nat) (h : i < s.size) : (bs s).drop i = byteN s i :: (bs s).drop (i + 1) := by
 have h2 : i < (bs s).length := by rw [bs_len]; exact h
 rw [List.drop_eq_getElem_cons h2]
 congr 1
 have := bs_get s i h
 rw [List.getElem?_eq_getElem h2] at this
 exact Option.some.inj this
theorem bs_end (s : ByteArray) (i : Nat) (h : s.size <= i) : (bs s).drop i = [] := List.drop_eq_nil_of_le (by rw [bs_len]; exact h)
theorem bs_app (a b : ByteArray) : bs (a ++ b) = bs a ++ bs b := by simp [bs, ByteArray.data_append]
theorem bs_cut (s : ByteArray) (l u : Nat) : bs (s.extract l u) = ((bs s).take u).drop l := by
 rw [bs, bs, cut_same]
 simp [List.map_drop, List.map_take]
theorem bs_inj {a b : ByteArray} (h : bs a = bs b) : a = b := by
 refine ba_ext (by rw [← bs_len, ← bs_len, h]) fun i hi => ?_
 have h1 := bs_get a i hi
 rw [h, bs_get b i (by rw [← bs_len, ← h, bs_len]; exact hi)] at h1
 exact (Option.some.inj h1).symm
theorem bs_nB {l : List Nat} (h : ∀ n ∈ l, n < 256) : bs (nB l) = l := by
 show (List.map UInt8.toNat (l.map UInt8.ofNat).toArray.toList) = l
 simp only [List.toList_toArray, List.map_map]
 refine (List.map_congr_left fun n hn => ?_).trans (List.map_id l)
 have := h n hn
 simp [Nat.mod_eq_of_lt this]
theorem nB_bs (s : ByteArray) : nB (bs s) = s := bs_inj (bs_nB (bs_lt s))
def iL (l : List Nat) : List Int := l.map fun n : Nat => (n : Int)
theorem bI_bs (s : ByteArray) : bI s = iL (bs s) := by simp [bI, bs, iL]
theorem bI_nB {l : List Nat} (h : ∀ n ∈ l, n < 256) : bI (nB l) = iL l := by rw [bI_bs, bs_nB h]
theorem iL_app (a b : List Nat) : iL (a ++ b) = iL a ++ iL b := List.map_append
theorem iL_len (a : List Nat) : (iL a).length = a.length := List.length_map ..
theorem nB_app (a b : List Nat) : nB (a ++ b) = nB a ++ nB b := by
 apply ByteArray.ext; simp [nB, ByteArray.data_append]
theorem nB_one (c : Nat) (h : c < 256) : ([(c : Int)] : List Int) = bI (nB [c]) := by rw [bI_nB (by simpa using h)]; rfl
def dgtL (c : Nat) : Option Nat := if 48 <= c /\ c <= 57 then some (c - 48) else if 97 <= c /\ c <= 102 then some (c - 87) else none
def valI (c : Nat) : Int := match dgtL c with | some d => d | none => -1
theorem dgtL_lt {c d : Nat} (h : dgtL c = some d) : d < 16 := by
 unfold dgtL at h
 split at h
 ·cases h; omega
 ·split at h
  ·cases h; omega
  ·cases h
theorem value_is (c : Nat) (h : c < 256) : utf_value c (valI c) := by
 have : ∀ c : Fin 256, valI c.val = findB (⟨#[48, 49, 50, 51, 52, 53, 54, 55, 56, 57, 97, 98, 99, 100, 101, 102]⟩ : ByteArray) ((c.val : Nat) : Int) := by decide +kernel
 exact utf_value_step _ _ ⟨_, strings_IndexByte_step _ _ _ ⟨_, internal_stringslite_IndexByte_step _ _ _ (this ⟨c, h⟩), rfl⟩, rfl⟩
theorem digit_is (c : Nat) (h : c < 256) : ref03_digit c (valI c) := by
 have : ∀ c : Fin 256, IF ((decide (48 <= ((c.val : Nat) : Int))) && (decide (((c.val : Nat) : Int) <= 57))) (valI c.val = wI (IntKind.u8.wrap (((c.val : Nat) : Int) - 48))) (IF ((decide (97 <= ((c.val : Nat) : Int))) && (decide (((c.val : Nat) : Int) <= 102))) (valI c.val = wI ((wI (IntKind.u8.wrap (((c.val : Nat) : Int) - 97))) + 10)) (valI c.val = (-1))) := by decide +kernel
 exact ref03_digit_step _ _ (this ⟨c, h⟩)
theorem val_neg (c : Nat) : decide (valI c < 0) = (dgtL c).isNone := by
 unfold valI
 cases dgtL c with
 | none => rfl
 | some d => simp
theorem val_of {c d : Nat} (h : dgtL c = some d) : valI c = d := by unfold valI; rw [h]
theorem byte_or (x y : Nat) (hx : x < 16) (hy : y < 16) : IntKind.u8.wrap (bitsOf .or .i64 (wI ((x : Int) * 2 ^ min (4 : Int).toNat IntKind.i64.bits)) (y : Int)) = ((16 * x + y : Nat) : Int) /\ IntKind.u8.wrap (wI ((wI (16 * (x : Int))) + (y : Int))) = ((16 * x + y : Nat) : Int) := by
 have : ∀ (x y : Fin 16), IntKind.u8.wrap (bitsOf .or .i64 (wI (((x.val : Nat) : Int) * 2 ^ min (4 : Int).toNat IntKind.i64.bits)) ((y.val : Nat) : Int)) = ((16 * x.val + y.val : Nat) : Int) /\ IntKind.u8.wrap (wI ((wI (16 * ((x.val : Nat) : Int))) + ((y.val : Nat) : Int))) = ((16 * x.val + y.val : Nat) : Int) := by decide +kernel
 exact this ⟨x, hx⟩ ⟨y, hy⟩
def unhexV : List Nat -> Option (List Nat)
 | [] => some []
 | [_] => none
 | a :: b :: r => match dgtL a, dgtL b with
  | some x, some y => (unhexV r).map fun l => (16 * x + y) :: l
  | _, _ => none
def unhR (l rest : List Nat) : ByteArray × Int := match unhexV rest with
 | some m => (nB (l ++ m), 0)
 | none => (⟨#[]⟩, 2)
theorem unhR_bad (l r : List Nat) (a b : Nat) (h : ((dgtL a).isNone || (dgtL b).isNone) = true) : unhR l (a :: b :: r) = (⟨#[]⟩, 2) := by
 unfold unhR unhexV
 cases ha : dgtL a with
 | none => rfl
 | some x =>
  cases hb : dgtL b with
  | none => rfl
  | some y => rw [ha, hb] at h; cases h
theorem unhR_ok (l r : List Nat) {a b x y : Nat} (ha : dgtL a = some x) (hb : dgtL b = some y) : unhR l (a :: b :: r) = unhR (l ++ [16 * x + y]) r := by
 unfold unhR
 rw [unhexV, ha, hb]
 simp only
 cases unhexV r with
 | none => rfl
 | some m => simp
def unhexT (s : ByteArray) : ByteArray × Int := unhR [] (bs s)
theorem unh_j (s : ByteArray) (hs : s.size <= 1073741824) : ∀ (n i : Nat) (l : List Nat), s.size - i = 2 * n -> i <= s.size -> l.length <= i -> (∀ c ∈ l, c < 256) -> utf_Unhex_j2 i (iL l) s (unhR l ((bs s).drop i)) := by
 intro n
 induction n with
 | zero =>
  intro i l h1 h2 h3 h4
  refine utf_Unhex_j2_step _ _ _ _ ⟨fun h => absurd (of_decide_eq_true h) (by omega), fun _ => ⟨nB l, (bI_nB h4).symm, ?_⟩⟩
  rw [bs_end s i (by omega)]; simp [unhR, unhexV]
 | succ n ih =>
  intro i l h1 h2 h3 h4
  have b1 := byteN_eq s i; have b2 := byteN_eq s (i + 1)
  have e1 : wI ((i : Int) + 1) = ((i + 1 : Nat) : Int) := by rw [wI, wrapI (by omega)]; omega
  have e2 : wI ((i : Int) + 2) = ((i + 2 : Nat) : Int) := by rw [wI, wrapI (by omega)]; omega
  refine utf_Unhex_j2_step _ _ _ _ ⟨fun _ => ⟨⟨by omega, by omega⟩, valI (byteN s i), ?_, ?_⟩, fun h => absurd (of_decide_eq_false h) (by omega)⟩
  ·rw [Int.toNat_natCast, b1.1]; exact value_is _ b1.2
  rw [e1, e2, Int.toNat_natCast]
  refine ⟨⟨by omega, by omega⟩, valI (byteN s (i + 1)), by rw [b2.1]; exact value_is _ b2.2, ?_⟩
  rw [val_neg, val_neg, bs_drop s i (by omega), bs_drop s (i + 1) (by omega)]
  refine ⟨fun h => (unhR_bad _ _ _ _ h).symm ▸ rfl, fun h => ?_⟩
  obtain ⟨x, hx⟩ : ∃ x, dgtL (byteN s i) = some x := by cases hq : dgtL (byteN s i) with
   | none => rw [hq] at h; cases h
   | some x => exact ⟨x, rfl⟩
  obtain ⟨y, hy⟩ : ∃ y, dgtL (byteN s (i + 1)) = some y := by cases hq : dgtL (byteN s (i + 1)) with
   | none => rw [hq, hx] at h; cases h
   | some y => exact ⟨y, rfl⟩
  rw [val_of hx, val_of hy, (byte_or x y (dgtL_lt hx) (dgtL_lt hy)).1, unhR_ok _ _ hx hy]
  refine ⟨by simp only [iL_len, List.length_cons, List.length_nil]; omega, ?_⟩
  have := ih (i + 2) (l ++ [16 * x + y]) (by omega) (by omega) (by simp; omega) (by
   intro c hc
   rcases List.mem_append.1 hc with hc | hc
   ·exact h4 c hc
   ·have := dgtL_lt hx; have := dgtL_lt hy; simp at hc; omega)
  rw [iL_app] at this
  exact this
theorem unhex_is (s : ByteArray) (hs : s.size <= 1073741824) : utf_Unhex s (unhexT s) := by
 have em : ((s.size : Int).tmod 2) = ((s.size % 2 : Nat) : Int) := rfl
 refine utf_Unhex_step _ _ ⟨fun h => ?_, fun h => ?_⟩
 ·rw [em] at h
  have hodd : s.size % 2 = 1 := by simp only [bne_iff_ne, ne_eq] at h; omega
  have : ∀ (n : Nat) (l : List Nat), l.length = 2 * n + 1 -> unhexV l = none := by
   intro n
   induction n with
   | zero => intro l hl; match l, hl with | [a], _ => rfl
   | succ n ih =>
    intro l hl
    match l, hl with
    | a :: b :: r, hl =>
     rw [unhexV, ih r (by simp at hl; omega)]
     split <;> rfl
  have h3 := this (s.size / 2) (bs s) (by rw [bs_len]; omega)
  simp only [unhexT, unhR, h3]
 ·rw [em] at h
  have heven : s.size % 2 = 0 := by simp only [bne_eq_false_iff_eq] at h; omega
  have ew : wI ((s.size : Int).tdiv 2) = ((s.size / 2 : Nat) : Int) := by rw [show (s.size : Int).tdiv 2 = ((s.size / 2 : Nat) : Int) from rfl, wI, wrapI (by omega)]
  rw [ew]
  refine ⟨⟨by omega, by omega⟩, ?_⟩
  exact unh_j s hs (s.size / 2) 0 [] (by omega) (by omega) (by simp) (by simp)
theorem runh_j (s : ByteArray) (hs : s.size <= 1073741824) : ∀ (n i : Nat) (l : List Nat), s.size - i = 2 * n -> i <= s.size -> l.length <= i -> (∀ c ∈ l, c < 256) -> ref03_Unhex_j2 i (nB l) s (unhR l ((bs s).drop i)) := by
 intro n
 induction n with
 | zero =>
  intro i l h1 h2 h3 h4
  refine ref03_Unhex_j2_step _ _ _ _ ⟨fun h => absurd (of_decide_eq_true h) (by omega), fun _ => ?_⟩
  rw [bs_end s i (by omega)]; simp [unhR, unhexV]
 | succ n ih =>
  intro i l h1 h2 h3 h4
  have b1 := byteN_eq s i; have b2 := byteN_eq s (i + 1)
  have e1 : wI ((i : Int) + 1) = ((i + 1 : Nat) : Int) := by rw [wI, wrapI (by omega)]; omega
  have e2 : wI ((i : Int) + 2) = ((i + 2 : Nat) : Int) := by rw [wI, wrapI (by omega)]; omega
  have d1 : ref03_digit (byteAt s (i : Int).toNat) (valI (byteN s i)) := by rw [Int.toNat_natCast, b1.1]; exact digit_is _ b1.2
  have d2 : ref03_digit (byteAt s ((i + 1 : Nat) : Int).toNat) (valI (byteN s (i + 1))) := by rw [Int.toNat_natCast, b2.1]; exact digit_is _ b2.2
  refine ref03_Unhex_j2_step _ _ _ _ ⟨fun _ => ⟨⟨by omega, by omega⟩, valI (byteN s i), d1, fun z => z = ((dgtL (byteN s i)).isNone || (dgtL (byteN s (i + 1))).isNone), fun z hz => ?_, fun h => ?_, fun h => ?_⟩, fun h => absurd (of_decide_eq_false h) (by omega)⟩
  ·rw [e1, e2, bs_drop s i (by omega), bs_drop s (i + 1) (by omega)]
   refine ⟨fun h => (unhR_bad _ _ _ _ (by rw [← hz]; exact h)).symm ▸ rfl, fun h => ?_⟩
   rw [h] at hz
   obtain ⟨x, hx⟩ : ∃ x, dgtL (byteN s i) = some x := by cases hq : dgtL (byteN s i) with
    | none => rw [hq] at hz; cases hz
    | some x => exact ⟨x, rfl⟩
   obtain ⟨y, hy⟩ : ∃ y, dgtL (byteN s (i + 1)) = some y := by cases hq : dgtL (byteN s (i + 1)) with
    | none => rw [hq, hx] at hz; cases hz
    | some y => exact ⟨y, rfl⟩
   have lx := dgtL_lt hx; have ly := dgtL_lt hy
   refine ⟨⟨by omega, by omega⟩, valI (byteN s i), d1, ⟨by omega, by omega⟩, valI (byteN s (i + 1)), d2, nB [16 * x + y], ?_, ?_, ?_⟩
   ·rw [val_of hx, val_of hy, (byte_or x y lx ly).2]; exact nB_one _ (by omega)
   ·rw [nB_size, nB_size]; simp only [List.length_cons, List.length_nil]; omega
   ·rw [unhR_ok _ _ hx hy, ← nB_app]
    exact ih (i + 2) (l ++ [16 * x + y]) (by omega) (by omega) (by simp; omega) (by
     intro c hc
     rcases List.mem_append.1 hc with hc | hc
     ·exact h4 c hc
     ·simp at hc; omega)
  ·rw [val_neg] at h; rw [h]; rfl
  ·rw [val_neg] at h
   rw [e1]
   exact ⟨⟨by omega, by omega⟩, _, d2, by rw [val_neg, h]; rfl⟩
theorem runhex_is (s : ByteArray) (hs : s.size <= 1073741824) : ref03_Unhex s (unhexT s) := by
 have em : ((s.size : Int).tmod 2) = ((s.size % 2 : Nat) : Int) := rfl
 refine ref03_Unhex_step _ _ ⟨fun h => ?_, fun h => ?_⟩
 ·have h1 := unhex_is s hs
  rw [em] at h
  have hodd : s.size % 2 = 1 := by simp only [bne_iff_ne, ne_eq] at h; omega
  have : ∀ (n : Nat) (l : List Nat), l.length = 2 * n + 1 -> unhexV l = none := by
   intro n
   induction n with
   | zero => intro l hl; match l, hl with | [a], _ => rfl
   | succ n ih =>
    intro l hl
    match l, hl with
    | a :: b :: r, hl =>
     rw [unhexV, ih r (by simp at hl; omega)]
     split <;> rfl
  have h3 := this (s.size / 2) (bs s) (by rw [bs_len]; omega)
  simp only [unhexT, unhR, h3]
 ·rw [em] at h
  have heven : s.size % 2 = 0 := by simp only [bne_eq_false_iff_eq] at h; omega
  exact runh_j s hs (s.size / 2) 0 [] (by omega) (by omega) (by simp) (by simp)
def plQ (c : Nat) : Option Nat := if c = 34 ∨ c = 92 then some c else if c = 110 then some 10 else if c = 116 then some 9 else if c = 114 then some 13 else none
def hexQ : List Nat -> Nat × Nat
 | a :: b :: _ => match dgtL a, dgtL b with
  | some x, some y => (16 * x + y, 4)
  | _, _ => (0, 0)
 | _ => (0, 0)
def escQ : List Nat -> Nat × Nat
 | [] => (0, 0)
 | c :: r => match plQ c with
  | some b => (b, 2)
  | none => if c = 120 then hexQ r else (0, 0)
theorem plQ_lt {c b : Nat} (hc : c < 256) (h : plQ c = some b) : b < 256 := by
 unfold plQ at h
 repeat' split at h
 all_goals (cases h; try omega)
theorem hexQ_lt (l : List Nat) : (hexQ l).1 < 256 := by
 unfold hexQ
 split
 ·split
  ·rename_i hx hy; have := dgtL_lt hx; have := dgtL_lt hy; simp only; omega
  ·simp
 ·simp
theorem escQ_lt {l : List Nat} (hl : ∀ n ∈ l, n < 256) : (escQ l).1 < 256 := by
 unfold escQ
 split
 ·simp
 ·rename_i c r
  split
  ·rename_i hp; exact plQ_lt (hl c (by simp)) hp
  ·split
   ·exact hexQ_lt r
   ·simp
theorem plain_is (c : Nat) (h : c < 256) : utf_plain c (match plQ c with | some b => ((b : Int), true) | none => (0, false)) := by
 have d : ∀ k : Nat, ((c : Int) == (k : Int)) = decide (c = k) := fun k => int_eqN c k
 have d34 := d 34; have d92 := d 92; have d110 := d 110; have d116 := d 116; have d114 := d 114
 have key : ∀ b : Bool, (b = true -> c = 34 ∨ c = 92) -> (b = false -> ¬ c = 34 /\ ¬ c = 92) -> utf_plain_j2 b c (match plQ c with | some b => ((b : Int), true) | none => (0, false)) := by
  intro b h1 h2
  refine utf_plain_j2_step _ _ _ ⟨fun hb => ?_, fun hb => ⟨fun h => ?_, fun h => ⟨fun h' => ?_, fun h' => ⟨fun h'' => ?_, fun h'' => ?_⟩⟩⟩⟩
  ·rw [plQ, if_pos (h1 hb)]
  all_goals
   have h0 := h2 hb
   rw [plQ, if_neg (by omega)]
  ·have := of_decide_eq_true (d110 ▸ h : decide (c = 110) = true); rw [if_pos this]; rfl
  ·have := of_decide_eq_false (d110 ▸ h : decide (c = 110) = false); rw [if_neg this]
   have := of_decide_eq_true (d116 ▸ h' : decide (c = 116) = true); rw [if_pos this]; rfl
  ·have := of_decide_eq_false (d110 ▸ h : decide (c = 110) = false); rw [if_neg this]
   have := of_decide_eq_false (d116 ▸ h' : decide (c = 116) = false); rw [if_neg this]
   have := of_decide_eq_true (d114 ▸ h'' : decide (c = 114) = true); rw [if_pos this]; rfl
  ·have := of_decide_eq_false (d110 ▸ h : decide (c = 110) = false); rw [if_neg this]
   have := of_decide_eq_false (d116 ▸ h' : decide (c = 116) = false); rw [if_neg this]
   have := of_decide_eq_false (d114 ▸ h'' : decide (c = 114) = false); rw [if_neg this]
 refine utf_plain_step _ _ ⟨fun h => ?_, fun h => ?_⟩
 ·rw [h]
  have := of_decide_eq_true (d34 ▸ h : decide (c = 34) = true)
  exact key true (fun _ => .inl this) (fun q => by cases q)
 ·have h34 := of_decide_eq_false (d34 ▸ h : decide (c = 34) = false)
  rw [show ((c : Int) == 92) = decide (c = 92) from d92]
  exact key _ (fun q => .inr (of_decide_eq_true q)) (fun q => ⟨h34, of_decide_eq_false q⟩)
theorem hexQ_two (a b : Nat) (r : List Nat) : hexQ (a :: b :: r) = (match dgtL a, dgtL b with | some x, some y => (16 * x + y, 4) | _, _ => (0, 0)) := rfl
theorem hexQ_bad (a b : Nat) (r : List Nat) (h : ((dgtL a).isNone || (dgtL b).isNone) = true) : hexQ (a :: b :: r) = (0, 0) := by
 rw [hexQ_two]
 cases ha : dgtL a with
 | none => rfl
 | some x =>
  cases hb : dgtL b with
  | none => rfl
  | some y => rw [ha, hb] at h; cases h
theorem hexQ_ok {a b x y : Nat} (r : List Nat) (ha : dgtL a = some x) (hb : dgtL b = some y) : hexQ (a :: b :: r) = (16 * x + y, 4) := by rw [hexQ_two, ha, hb]
def escI (s : ByteArray) (i : Nat) : Int × Int := (((escQ ((bs s).drop (i + 1))).1 : Int), ((escQ ((bs s).drop (i + 1))).2 : Int))
theorem escI_at (s : ByteArray) (i : Nat) (h1 : i + 1 < s.size) : escI s i = ((((match plQ (byteN s (i + 1)) with | some b => (b, 2) | none => if byteN s (i + 1) = 120 then hexQ ((bs s).drop (i + 2)) else (0, 0)) : Nat × Nat).1 : Int), (((match plQ (byteN s (i + 1)) with | some b => (b, 2) | none => if byteN s (i + 1) = 120 then hexQ ((bs s).drop (i + 2)) else (0, 0)) : Nat × Nat).2 : Int)) := by
 rw [escI, bs_drop s _ h1]; rfl
theorem esc_tail (s : ByteArray) (hs : s.size <= 1073741824) (i : Nat) (h1 : i + 1 < s.size) (hp : plQ (byteN s (i + 1)) = none) (D : Int -> Int -> Prop) (hD : ∀ c : Nat, c < 256 -> D c (valI c)) (F : Int -> Int -> Int) (hF : ∀ x y : Nat, x < 16 -> y < 16 -> F x y = ((16 * x + y : Nat) : Int)) :
  JN (fun bz1 : Bool => JN (fun bz2 : Bool => IF bz2 (escI s i = (0, 0)) (SI s ((i + 2 : Nat) : Int) (∃ y4, D ((byteN s (i + 2) : Nat) : Int) y4 /\ (SI s ((i + 3 : Nat) : Int) (∃ y5, D ((byteN s (i + 3) : Nat) : Int) y5 /\ (escI s i = (F y4 y5, 4))))))) fun R2 => IF bz1 (R2 true) (SI s ((i + 3 : Nat) : Int) (∃ y3, D ((byteN s (i + 3) : Nat) : Int) y3 /\ (R2 (decide (y3 < 0)))))) fun R1 => IF ((((byteN s (i + 1) : Nat) : Int) != 120) || (decide ((s.size : Int) <= ((i + 3 : Nat) : Int)))) (R1 true) (SI s ((i + 2 : Nat) : Int) (∃ y2, D ((byteN s (i + 2) : Nat) : Int) y2 /\ (R1 (decide (y2 < 0))))) := by
 have b2 := (byteN_eq s (i + 2)).2; have b3 := (byteN_eq s (i + 3)).2
 have hd := escI_at s i h1
 rw [hp] at hd
 simp only at hd
 refine ⟨fun z => z = decide (¬ (byteN s (i + 1) = 120 /\ i + 3 < s.size) ∨ (dgtL (byteN s (i + 2))).isNone = true), fun z hz => ⟨fun z => z = decide (¬ (byteN s (i + 1) = 120 /\ i + 3 < s.size) ∨ (dgtL (byteN s (i + 2))).isNone = true ∨ (dgtL (byteN s (i + 3))).isNone = true), fun z2 hz2 => ⟨fun h => ?_, fun h => ?_⟩, fun h => ?_, fun h => ?_⟩, fun h => ?_, fun h => ?_⟩
 ·rw [hz2] at h
  have h := of_decide_eq_true h
  rw [hd]
  by_cases h120 : byteN s (i + 1) = 120
  ·rw [if_pos h120]
   by_cases h3 : i + 3 < s.size
   ·rw [bs_drop s (i + 2) (by omega), bs_drop s (i + 3) h3, hexQ_bad _ _ _ (by
     rcases h with h | h | h
     ·exact absurd ⟨h120, h3⟩ h
     ·rw [h]; rfl
     ·rw [h]; simp)]; rfl
   ·by_cases h2 : i + 2 < s.size
    ·rw [bs_drop s (i + 2) h2, bs_end s (i + 3) (by omega)]; rfl
    ·rw [bs_end s (i + 2) (by omega)]; rfl
  ·rw [if_neg h120]; rfl
 ·rw [hz2] at h
  have h := of_decide_eq_false h
  have hA : byteN s (i + 1) = 120 /\ i + 3 < s.size := Classical.byContradiction fun q => h (.inl q)
  obtain ⟨x, hx⟩ : ∃ x, dgtL (byteN s (i + 2)) = some x := by cases hq : dgtL (byteN s (i + 2)) with
   | none => exact absurd (.inr (.inl (by rw [hq]; rfl))) h
   | some x => exact ⟨x, rfl⟩
  obtain ⟨y, hy⟩ : ∃ y, dgtL (byteN s (i + 3)) = some y := by cases hq : dgtL (byteN s (i + 3)) with
   | none => exact absurd (.inr (.inr (by rw [hq]; rfl))) h
   | some y => exact ⟨y, rfl⟩
  refine ⟨⟨by omega, by omega⟩, _, hD _ b2, ⟨by omega, by omega⟩, _, hD _ b3, ?_⟩
  rw [hd, if_pos hA.1, bs_drop s (i + 2) (by omega), bs_drop s (i + 3) hA.2, hexQ_ok _ hx hy, val_of hx, val_of hy, hF x y (dgtL_lt hx) (dgtL_lt hy)]
  rfl
 ·rw [h] at hz
  show true = _
  rw [eq_comm, decide_eq_true_eq]
  rcases of_decide_eq_true hz.symm with q | q
  ·exact .inl q
  ·exact .inr (.inl q)
 ·rw [h] at hz
  have q := of_decide_eq_false hz.symm
  have hA : byteN s (i + 1) = 120 /\ i + 3 < s.size := Classical.byContradiction fun q' => q (.inl q')
  have hB : ¬ (dgtL (byteN s (i + 2))).isNone = true := fun q' => q (.inr q')
  refine ⟨⟨by omega, by omega⟩, _, hD _ b3, ?_⟩
  show decide _ = _
  rw [val_neg]
  cases hq : (dgtL (byteN s (i + 3))).isNone <;> simp [hA, hB]
 ·show true = _
  rw [eq_comm, decide_eq_true_eq]
  left
  intro hA
  have : (((byteN s (i + 1) : Nat) : Int) != 120) = false := by rw [hA.1]; rfl
  rw [this, Bool.false_or] at h
  have := of_decide_eq_true h
  omega
 ·have hA : byteN s (i + 1) = 120 /\ i + 3 < s.size := by
   simp only [Bool.or_eq_false_iff, bne_eq_false_iff_eq, decide_eq_false_iff_not] at h
   omega
  refine ⟨⟨by omega, by omega⟩, _, hD _ b2, ?_⟩
  show decide _ = _
  rw [val_neg]
  cases hq : (dgtL (byteN s (i + 2))).isNone <;> simp [hA]
theorem unescape_is (s : ByteArray) (hs : s.size <= 1073741824) (i : Nat) (hi : i < s.size) : utf_unescape s i (escI s i) := by
 have b1 := byteN_eq s (i + 1); have b2 := byteN_eq s (i + 2); have b3 := byteN_eq s (i + 3)
 have e1 : wI ((i : Int) + 1) = ((i + 1 : Nat) : Int) := by rw [wI, wrapI (by omega)]; omega
 have e2 : wI ((i : Int) + 2) = ((i + 2 : Nat) : Int) := by rw [wI, wrapI (by omega)]; omega
 have e3 : wI ((i : Int) + 3) = ((i + 3 : Nat) : Int) := by rw [wI, wrapI (by omega)]; omega
 refine utf_unescape_step _ _ _ ⟨fun h => ?_, fun h => ?_⟩
 ·have := of_decide_eq_true h
  rw [e1] at this
  rw [escI, bs_end s _ (by omega)]; rfl
 have h1 : i + 1 < s.size := by have := of_decide_eq_false h; rw [e1] at this; omega
 rw [e1, e2, e3]
 simp only [Int.toNat_natCast]
 rw [b1.1, b2.1, b3.1]
 refine ⟨⟨by omega, by omega⟩, _, plain_is _ b1.2, ?_⟩
 cases hp : plQ (byteN s (i + 1)) with
 | some b => exact ⟨fun _ => by rw [escI_at s i h1, hp]; rfl, fun h => by cases h⟩
 | none => exact ⟨fun h => (by cases h), fun _ => ⟨⟨by omega, by omega⟩, esc_tail s hs i h1 hp utf_value value_is _ fun x y hx hy => (byte_or x y hx hy).1⟩⟩
theorem rescape_is (s : ByteArray) (hs : s.size <= 1073741824) (i : Nat) (hi : i < s.size) : ref03_escape s i (escI s i) := by
 have b1 := byteN_eq s (i + 1); have b2 := byteN_eq s (i + 2); have b3 := byteN_eq s (i + 3)
 have e1 : wI ((i : Int) + 1) = ((i + 1 : Nat) : Int) := by rw [wI, wrapI (by omega)]; omega
 have e2 : wI ((i : Int) + 2) = ((i + 2 : Nat) : Int) := by rw [wI, wrapI (by omega)]; omega
 have e3 : wI ((i : Int) + 3) = ((i + 3 : Nat) : Int) := by rw [wI, wrapI (by omega)]; omega
 refine ref03_escape_step _ _ _ ⟨fun h => ?_, fun h => ?_⟩
 ·have := of_decide_eq_true h
  rw [e1] at this
  rw [escI, bs_end s _ (by omega)]; rfl
 have h1 : i + 1 < s.size := by have := of_decide_eq_false h; rw [e1] at this; omega
 have d : ∀ k : Nat, (((byteN s (i + 1) : Nat) : Int) == (k : Int)) = decide (byteN s (i + 1) = k) := fun k => int_eqN _ k
 have key : ∀ b : Bool, (b = true -> byteN s (i + 1) = 34 ∨ byteN s (i + 1) = 92) -> (b = false -> ¬ byteN s (i + 1) = 34 /\ ¬ byteN s (i + 1) = 92) -> ref03_escape_j2 b s i (escI s i) := by
  intro b k1 k2
  refine ref03_escape_j2_step _ _ _ _ ?_
  rw [e1, e2, e3]
  simp only [Int.toNat_natCast]
  rw [b1.1, b2.1, b3.1, show (((byteN s (i + 1) : Nat) : Int) == 110) = decide (byteN s (i + 1) = 110) from d 110, show (((byteN s (i + 1) : Nat) : Int) == 116) = decide (byteN s (i + 1) = 116) from d 116, show (((byteN s (i + 1) : Nat) : Int) == 114) = decide (byteN s (i + 1) = 114) from d 114]
  refine ⟨fun hb => ⟨⟨by omega, by omega⟩, ?_⟩, fun hb => ⟨fun h => ?_, fun h => ⟨fun h' => ?_, fun h' => ⟨fun h'' => ?_, fun h'' => ⟨⟨by omega, by omega⟩, esc_tail s hs i h1 ?_ ref03_digit digit_is _ fun x y hx hy => (byte_or x y hx hy).2⟩⟩⟩⟩⟩
  ·rw [escI_at s i h1, plQ, if_pos (k1 hb)]; rfl
  ·have := of_decide_eq_true h; have := k2 hb
   rw [escI_at s i h1, plQ, if_neg (by omega), if_pos (by omega)]; rfl
  ·have := of_decide_eq_false h; have := of_decide_eq_true h'; have := k2 hb
   rw [escI_at s i h1, plQ, if_neg (by omega), if_neg (by omega), if_pos (by omega)]; rfl
  ·have := of_decide_eq_false h; have := of_decide_eq_false h'; have := of_decide_eq_true h''; have := k2 hb
   rw [escI_at s i h1, plQ, if_neg (by omega), if_neg (by omega), if_neg (by omega), if_pos (by omega)]; rfl
  ·have := of_decide_eq_false h; have := of_decide_eq_false h'; have := of_decide_eq_false h''; have := k2 hb
   rw [plQ, if_neg (by omega), if_neg (by omega), if_neg (by omega), if_neg (by omega)]
 rw [e1, Int.toNat_natCast, b1.1, show (((byteN s (i + 1) : Nat) : Int) == 34) = decide (byteN s (i + 1) = 34) from d 34, show (((byteN s (i + 1) : Nat) : Int) == 92) = decide (byteN s (i + 1) = 92) from d 92]
 refine ⟨⟨by omega, by omega⟩, fun h => ?_, fun h => ?_⟩
 ·exact key _ (fun q => .inl (of_decide_eq_true q)) (fun q => by rw [h] at q; cases q)
 ·have := of_decide_eq_false h
  exact key _ (fun q => .inr (of_decide_eq_true q)) (fun q => ⟨this, of_decide_eq_false q⟩)
theorem escQ_len (l : List Nat) : (escQ l).2 <= l.length + 1 /\ ((escQ l).2 ≠ 0 -> 2 <= (escQ l).2) := by
 cases l with
 | nil => simp [escQ]
 | cons c r =>
  unfold escQ
  simp only [List.length_cons]
  cases plQ c with
  | some b => simp
  | none =>
   simp only
   split
   ·unfold hexQ
    split
    ·split <;> simp
    ·simp
   ·simp
def errQ : ByteArray × Int × Int := (⟨#[]⟩, 0, 2)
def unqN (s : ByteArray) : Nat -> Nat -> List Nat -> ByteArray × Int × Int
 | 0, _, _ => errQ
 | f + 1, i, l => if s.size <= i then errQ else if byteN s i = 34 then (if quoteV (nB l) = s.extract 0 (i + 1) then (nB l, ((i + 1 : Nat) : Int), 0) else errQ)
  else if byteN s i = 92 then (if (escQ ((bs s).drop (i + 1))).2 = 0 then errQ else unqN s f (i + (escQ ((bs s).drop (i + 1))).2) (l ++ [(escQ ((bs s).drop (i + 1))).1])) else unqN s f (i + 1) (l ++ [byteN s i])
theorem all256 {l : List Nat} {c : Nat} (h : ∀ n ∈ l, n < 256) (hc : c < 256) : ∀ n ∈ l ++ [c], n < 256 := by
 intro n hn
 rcases List.mem_append.1 hn with hn | hn
 ·exact h n hn
 ·simp at hn; omega
theorem unq_j (s : ByteArray) (hs : s.size <= 1073741824) : ∀ (f i : Nat) (l : List Nat), s.size < f + i -> i <= s.size -> l.length <= i -> (∀ c ∈ l, c < 256) -> utf_Unquote_j4 i (iL l) s (unqN s f i l) := by
 intro f
 induction f with
 | zero => intro i l h1 h2; omega
 | succ f ih =>
  intro i l h1 h2 h3 h4
  have b := byteN_eq s i
  have e1 : wI ((i : Int) + 1) = ((i + 1 : Nat) : Int) := by rw [wI, wrapI (by omega)]; omega
  have d : ∀ k : Nat, (((byteN s i : Nat) : Int) == (k : Int)) = decide (byteN s i = k) := fun k => int_eqN _ k
  have hz := nB_size l
  refine utf_Unquote_j4_step _ _ _ _ ?_
  simp only [e1, Int.toNat_natCast]
  rw [b.1, show (((byteN s i : Nat) : Int) == 92) = decide (byteN s i = 92) from d 92]
  refine ⟨fun z => z = decide (i < s.size /\ byteN s i ≠ 34), fun z hz => ⟨fun h => ?_, fun h => ?_⟩, fun h => ?_, fun h => ?_⟩
  ·rw [hz] at h
   obtain ⟨hi, h34⟩ := of_decide_eq_true h
   have hq := escQ_len ((bs s).drop (i + 1))
   rw [List.length_drop, bs_len] at hq
   refine ⟨⟨by omega, by omega⟩, fun h92 => ⟨_, unescape_is s hs i hi, ?_⟩, fun h92 => ?_⟩
   ·have h92 := of_decide_eq_true h92
    refine utf_Unquote_j6_step _ _ _ _ _ _ ⟨fun h0 => ?_, fun h0 => ⟨by simp only [iL_len, List.length_cons, List.length_nil]; omega, ?_⟩⟩
    ·have h0 : (escQ ((bs s).drop (i + 1))).2 = 0 := by simp only [escI, beq_iff_eq] at h0; omega
     rw [unqN, if_neg (by omega), if_neg h34, if_pos h92, if_pos h0]; rfl
    ·have h0 : ¬ (escQ ((bs s).drop (i + 1))).2 = 0 := by simp only [escI, beq_eq_false_iff_ne] at h0; omega
     rw [unqN, if_neg (by omega), if_neg h34, if_pos h92, if_neg h0]
     have e2 : wI ((i : Int) + (escI s i).2) = ((i + (escQ ((bs s).drop (i + 1))).2 : Nat) : Int) := by rw [escI]; simp only; rw [wI, wrapI (by omega)]; omega
     rw [e2]
     have := ih (i + (escQ ((bs s).drop (i + 1))).2) (l ++ [(escQ ((bs s).drop (i + 1))).1]) (by omega) (by omega) (by simp; omega) (all256 h4 (escQ_lt fun n hn => bs_lt s n (List.mem_of_mem_drop hn)))
     rw [iL_app] at this
     exact this
   ·have h92 := of_decide_eq_false h92
    refine utf_Unquote_j6_step _ _ _ _ _ _ ⟨fun h0 => (by cases h0), fun h0 => ⟨by simp only [iL_len, List.length_cons, List.length_nil]; omega, ?_⟩⟩
    rw [unqN, if_neg (by omega), if_neg h34, if_neg h92, e1]
    have := ih (i + 1) (l ++ [byteN s i]) (by omega) (by omega) (by simp; omega) (all256 h4 b.2)
    rw [iL_app] at this
    exact this
  ·rw [hz] at h
   have h := of_decide_eq_false h
   refine ⟨nB l, (bI_nB h4).symm, fun z => z = decide (s.size <= i ∨ ¬ quoteV (nB l) = s.extract 0 (i + 1)), fun z hz => ⟨fun h' => ?_, fun h' => ?_⟩, fun h' => ?_, fun h' => ⟨_, quote_is _ (by omega), ?_⟩⟩
   ·rw [hz] at h'
    have h' := of_decide_eq_true h'
    rw [unqN]
    by_cases hi : s.size <= i
    ·rw [if_pos hi]; rfl
    ·rw [if_neg hi, if_pos (by omega), if_neg (h'.resolve_left hi)]; rfl
   ·rw [hz] at h'
    have h' := of_decide_eq_false h'
    have hi : ¬ s.size <= i := fun q => h' (.inl q)
    rw [unqN, if_neg hi, if_pos (by omega), if_pos (Classical.byContradiction fun q => h' (.inr q))]
   ·show true = _
    rw [eq_comm, decide_eq_true_eq]
    have := of_decide_eq_true h'
    exact .inl (by omega)
   ·have hi := of_decide_eq_false h'
    refine ⟨⟨by omega, by omega, by omega⟩, ?_⟩
    show (!(decide _)) = _
    have hi' : ¬ s.size <= i := by omega
    simp [hi']
  ·have := of_decide_eq_true h
   refine ⟨⟨by omega, by omega⟩, ?_⟩
   show (_ != _) = decide _
   rw [bne, show (((byteN s i : Nat) : Int) == 34) = decide (byteN s i = 34) from d 34]
   have hi : i < s.size := by omega
   simp [hi]
  ·have := of_decide_eq_false h
   show false = decide _
   rw [eq_comm, decide_eq_false_iff_not]
   omega
def unqT (s : ByteArray) : ByteArray × Int × Int := if s.size = 0 ∨ ¬ byteN s 0 = 34 then errQ else unqN s s.size 1 []
theorem size_zero (s : ByteArray) : (s = ⟨#[]⟩) ↔ s.size = 0 := by
 constructor
 ·rintro rfl; rfl
 ·intro h; exact bs_inj (List.eq_nil_of_length_eq_zero (by rw [bs_len]; exact h))
theorem unquote_is (s : ByteArray) (hs : s.size <= 1073741824) : utf_Unquote s (unqT s) := by
 have b := byteN_eq s 0
 have d : (((byteN s 0 : Nat) : Int) == 34) = decide (byteN s 0 = 34) := int_eqN _ 34
 refine utf_Unquote_step _ _ ⟨fun z => z = decide (s.size = 0 ∨ ¬ byteN s 0 = 34), fun z hz => ⟨fun h => ?_, fun h => ?_⟩, fun h => ?_, fun h => ?_⟩
 ·rw [hz] at h
  rw [unqT, if_pos (of_decide_eq_true h)]; rfl
 ·rw [hz] at h
  have h := of_decide_eq_false h
  rw [unqT, if_neg h]
  exact unq_j s hs s.size 1 [] (by omega) (by omega) (by simp) (by simp)
 ·show true = _
  rw [eq_comm, decide_eq_true_eq]
  exact .inl ((size_zero s).1 (of_decide_eq_true h))
 ·have h0 : ¬ s.size = 0 := fun q => of_decide_eq_false h ((size_zero s).2 q)
  refine ⟨⟨by omega, by omega⟩, ?_⟩
  show (_ != _) = decide _
  rw [show byteAt s (0 : Int).toNat = ((byteN s 0 : Nat) : Int) from b.1, bne, d]
  simp [h0]
theorem runq_j (s : ByteArray) (hs : s.size <= 1073741824) : ∀ (f i : Nat) (l : List Nat), s.size < f + i -> i <= s.size -> l.length <= i -> (∀ c ∈ l, c < 256) -> ref03_Unquote_j2 i (nB l) s (unqN s f i l) := by
 intro f
 induction f with
 | zero => intro i l h1 h2; omega
 | succ f ih =>
  intro i l h1 h2 h3 h4
  have b := byteN_eq s i
  have e1 : wI ((i : Int) + 1) = ((i + 1 : Nat) : Int) := by rw [wI, wrapI (by omega)]; omega
  have d : ∀ k : Nat, (((byteN s i : Nat) : Int) == (k : Int)) = decide (byteN s i = k) := fun k => int_eqN _ k
  have hz := nB_size l
  refine ref03_Unquote_j2_step _ _ _ _ ?_
  simp only [e1, Int.toNat_natCast]
  rw [b.1, show (((byteN s i : Nat) : Int) == 34) = decide (byteN s i = 34) from d 34, bne, show (((byteN s i : Nat) : Int) == 92) = decide (byteN s i = 92) from d 92]
  refine ⟨fun h => ?_, fun h => ?_⟩
  rotate_left
  ·have := of_decide_eq_false h
   rw [unqN, if_pos (by omega)]; rfl
  have hi : i < s.size := by have := of_decide_eq_true h; omega
  have hq := escQ_len ((bs s).drop (i + 1))
  rw [List.length_drop, bs_len] at hq
  refine ⟨⟨by omega, by omega⟩, fun h34 => ⟨_, rquote_is _ (by omega), ⟨by omega, by omega, by omega⟩, fun hc => ?_, fun hc => ?_⟩, fun h34 => ⟨⟨by omega, by omega⟩, fun h92 => ⟨⟨by omega, by omega, by omega⟩, ?_, ?_⟩, fun h92 => ⟨_, rescape_is s hs i hi, fun h0 => ?_, fun h0 => ⟨nB [(escQ ((bs s).drop (i + 1))).1], ?_, ?_, ?_⟩⟩⟩⟩
  ·have h34 := of_decide_eq_true h34
   rw [unqN, if_neg (by omega), if_pos h34, if_neg (by simpa using hc)]; rfl
  ·have h34 := of_decide_eq_true h34
   rw [unqN, if_neg (by omega), if_pos h34, if_pos (by simpa using hc)]
  ·rw [size_cut _ (by omega), hz]; omega
  ·have h34 := of_decide_eq_false h34
   have h92 : ¬ byteN s i = 92 := by simpa using h92
   rw [unqN, if_neg (by omega), if_neg h34, if_neg h92]
   have ec : s.extract i (i + 1) = nB [byteN s i] := by
    refine bs_inj ?_
    rw [bs_nB (by simpa using b.2), bs_cut]
    rw [List.drop_take, bs_drop s i hi]; simp
   rw [ec, ← nB_app]
   exact ih (i + 1) (l ++ [byteN s i]) (by omega) (by omega) (by simp; omega) (all256 h4 b.2)
  ·have h34 := of_decide_eq_false h34
   have h92 : byteN s i = 92 := by simpa using h92
   have h0 : (escQ ((bs s).drop (i + 1))).2 = 0 := by simp only [escI, beq_iff_eq] at h0; omega
   rw [unqN, if_neg (by omega), if_neg h34, if_pos h92, if_pos h0]; rfl
  ·exact nB_one _ (escQ_lt fun n hn => bs_lt s n (List.mem_of_mem_drop hn))
  ·simp only [nB_size, List.length_cons, List.length_nil]; omega
  ·have h34 := of_decide_eq_false h34
   have h92 : byteN s i = 92 := by simpa using h92
   have h0 : ¬ (escQ ((bs s).drop (i + 1))).2 = 0 := by simp only [escI, beq_eq_false_iff_ne] at h0; omega
   rw [unqN, if_neg (by omega), if_neg h34, if_pos h92, if_neg h0, ← nB_app]
   have e2 : wI ((i : Int) + (escI s i).2) = ((i + (escQ ((bs s).drop (i + 1))).2 : Nat) : Int) := by rw [escI]; simp only; rw [wI, wrapI (by omega)]; omega
   rw [e2]
   exact ih _ _ (by omega) (by omega) (by simp; omega) (all256 h4 (escQ_lt fun n hn => bs_lt s n (List.mem_of_mem_drop hn)))
theorem runquote_is (s : ByteArray) (hs : s.size <= 1073741824) : ref03_Unquote s (unqT s) := by
 have b := byteN_eq s 0
 have d : (((byteN s 0 : Nat) : Int) == 34) = decide (byteN s 0 = 34) := int_eqN _ 34
 refine ref03_Unquote_step _ _ ⟨fun z => z = decide (s.size = 0 ∨ ¬ byteN s 0 = 34), fun z hz => ⟨fun h => ?_, fun h => ?_⟩, fun h => ?_, fun h => ?_⟩
 ·rw [hz] at h
  rw [unqT, if_pos (of_decide_eq_true h)]; rfl
 ·rw [hz] at h
  have h := of_decide_eq_false h
  rw [unqT, if_neg h]
  exact runq_j s hs s.size 1 [] (by omega) (by omega) (by simp) (by simp)
 ·show true = _
  rw [eq_comm, decide_eq_true_eq]
  exact .inl (by simp only [beq_iff_eq] at h; omega)
 ·have h0 : ¬ s.size = 0 := by simp only [beq_eq_false_iff_ne] at h; omega
  refine ⟨⟨by omega, by omega⟩, ?_⟩
  show (_ != _) = decide _
  rw [show byteAt s (0 : Int).toNat = ((byteN s 0 : Nat) : Int) from b.1, bne, d]
  simp [h0]
def isD (c : Nat) : Bool := decide (48 <= c /\ c <= 57)
def valR : List Nat -> Nat -> Nat
 | [], a => a
 | c :: r, a => valR r (10 * a + (c - 48))
def valD (a : Nat) (l : List Nat) : Nat := valR l a
theorem valD_cons (a c : Nat) (r : List Nat) : valD a (c :: r) = valD (10 * a + (c - 48)) r := by unfold valD; rw [valR]
theorem valD_le : ∀ (l : List Nat) (a : Nat), a <= valD a l
 | [], a => Nat.le_refl _
 | c :: r, a => by have := valD_le r (10 * a + (c - 48)); rw [valD_cons]; omega
def negS (s : ByteArray) : Bool := decide (0 < s.size /\ byteN s 0 = 45)
def digS (s : ByteArray) : ByteArray := if negS s = true then s.extract 1 s.size else s
theorem cut_neg (s : ByteArray) : cutP s ⟨#[45]⟩ = (digS s, negS s) := by
 have h := hasP1 s 45
 have e : hasP s ⟨#[45]⟩ = negS s := h
 unfold cutP digS
 rw [e]
 cases negS s <;> rfl
theorem digS_size (s : ByteArray) : (digS s).size <= s.size := by
 unfold digS
 split
 ·rw [size_cut s (Nat.le_refl _)]; omega
 ·exact Nat.le_refl _
def decQ (s : ByteArray) : Bool := decide (¬ (digS s).size = 0 /\ ¬ (byteN (digS s) 0 = 48 /\ ¬ s = ⟨#[48]⟩)) && (bs (digS s)).all isD
theorem decl_j (y : ByteArray) (hy : y.size <= 1073741824) : ∀ n i : Nat, y.size - i = n -> i <= y.size -> scalar_decimal_j2 i y (((bs y).drop i).all isD) := by
 intro n
 induction n with
 | zero =>
  intro i h1 h2
  refine scalar_decimal_j2_step _ _ _ ⟨fun h => absurd (of_decide_eq_true h) (by omega), fun _ => ?_⟩
  rw [bs_end y i (by omega)]; rfl
 | succ n ih =>
  intro i h1 h2
  have b := byteN_eq y i
  have e1 : wI ((i : Int) + 1) = ((i + 1 : Nat) : Int) := by rw [wI, wrapI (by omega)]; omega
  refine scalar_decimal_j2_step _ _ _ ⟨fun _ => ?_, fun h => absurd (of_decide_eq_false h) (by omega)⟩
  simp only [e1, Int.toNat_natCast]
  rw [b.1, bs_drop y i (by omega), List.all_cons]
  refine ⟨⟨by omega, by omega⟩, fun h => ?_, fun h => ⟨⟨by omega, by omega⟩, fun h' => ?_, fun h' => ?_⟩⟩
  ·have := of_decide_eq_true h
   rw [isD, decide_eq_false (by omega)]; rfl
  ·have := of_decide_eq_true h'
   rw [isD, decide_eq_false (by omega)]; rfl
  ·have := of_decide_eq_false h; have := of_decide_eq_false h'
   rw [isD, decide_eq_true (by omega), Bool.true_and]
   exact ih (i + 1) (by omega) (by omega)
theorem decimal_is (s : ByteArray) (hs : s.size <= 1073741824) : scalar_decimal s (decQ s) := by
 have hd := digS_size s
 have b := byteN_eq (digS s) 0
 have ht : strings_TrimPrefix s ⟨#[45]⟩ (digS s) := by have := trim_is s ⟨#[45]⟩; rw [cut_neg] at this; exact this
 refine scalar_decimal_step _ _ ⟨_, ht, fun z => z = decide ((digS s).size = 0 ∨ (byteN (digS s) 0 = 48 /\ ¬ s = ⟨#[48]⟩)), fun z hz => ⟨fun h => ?_, fun h => ?_⟩, fun h => ?_, fun h => ?_⟩
 ·rw [hz] at h
  have h := of_decide_eq_true h
  rw [decQ, decide_eq_false (fun q => h.elim q.1 q.2)]; rfl
 ·rw [hz] at h
  have h := of_decide_eq_false h
  rw [decQ, decide_eq_true ⟨fun q => h (.inl q), fun q => h (.inr q)⟩, Bool.true_and]
  exact decl_j _ (by omega) _ 0 rfl (by omega)
 ·show true = _
  rw [eq_comm, decide_eq_true_eq]
  exact .inl ((size_zero _).1 (of_decide_eq_true h))
 ·have h0 : ¬ (digS s).size = 0 := fun q => of_decide_eq_false h ((size_zero _).2 q)
  refine ⟨⟨by omega, by omega⟩, ?_⟩
  show (_ && _) = decide _
  rw [show byteAt (digS s) (0 : Int).toNat = ((byteN (digS s) 0 : Nat) : Int) from b.1, show (((byteN (digS s) 0 : Nat) : Int) == 48) = decide (byteN (digS s) 0 = 48) from int_eqN _ 48]
  simp [h0]
def resN (l : List Nat) (large : Bool) (u : Nat) (neg : Bool) : Int × Bool × Int :=
 if l.all isD = true then (if large = true ∨ 18446744073709551616 <= valD u l then (0, false, 6) else ((valD u l : Int), neg, 0)) else (0, false, 2)
theorem num_j (d : ByteArray) (hd : d.size <= 1073741824) (neg : Bool) : ∀ (n i : Nat) (large : Bool) (u : Nat), d.size - i = n -> i <= d.size -> u < 18446744073709551616 -> ref04_number_j12 i large u neg d (resN ((bs d).drop i) large u neg) := by
 intro n
 induction n with
 | zero =>
  intro i large u h1 h2 h3
  refine ref04_number_j12_step _ _ _ _ _ _ ⟨fun h => absurd (of_decide_eq_true h) (by omega), fun _ => ⟨fun h => ?_, fun h => ?_⟩⟩
  ·rw [bs_end d i (by omega), h]; simp [resN]
  ·rw [bs_end d i (by omega), h]; unfold resN; rw [if_pos (by rfl : ([] : List Nat).all isD = true), if_neg (by simp [valD, valR]; omega)]; rfl
 | succ n ih =>
  intro i large u h1 h2 h3
  have b := byteN_eq d i
  have e1 : wI ((i : Int) + 1) = ((i + 1 : Nat) : Int) := by rw [wI, wrapI (by omega)]; omega
  refine ref04_number_j12_step _ _ _ _ _ _ ⟨fun _ => ?_, fun h => absurd (of_decide_eq_false h) (by omega)⟩
  rw [show byteAt d ((i : Int)).toNat = ((byteN d i : Nat) : Int) from b.1, bs_drop d i (by omega)]
  generalize byteN d i = c at *
  refine ⟨⟨by omega, by omega⟩, fun z => z = !(isD c), fun z hz => ⟨fun h => ?_, fun h => ⟨⟨by omega, by omega⟩, ?_⟩⟩, fun h => ?_, fun h => ⟨⟨by omega, by omega⟩, ?_⟩⟩
  ·rw [hz] at h
   have h : isD c = false := by simpa using h
   simp [resN, h]
  ·rw [hz] at h
   have h : isD c = true := by simpa using h
   have hc : 48 <= c /\ c <= 57 := of_decide_eq_true h
   have ew : IntKind.u8.wrap ((c : Int) - 48) = ((c - 48 : Nat) : Int) := by simp [IntKind.wrap, IntKind.signed, IntKind.bits]; omega
   have w1 : wU (((c - 48 : Nat) : Int)) = ((c - 48 : Nat) : Int) := by rw [wU, wrapU (by omega)]
   have w2 : wU (wU (18446744073709551615 - ((c - 48 : Nat) : Int)) |>.tdiv 10) = (((18446744073709551615 - (c - 48)) / 10 : Nat) : Int) := by
    rw [wU, wU, wrapU (n := 18446744073709551615 - ((c - 48 : Nat) : Int)) (by omega)]
    rw [show (18446744073709551615 : Int) - ((c - 48 : Nat) : Int) = ((18446744073709551615 - (c - 48) : Nat) : Int) by omega]
    rw [show (((18446744073709551615 - (c - 48) : Nat) : Int)).tdiv 10 = (((18446744073709551615 - (c - 48)) / 10 : Nat) : Int) from rfl]
    rw [wrapU (by omega)]
   rw [ew, w1, w2]
   have eall : ∀ (L : Bool) (v : Nat), (L = true ∨ 18446744073709551616 <= valD v ((bs d).drop (i + 1)) ↔ large = true ∨ 18446744073709551616 <= valD u (c :: (bs d).drop (i + 1))) -> (¬ (large = true ∨ 18446744073709551616 <= valD u (c :: (bs d).drop (i + 1))) -> valD v ((bs d).drop (i + 1)) = valD u (c :: (bs d).drop (i + 1))) -> resN ((bs d).drop (i + 1)) L v neg = resN (c :: (bs d).drop (i + 1)) large u neg := by
    intro L v k1 k2
    unfold resN
    rw [List.all_cons, h, Bool.true_and]
    by_cases hq : large = true ∨ 18446744073709551616 <= valD u (c :: (bs d).drop (i + 1))
    ·rw [if_pos hq, if_pos (k1.2 hq)]
    ·rw [if_neg hq, if_neg (fun q => hq (k1.1 q)), k2 hq]
   have hv : valD u (c :: (bs d).drop (i + 1)) = valD (10 * u + (c - 48)) ((bs d).drop (i + 1)) := rfl
   have hle := valD_le ((bs d).drop (i + 1)) (10 * u + (c - 48))
   have bb : byteAt d i = (c : Int) := b.1
   refine ⟨fun hq => ?_, fun hq => ?_⟩
   ·have hq := of_decide_eq_true hq
    refine ref04_number_j14_step _ _ _ _ _ _ ⟨fun h' => (by cases h'), fun _ => ?_⟩
    rw [e1]
    have := ih (i + 1) true u (by omega) (by omega) h3
    rw [eall true u ⟨fun _ => .inr (by rw [hv]; omega), fun _ => .inl rfl⟩ (fun q => absurd (.inr (by rw [hv]; omega)) q)] at this
    exact this
   ·have hq := of_decide_eq_false hq
    refine ref04_number_j14_step _ _ _ _ _ _ ⟨fun h' => ?_, fun h' => ?_⟩
    ·have hl : large = false := by simpa using h'
     have w3 : wU (10 * (u : Int)) = ((10 * u : Nat) : Int) := by rw [wU, wrapU (by omega)]; omega
     rw [e1, Int.toNat_natCast, bb, ew, w1, w3]
     have w4 : wU (((10 * u : Nat) : Int) + ((c - 48 : Nat) : Int)) = ((10 * u + (c - 48) : Nat) : Int) := by rw [wU, wrapU (by omega)]; omega
     rw [w4, hl]
     have := ih (i + 1) false (10 * u + (c - 48)) (by omega) (by omega) (by omega)
     rw [eall false _ (by rw [hl, hv]) (fun _ => hv.symm)] at this
     rw [hl] at this
     exact this
    ·have hl : large = true := by simpa using h'
     rw [e1, hl]
     have := ih (i + 1) true u (by omega) (by omega) h3
     rw [eall true u (by rw [hl]; simp) (fun q => absurd (.inl hl) q)] at this
     rw [hl] at this
     exact this
  ·have := of_decide_eq_true h
   show true = !(isD c)
   rw [isD, decide_eq_false (by omega)]; rfl
  ·have := of_decide_eq_false h
   show decide _ = !(isD c)
   by_cases h57 : 57 < c
   ·rw [decide_eq_true (by omega), isD, decide_eq_false (by omega)]; rfl
   ·rw [decide_eq_false (by omega), isD, decide_eq_true (by omega)]; rfl
def numR (s : ByteArray) : Int × Bool × Int :=
 if decQ s = true then (if 18446744073709551616 <= valD 0 (bs (digS s)) then (0, false, 6) else ((valD 0 (bs (digS s)) : Int), negS s, 0)) else (0, false, 2)
theorem numr_j8 (s : ByteArray) (hs : s.size <= 1073741824) : ref04_number_j8 (negS s) (digS s) s (numR s) := by
 have hd := digS_size s
 have b := byteN_eq (digS s) 0
 refine ref04_number_j8_step _ _ _ _ ⟨fun z => z = decide ((digS s).size = 0 ∨ (byteN (digS s) 0 = 48 /\ ¬ s = ⟨#[48]⟩)), fun z hz => ⟨fun h => ?_, fun h => ?_⟩, fun h => ?_, fun h => ?_⟩
 ·rw [hz] at h
  have h := of_decide_eq_true h
  rw [numR, decQ, decide_eq_false (fun q => h.elim q.1 q.2)]; rfl
 ·rw [hz] at h
  have h := of_decide_eq_false h
  have := num_j (digS s) (by omega) (negS s) _ 0 false 0 rfl (by omega) (by omega)
  rw [numR, decQ, decide_eq_true ⟨fun q => h (.inl q), fun q => h (.inr q)⟩, Bool.true_and]
  simp only [resN, List.drop_zero, Bool.false_eq_true, false_or] at this
  exact this
 ·show true = _
  rw [eq_comm, decide_eq_true_eq]
  exact .inl ((size_zero _).1 (of_decide_eq_true h))
 ·have h0 : ¬ (digS s).size = 0 := fun q => of_decide_eq_false h ((size_zero _).2 q)
  refine ⟨⟨by omega, by omega⟩, ?_⟩
  show (_ && _) = decide _
  rw [show byteAt (digS s) (0 : Int).toNat = ((byteN (digS s) 0 : Nat) : Int) from b.1, show (((byteN (digS s) 0 : Nat) : Int) == 48) = decide (byteN (digS s) 0 = 48) from int_eqN _ 48]
  simp [h0]
theorem rnumb_is (s : ByteArray) (hs : s.size <= 1073741824) : ref04_number s (numR s) := by
 have b := byteN_eq s 0
 have key := numr_j8 s hs
 refine ref04_number_step _ _ ⟨fun z => z = negS s, fun z hz => ⟨fun h => ?_, fun h => ?_⟩, fun h => ⟨⟨by omega, ?_⟩, ?_⟩, fun h => ?_⟩
 ·have hn : negS s = true := by rw [← hz]; exact h
  have h0 : 0 < s.size := (of_decide_eq_true hn).1
  refine ⟨⟨by omega, by omega, by omega⟩, ?_⟩
  rw [hn, show digS s = s.extract 1 s.size by rw [digS, if_pos hn]] at key
  exact key
 ·have hn : negS s = false := by rw [← hz]; exact h
  rw [hn, show digS s = s by rw [digS, if_neg (by rw [hn]; decide)]] at key
  exact key
 ·exact of_decide_eq_true h
 ·have h0 := of_decide_eq_true h
  show (_ == _) = negS s
  rw [show byteAt s (0 : Int).toNat = ((byteN s 0 : Nat) : Int) from b.1, show (((byteN s 0 : Nat) : Int) == 45) = decide (byteN s 0 = 45) from int_eqN _ 45, negS]
  have h0' : 0 < s.size := by omega
  simp [h0']
 ·have h0 := of_decide_eq_false h
  show false = negS s
  rw [negS, decide_eq_false (by omega)]
theorem lower_is (c : Nat) (h : c < 256) : internal_strconv_lower c ((c ||| 32 : Nat) : Int) := by
 have : ∀ c : Fin 256, ((c.val ||| 32 : Nat) : Int) = bitsOf .or .u8 ((c.val : Nat) : Int) 32 := by decide +kernel
 exact internal_strconv_lower_step _ _ (this ⟨c, h⟩)
theorem low_lt (c : Nat) (h : c < 256) : c ||| 32 < 256 := Nat.or_lt_two_pow (n := 8) h (by decide)
def dgU (c : Nat) : Option Nat := if 48 <= c /\ c <= 57 then some (c - 48) else if 97 <= c ||| 32 /\ c ||| 32 <= 122 then some ((c ||| 32) - 87) else none
def puV (b : Nat) : List Nat -> Nat -> Nat × Nat
 | [], n => (n, 0)
 | c :: r, n => match dgU c with
  | none => (0, 2)
  | some d => if b <= d then (0, 2) else if 18446744073709551616 <= n * b + d then (18446744073709551615, 1) else puV b r (n * b + d)
theorem puV_cons (b c : Nat) (r : List Nat) (n : Nat) : puV b (c :: r) n = (match dgU c with
  | none => (0, 2)
  | some d => if b <= d then (0, 2) else if 18446744073709551616 <= n * b + d then (18446744073709551615, 1) else puV b r (n * b + d)) := by rw [puV]
theorem puV_ok (b : Nat) : ∀ (l : List Nat) (n : Nat), n < 18446744073709551616 -> (puV b l n).1 < 18446744073709551616 /\ (puV b l n).2 <= 2
 | [], n, h => ⟨h, by simp [puV]⟩
 | c :: r, n, h => by
  rw [puV_cons]
  cases dgU c with
  | none => simp
  | some d =>
   simp only
   split
   ·simp
   ·split
    ·simp
    ·exact puV_ok b r _ (by omega)
def errG : Nat -> GAny
 | 0 => .nil
 | k + 1 => .a_strconv_Error ((k + 1 : Nat) : Int)
theorem maxU : wU ((wU ((1 : Int) * 2 ^ min (wU 64).toNat IntKind.u64.bits)) - 1) = 18446744073709551615 := by decide +kernel
theorem bI_at (s : ByteArray) (i : Nat) (h : i < s.size) : (bI s)[((i : Int)).toNat]? = some ((byteN s i : Nat) : Int) := by
 rw [bI_bs, iL, List.getElem?_map, Int.toNat_natCast, bs_get s i h]; rfl
theorem pu_j62 (s s0 : ByteArray) (b cut : Nat) (hb : b = 10 /\ cut = 1844674407370955162 ∨ b = 16 /\ cut = 1152921504606846976) (i d n : Nat) (hi : i < s.size) (hs : s.size <= 1073741824) (hd : d < 40) (hn : n < 18446744073709551616) (R : Nat × Nat)
  (k1 : b <= d -> R = (0, 2)) (k2 : ¬ b <= d -> 18446744073709551616 <= n * b + d -> R = (18446744073709551615, 1)) (k3 : ¬ b <= d -> ¬ 18446744073709551616 <= n * b + d -> internal_strconv_ParseUint_j60 ((i + 1 : Nat) : Int) s ((n * b + d : Nat) : Int) false 64 cut s0 b b ((R.1 : Int), errG R.2)) :
  internal_strconv_ParseUint_j62 d i s n false 64 cut s0 b b ((R.1 : Int), errG R.2) := by
 have hb2 : b = 10 ∨ b = 16 := hb.imp (·.1) (·.1)
 have eb : IntKind.u8.wrap (b : Int) = b := by rcases hb2 with rfl | rfl <;> decide
 have wb : wU (b : Int) = b := by rcases hb2 with rfl | rfl <;> decide
 have wd : wU (d : Int) = d := by rw [wU, wrapU (by omega)]
 have e1 : wI ((i : Int) + 1) = ((i + 1 : Nat) : Int) := by rw [wI, wrapI (by omega)]; omega
 refine internal_strconv_ParseUint_j62_step _ _ _ _ _ _ _ _ _ _ _ ?_
 rw [eb, wb, wd, maxU, e1]
 have hmul : n < cut -> n * b < 18446744073709551616 := by rcases hb with ⟨rfl, rfl⟩ | ⟨rfl, rfl⟩ <;> omega
 have hcut : cut <= n -> 18446744073709551616 <= n * b := by rcases hb with ⟨rfl, rfl⟩ | ⟨rfl, rfl⟩ <;> omega
 refine ⟨fun h => ?_, fun h => ⟨fun h2 => ?_, fun h2 => ?_⟩⟩
 ·rw [k1 (by have := of_decide_eq_true h; omega)]; rfl
 ·have hk : ¬ b <= d := by have := of_decide_eq_false h; omega
  have h2 := hcut (by have := of_decide_eq_true h2; omega)
  rw [k2 hk (by omega)]; rfl
 ·have hk : ¬ b <= d := by have := of_decide_eq_false h; omega
  have h2 := hmul (by have := of_decide_eq_false h2; omega)
  have wm : wU ((n : Int) * (b : Int)) = ((n * b : Nat) : Int) := by rw [wU, wrapU (by rw [← Int.natCast_mul]; omega)]; exact (Int.natCast_mul n b).symm
  rw [wm]
  by_cases hov : 18446744073709551616 <= n * b + d
  ·have ws : wU (((n * b : Nat) : Int) + (d : Int)) = ((n * b + d - 18446744073709551616 : Nat) : Int) := by
    rw [wU]; simp [IntKind.wrap, IntKind.signed, IntKind.bits]; omega
   rw [ws]
   refine ⟨fun _ => by rw [k2 hk hov]; rfl, fun q => ?_⟩
   simp only [Bool.or_eq_false_iff, decide_eq_false_iff_not] at q
   omega
  ·have ws : wU (((n * b : Nat) : Int) + (d : Int)) = ((n * b + d : Nat) : Int) := by rw [wU, wrapU (by omega)]; omega
   rw [ws]
   refine ⟨fun q => ?_, fun _ => k3 hk hov⟩
   simp only [Bool.or_eq_true, decide_eq_true_eq] at q
   omega
theorem pu_j (s s0 : ByteArray) (hs : s.size <= 1073741824) (b cut : Nat) (hb : b = 10 /\ cut = 1844674407370955162 ∨ b = 16 /\ cut = 1152921504606846976) : ∀ (m i n : Nat), s.size - i = m -> i <= s.size -> n < 18446744073709551616 -> internal_strconv_ParseUint_j60 i s n false 64 cut s0 b b (((puV b ((bs s).drop i) n).1 : Int), errG (puV b ((bs s).drop i) n).2) := by
 have hlen : ((bI s).length : Int) = s.size := by rw [bI_bs, iL_len, bs_len]
 intro m
 induction m with
 | zero =>
  intro i n h1 h2 h3
  refine internal_strconv_ParseUint_j60_step _ _ _ _ _ _ _ _ _ _ ⟨fun h => absurd (of_decide_eq_true h) (by omega), fun _ => ⟨fun z => z = false, fun z hz => ⟨fun h => (by rw [hz] at h; cases h), fun _ => ?_⟩, fun h => (by cases h), fun _ => rfl⟩⟩
  rw [bs_end s i (by omega)]; rfl
 | succ m ih =>
  intro i n h1 h2 h3
  have hi : i < s.size := by omega
  have bl := (byteN_eq s i).2
  have hb0 : ((b : Int) == 0) = false := by rcases hb with ⟨rfl, _⟩ | ⟨rfl, _⟩ <;> rfl
  refine internal_strconv_ParseUint_j60_step _ _ _ _ _ _ _ _ _ _ ⟨fun _ => ⟨_, bI_at s i hi, by omega, ?_⟩, fun h => absurd (of_decide_eq_false h) (by omega)⟩
  dsimp only
  rw [hb0, Bool.and_false, bs_drop s i hi]
  refine ⟨fun h => (by cases h), fun _ => ?_⟩
  generalize byteN s i = c at *
  have go : ∀ d : Nat, d < 40 -> dgU c = some d -> internal_strconv_ParseUint_j62 d i s n false 64 cut s0 b b (((puV b (c :: (bs s).drop (i + 1)) n).1 : Int), errG (puV b (c :: (bs s).drop (i + 1)) n).2) := by
   intro d hd he
   rw [puV_cons, he]
   simp only
   refine pu_j62 s s0 b cut hb i d n hi hs hd h3 _ (fun q => by rw [if_pos q]) (fun q q2 => by rw [if_neg q, if_pos q2]) (fun q q2 => ?_)
   rw [if_neg q, if_neg q2]
   exact ih (i + 1) _ (by omega) (by omega) (by omega)
  refine ⟨fun h => ?_, fun h => ?_⟩
  ·have hc : 48 <= c /\ c <= 57 := by simp only [Bool.and_eq_true, decide_eq_true_eq] at h; omega
   have ew : IntKind.u8.wrap ((c : Int) - 48) = ((c - 48 : Nat) : Int) := by simp [IntKind.wrap, IntKind.signed, IntKind.bits]; omega
   rw [ew]
   exact go _ (by omega) (by rw [dgU, if_pos hc])
  ·have hc : ¬ (48 <= c /\ c <= 57) := by intro q; simp only [Bool.and_eq_false_iff, decide_eq_false_iff_not] at h; omega
   have hl := low_lt c bl
   refine ⟨_, lower_is c bl, fun z => z = decide (97 <= c ||| 32 /\ c ||| 32 <= 122), fun z hz => ⟨fun q => ⟨_, lower_is c bl, ?_⟩, fun q => ?_⟩, fun q => ⟨_, lower_is c bl, ?_⟩, fun q => ?_⟩
   ·rw [hz] at q
    have q := of_decide_eq_true q
    have ew : ∀ k : Nat, 97 <= k /\ k <= 122 -> IntKind.u8.wrap (IntKind.u8.wrap ((k : Int) - 97) + 10) = ((k - 87 : Nat) : Int) := by
     intro k hk
     rw [show IntKind.u8.wrap ((k : Int) - 97) = ((k - 97 : Nat) : Int) by simp [IntKind.wrap, IntKind.signed, IntKind.bits]; omega]
     simp [IntKind.wrap, IntKind.signed, IntKind.bits]; omega
    rw [ew _ q]
    exact go _ (by omega) (by rw [dgU, if_neg hc, if_pos q])
   ·rw [hz] at q
    have q := of_decide_eq_false q
    rw [puV_cons, dgU, if_neg hc, if_neg q]; rfl
   ·show decide _ = decide _
    have := of_decide_eq_true q
    congr 1; simp only [eq_iff_iff]; omega
   ·show false = decide _
    have := of_decide_eq_false q
    rw [eq_comm, decide_eq_false_iff_not]; omega
def puS (b : Nat) (s : ByteArray) : Nat × Nat := if s.size = 0 then (0, 2) else puV b (bs s) 0
theorem puS_ok (b : Nat) (s : ByteArray) : (puS b s).1 < 18446744073709551616 /\ (puS b s).2 <= 2 := by
 unfold puS
 split
 ·simp
 ·exact puV_ok b _ _ (by omega)
theorem pui_is (s : ByteArray) (hs : s.size <= 1073741824) (b : Nat) (hb : b = 10 ∨ b = 16) : internal_strconv_ParseUint s b 64 (((puS b s).1 : Int), errG (puS b s).2) := by
 refine internal_strconv_ParseUint_step _ _ _ _ ⟨fun h => ?_, fun h => ⟨fun _ => ?_, fun h2 => ?_⟩⟩
 ·rw [puS, if_pos ((size_zero s).1 (of_decide_eq_true h))]; rfl
 ·have h0 : ¬ s.size = 0 := fun q => of_decide_eq_false h ((size_zero s).2 q)
  rw [puS, if_neg h0]
  refine internal_strconv_ParseUint_j32_step _ _ _ _ _ _ ⟨fun q => (by cases q), fun _ => ⟨fun q => (by cases q), fun _ => ?_⟩⟩
  rcases hb with rfl | rfl
  ·refine internal_strconv_ParseUint_j48_step _ _ _ _ _ _ ⟨fun _ => ?_, fun q => (by cases q)⟩
   exact internal_strconv_ParseUint_j56_step _ _ _ _ _ _ _ ⟨by decide, pu_j s s hs 10 _ (.inl ⟨rfl, rfl⟩) _ 0 0 rfl (by omega) (by omega)⟩
  ·refine internal_strconv_ParseUint_j48_step _ _ _ _ _ _ ⟨fun q => (by cases q), fun _ => ⟨fun _ => ?_, fun q => (by cases q)⟩⟩
   exact internal_strconv_ParseUint_j56_step _ _ _ _ _ _ _ ⟨by decide, pu_j s s hs 16 _ (.inr ⟨rfl, rfl⟩) _ 0 0 rfl (by omega) (by omega)⟩
 ·rcases hb with rfl | rfl <;> cases h2
theorem calls_n {P : Program} {f : FuncId} {args : List AV} {cargs : Array Value} {W : World} {r : AV} (hf : PureN P [] f args r) (hr : Rels (bare W nowhere) args cargs.toList) :
  Calls P f cargs W fun e W' => ∃ x, e = .returned x /\ Rel (bare W' nowhere) r x /\ Below W.heap.size W W' :=
 (hf.2 W nowhere cargs (fun b o h => h.elim) (fun g cells h => by cases h) hr).mono fun e W' ⟨av, x, he, hp, hrel, hav⟩ => ⟨x, he, hav ▸ hrel.nz, hp.below⟩
theorem rels_cons {σ : Sg} {a : AV} {x : Value} {l : List AV} {xs : List Value} (h : Rel σ a x) (hr : Rels σ l xs) : Rels σ (a :: l) (x :: xs) := by
 refine ⟨by simpa using hr.1, fun i av hi => ?_⟩
 cases i with
 | zero => simp at hi; subst hi; exact ⟨x, rfl, h⟩
 | succ i => exact hr.2 i av (by simpa using hi)
theorem rels_nil {σ : Sg} : Rels σ [] [] := ⟨rfl, fun i av h => by simp at h⟩
theorem rel_pair {σ : Sg} {a b : AV} {x : Value} (h : Rel σ (.tuple [a, b]) x) : ∃ y z, x = .tuple #[y, z] /\ Rel σ a y /\ Rel σ b z := by
 cases h with
 | tuple _ xs hn x hx hr =>
  refine ⟨x 0, x 1, ?_, hr 0 a rfl, hr 1 b rfl⟩
  congr 1
  apply Array.ext
  ·simpa using hn
  ·intro i h1 h2
   match i, h1 with
   | 0, h1 => have := hx 0 a rfl; rw [Array.getElem?_eq_getElem h1] at this; simpa using Option.some.inj this
   | 1, h1 => have := hx 1 b rfl; rw [Array.getElem?_eq_getElem h1] at this; simpa using Option.some.inj this
   | i + 2, h1 => rw [hn] at h1; simp only [List.length_cons, List.length_nil] at h1; omega
def errW (k : Nat) : Value := if k = 0 then .nilIface else .iface 261 (.int .i64 k)
theorem pui_c (s : ByteArray) (hs : s.size <= 1073741824) (b : Nat) (hb : b = 10 ∨ b = 16) (w : World) : Calls Tryz.prog 197 #[.string s, .int .i64 b, .int .i64 64] w fun e w' => e = .returned (.tuple #[.int .u64 (puS b s).1, errW (puS b s).2]) /\ Below w.heap.size w w' := by
 refine (calls_n (W := w) (cargs := #[.string s, .int .i64 b, .int .i64 64]) (pui_is s hs b hb) (rels_cons (.v _ rfl) (rels_cons (.v _ rfl) (rels_cons (.v _ rfl) rels_nil)))).mono fun e w' ⟨x, he, hr, hb'⟩ => ⟨?_, hb'⟩
 obtain ⟨y, z, rfl, h1, h2⟩ := rel_pair hr
 rw [he]
 have e1 : y = .int .u64 (puS b s).1 := by cases h1; rfl
 have e2 : z = errW (puS b s).2 := by
  revert h2
  generalize (puS b s).2 = k
  cases k with
  | zero => intro h2; cases h2; rfl
  | succ k => intro h2; cases h2 with
   | iface _ _ x h3 => cases h3; rfl
 rw [e1, e2]
theorem glob_if {w : World} {outer : Nat -> Nat -> Prop} {gl : List (Nat × List AV)} (hg : Globs w outer gl) {g : Nat} {t : TypeId} (hm : (g, [.iface t (.elt [] 0)]) ∈ gl) : ∃ pe, w.cell? ⟨g, 0, none⟩ = some (.iface t pe) := by
 have h := hg g _ hm
 cases h with
 | elt _ _ _ _ xs hc hr =>
  obtain ⟨h1, _, _⟩ := hc 0 _ rfl
  have h2 := hr 0 _ rfl
  simp only [Nat.add_zero] at h1
  generalize xs 0 = z at *
  cases h2 with
  | iface _ _ x h3 => exact ⟨x, h1⟩
theorem cell_below {g : Nat} {x : Value} {w w' : World} (h : w.cell? ⟨g, 0, none⟩ = some x) (hb : Below w.heap.size w w') : w'.cell? ⟨g, 0, none⟩ = some x := by
 have hlt : g < w.heap.size := by
  rcases Nat.lt_or_ge g w.heap.size with h' | h'
  ·exact h'
  ·simp [World.cell?, Array.getElem?_eq_none h'] at h
 have h2 := hb.block g hlt
 simp only [World.cell?] at h ⊢
 rw [h2]; exact h
def errP : GAny := .other ⟨263, .elt [] 0, rfl, by decide⟩
def errE (k : Nat) : GAny := if k = 0 then .nil else errP
theorem pubu_c (s : ByteArray) (hs : s.size <= 1073741824) (b : Nat) (hb : b = 10 ∨ b = 16) (w : World) {t2 t3 : TypeId} {p2 p3 : Value} (h2 : w.cell? ⟨2, 0, none⟩ = some (.iface t2 p2)) (h3 : w.cell? ⟨3, 0, none⟩ = some (.iface t3 p3)) :
  Calls Tryz.prog 145 #[.string s, .int .i64 b, .int .i64 64] w fun e w' => ∃ x, e = .returned (.tuple #[.int .u64 (puS b s).1, x]) /\ ((puS b s).2 = 0 /\ x = .nilIface ∨ (puS b s).2 ≠ 0 /\ ∃ N, x = .iface 263 (.pointer (some ⟨N, 0, none⟩))) /\ Below w.heap.size w w' := by
 have hk := (puS_ok b s).2
 go_enter Tryz.func145, Tryz.ntmps145
 go_wp2_with (go_at_call 197; refine (pui_c s hs b hb _).mono ?_)
 rintro e w' ⟨rfl, hb1⟩
 have hb1 := Lib.hid hb1
 have k2 := cell_below h2 hb1.out
 have k3 := cell_below h3 hb1.out
 generalize hq : puS b s = q at *
 obtain ⟨u, k⟩ := q
 simp only at hk
 rcases (by omega : k = 0 ∨ k = 1 ∨ k = 2) with rfl | rfl | rfl
 ·simp only [errW, if_pos]
  go_wp2_with fail
  go_ret2
  exact ⟨_, by rw [hq]; rfl, .inl ⟨by rw [hq], rfl⟩, hb1.out⟩
 ·have e1 : errW 1 = .iface 261 (.int .i64 1) := rfl
  rw [e1]
  go_wp2_with (go_at_call 198; refine (Tryz.strconv_toError_range _ s b 64 _ _ (by omega) k3 (.inr ⟨_, _, rfl⟩)).mono ?_)
  rintro e w2 ⟨N, rfl, _, _, hb2⟩
  go_wp2_with fail
  go_ret2
  exact ⟨_, by rw [hq]; rfl, .inr ⟨by rw [hq]; simp, _, rfl⟩, hb1.out.trans (hb2.mono hb1.out.size)⟩
 ·have e1 : errW 2 = .iface 261 (.int .i64 2) := rfl
  rw [e1]
  go_wp2_with (go_at_call 198; refine (Tryz.strconv_toError_syntax _ s b 64 _ _ (by omega) k2 (.inr ⟨_, _, rfl⟩)).mono ?_)
  rintro e w2 ⟨N, rfl, _, _, hb2⟩
  go_wp2_with fail
  go_ret2
  exact ⟨_, by rw [hq]; rfl, .inr ⟨by rw [hq]; simp, _, rfl⟩, hb1.out.trans (hb2.mono hb1.out.size)⟩
theorem err3_of {w : World} {outer : Nat -> Nat -> Prop} {mg : Int} (hg : Globs w outer (GLm mg)) : ∃ pe, w.cell? ⟨3, 0, none⟩ = some (.iface 307 pe) := glob_if hg (by simp only [GLm, List.mem_cons]; exact .inr (.inr (.inl trivial)))
theorem err2_of {w : World} {outer : Nat -> Nat -> Prop} {mg : Int} (hg : Globs w outer (GLm mg)) : ∃ pe, w.cell? ⟨2, 0, none⟩ = some (.iface 307 pe) := glob_if hg (by simp only [GLm, List.mem_cons]; exact .inr (.inr (.inr (.inl trivial))))
theorem rel_errP (σ : Sg) (N : Nat) : Rel σ (eAny errP) (.iface 263 (.pointer (some ⟨N, 0, none⟩))) := .iface _ _ _ (.elt [] 0 N 0 (fun _ => undef) (fun i av h => by simp at h) (fun i av h => by simp at h))
theorem rel_two {σ : Sg} {a b : AV} {x y : Value} (h : Rel σ a x) (k : Rel σ b y) : Rel σ (.tuple [a, b]) (.tuple #[x, y]) := h.pair k
theorem pubu_p (mg : Int) (s : ByteArray) (hs : s.size <= 1073741824) (b : Nat) (hb : b = 10 ∨ b = 16) : strconv_ParseUint mg s b 64 (((puS b s).1 : Int), errE (puS b s).2) := by
 refine ⟨⟨_, Tryz.func145, by kernel_rfl, by kernel_rfl⟩, fun w outer cargs ho hg hr => ?_⟩
 obtain ⟨r1, e1, h1⟩ := arg_v hr
 obtain ⟨r2, e2, h2⟩ := arg_v h1
 obtain ⟨r3, e3, h3⟩ := arg_v h2
 rw [e3, arg_0 h3] at e2
 rw [e2] at e1
 rw [arr_of e1]
 obtain ⟨p2, q2⟩ := err2_of hg
 obtain ⟨p3, q3⟩ := err3_of hg
 refine (pubu_c s hs b hb w q2 q3).mono fun e w' ⟨x, he, hx, hb'⟩ => ?_
 rcases hx with ⟨hk, rfl⟩ | ⟨hk, N, rfl⟩
 ·exact ⟨.tuple [.v (.int .u64 (puS b s).1), .v .nilIface], _, he, Past.of_below hb', rel_two (.v _ rfl) (.v _ rfl), by rw [errE, if_pos hk]; rfl⟩
 ·exact ⟨.tuple [.v (.int .u64 (puS b s).1), eAny errP], _, he, Past.of_below hb', rel_two (.v _ rfl) (rel_errP _ N), by rw [errE, if_neg hk]; rfl⟩
theorem below_bytes {w w' : World} {t : TypeId} (h : w' = w ∨ ∃ x, w' = Lib.bytesWorld w t x) : Below w.heap.size w w' := by
 rcases h with rfl | ⟨x, rfl⟩
 ·exact Below.refl _ _
 ·exact Lib.bytesWorld_below _ _ _
theorem pint_ok (mg : Int) (s : ByteArray) (hs : s.size <= 1073741824) (v : Int) (h : Lib.parseIntB 64 s.data.toList = .ok v) : strconv_ParseInt mg s 10 64 (v, .nil) := by
 refine ⟨⟨_, Tryz.func150, by kernel_rfl, by kernel_rfl⟩, fun w outer cargs ho hg hr => ?_⟩
 obtain ⟨r1, e1, h1⟩ := arg_v hr
 obtain ⟨r2, e2, h2⟩ := arg_v h1
 obtain ⟨r3, e3, h3⟩ := arg_v h2
 rw [e3, arg_0 h3] at e2
 rw [e2] at e1
 rw [arr_of e1]
 exact (Tryz.strconv_ParseInt_10_at64_ok s (by omega) v h w).mono fun e w' ⟨he, hb⟩ => ⟨.tuple [.v (.int .i64 v), .v .nilIface], _, he, Past.of_below (below_bytes hb), rel_two (.v _ rfl) (.v _ rfl), rfl⟩
theorem pint_range (mg : Int) (s : ByteArray) (hs : s.size <= 1073741824) (h : Lib.parseIntB 64 s.data.toList = .range) : ∃ v, strconv_ParseInt mg s 10 64 (v, errP) := by
 refine ⟨Lib.intSat 64 s.data.toList, ⟨_, Tryz.func150, by kernel_rfl, by kernel_rfl⟩, fun w outer cargs ho hg hr => ?_⟩
 obtain ⟨r1, e1, h1⟩ := arg_v hr
 obtain ⟨r2, e2, h2⟩ := arg_v h1
 obtain ⟨r3, e3, h3⟩ := arg_v h2
 rw [e3, arg_0 h3] at e2
 rw [e2] at e1
 rw [arr_of e1]
 obtain ⟨p3, q3⟩ := err3_of hg
 exact (Tryz.strconv_ParseInt_10_at64_range s (by omega) h _ w q3 (.inr ⟨_, _, rfl⟩)).mono fun e w' ⟨N, he, _, _, hb⟩ => ⟨.tuple [.v (.int .i64 _), eAny errP], _, he, Past.of_below hb, rel_two (.v _ rfl) (rel_errP _ N), rfl⟩
theorem bool_text (b : Bool) : strconv_FormatBool b (if b = true then ⟨#[116, 114, 117, 101]⟩ else ⟨#[102, 97, 108, 115, 101]⟩) := by
 refine strconv_FormatBool_step _ _ ⟨_, internal_strconv_FormatBool_step _ _ ⟨fun h => ?_, fun h => ?_⟩, rfl⟩
 ·rw [if_pos h]
 ·rw [if_neg (by rw [h]; decide)]
theorem wI_big (u : Nat) (h : 9223372036854775808 <= u) (h2 : u < 18446744073709551616) : wI (u : Int) = -((18446744073709551616 - u : Nat) : Int) := by
 simp only [wI, IntKind.wrap, IntKind.signed, IntKind.bits]
 simp
 omega
theorem wI_low (u : Nat) (h : u < 9223372036854775808) : wI (u : Int) = (u : Int) := by rw [wI, wrapI (by omega)]
theorem intT_big (u : Nat) (h : 9223372036854775808 <= u) (h2 : u < 18446744073709551616) : intT (wI (u : Int)) = ⟨#[45]⟩ ++ decB (18446744073709551616 - u) := by
 rw [wI_big u h h2, intT, Lib.itoa, if_pos (by omega)]
 rw [show (-((18446744073709551616 - u : Nat) : Int)).natAbs = 18446744073709551616 - u by omega]
 apply ByteArray.ext
 simp [ByteArray.data_append, decB]
theorem intT_low (u : Nat) (h : u < 9223372036854775808) : intT (wI (u : Int)) = decB u := by
 rw [wI_low u h, intT, Lib.itoa, if_neg (by omega)]
 simp [decB]
theorem fitsV_kind {k : Int} {v : GValue} (h : fitsV k v = true) : 1 <= k /\ k <= 9 /\ v.Kind = k := by
 unfold fitsV at h
 simp only [Bool.and_eq_true, decide_eq_true_eq] at h
 exact h.1.1
theorem txt_is (mg : Int) (v : GValue) (hv : OkV v) : scalar_Text mg v (txtV v) := by
 have eb : ((v.Bits.toNat : Nat) : Int) = v.Bits := by have := hv.b0; omega
 have hb : v.Bits.toNat < 18446744073709551616 := by have := hv.b1; omega
 refine scalar_Text_step _ _ _ ⟨_, fits_is _ v hv, fun h => ?_, fun h => ?_⟩
 ·unfold txtV; rw [if_pos (by simpa using h)]
 have hf : fitsV v.Kind v = true := by simpa using h
 have hs := fits_size hf
 have ff := fits_facts v hf
 unfold txtV; rw [if_neg (by rw [hf]; decide)]
 refine ⟨fun h1 => ⟨_, bool_text _, ?_⟩, fun h1 => ?_⟩
 ·rw [if_pos (by simpa using h1)]
  by_cases hb1 : v.Bits = 1
  ·rw [if_pos hb1, if_pos (by simpa using hb1)]
  ·rw [if_neg hb1, if_neg (by simpa using hb1)]
 have n1 : ¬ v.Kind = 1 := by simpa using h1
 rw [if_neg n1]
 have key : ∀ b, b = decide (v.Kind = 2 ∨ v.Kind = 3) -> scalar_Text_j2 b v mg (if v.Kind = 2 ∨ v.Kind = 3 then intT (wI v.Bits) else if v.Kind = 6 then doubT v.Bits.toNat else if v.Kind = 7 then quoteV v.Text else if v.Kind = 8 then ⟨#[120]⟩ ++ quoteV (hexV v.Text) else decB v.Bits.toNat) := by
  intro b hb2
  refine scalar_Text_j2_step _ _ _ _ ⟨fun h2 => ?_, fun h2 => ?_⟩
  ·rw [hb2] at h2
   rw [if_pos (of_decide_eq_true h2)]
   refine ⟨_, itoa_p mg _ ?_ ?_, rfl⟩
   all_goals (rw [← eb]; rcases Nat.lt_or_ge v.Bits.toNat 9223372036854775808 with q | q)
   ·rw [wI_low _ q]; omega
   ·rw [wI_big _ q hb]; omega
   ·rw [wI_low _ q]; omega
   ·rw [wI_big _ q hb]; omega
  rw [hb2] at h2
  rw [if_neg (of_decide_eq_false h2)]
  refine ⟨fun h3 => ⟨doubT v.Bits.toNat, ?_, ?_⟩, fun h3 => ?_⟩
  ·have := double_is mg v.Bits.toNat hb
   rwa [eb] at this
  ·rw [if_pos (by simpa using h3)]
  rw [if_neg (by simpa using h3)]
  refine ⟨fun h4 => ⟨_, quote_is _ (by omega), ?_⟩, fun h4 => ?_⟩
  ·rw [if_pos (by simpa using h4)]
  rw [if_neg (by simpa using h4)]
  refine ⟨fun h5 => ⟨_, hex_is _ (by omega), _, quote_is _ (by rw [hexV_size]; omega), ?_, ?_⟩, fun h5 => ?_⟩
  ·have := quoteV_size (hexV v.Text)
   rw [hexV_size] at this
   rw [show (⟨#[120]⟩ : ByteArray).size = 1 from rfl]; omega
  ·rw [if_pos (by simpa using h5)]
  rw [if_neg (by simpa using h5)]
  refine ⟨decB v.Bits.toNat, ?_, rfl⟩
  have := fu10_p mg v.Bits.toNat hb
  rwa [eb] at this
 refine ⟨fun h2 => key _ ?_, fun h2 => key _ ?_⟩
 ·rw [h2]; have : v.Kind = 2 := by simpa using h2
  simp [this]
 ·have : ¬ v.Kind = 2 := by simpa using h2
  rw [Bool.eq_iff_iff]; simp [this]
theorem rtxt_is (v : GValue) (hv : OkV v) : ref04_Text v (txtV v) := by
 have eb : ((v.Bits.toNat : Nat) : Int) = v.Bits := by have := hv.b0; omega
 have hb : v.Bits.toNat < 18446744073709551616 := by have := hv.b1; omega
 have b0 := hv.b0
 refine ref04_Text_step _ _ ⟨_, rfits_is _ v hv, fun h => ?_, fun h => ?_⟩
 ·unfold txtV; rw [if_pos (by simpa using h)]
 have hf : fitsV v.Kind v = true := by simpa using h
 have hs := fits_size hf
 have ff := fits_facts v hf
 unfold txtV; rw [if_neg (by rw [hf]; decide)]
 refine ⟨fun h1 => ⟨fun h2 => ?_, fun h2 => ?_⟩, fun h1 => ?_⟩
 ·rw [if_pos (by simpa using h1), if_pos (by simpa using h2)]
 ·rw [if_pos (by simpa using h1), if_neg (by simpa using h2)]
 have n1 : ¬ v.Kind = 1 := by simpa using h1
 rw [if_neg n1]
 have key : ∀ b, b = decide (v.Kind = 2 ∨ v.Kind = 3) -> ref04_Text_j2 b v (if v.Kind = 2 ∨ v.Kind = 3 then intT (wI v.Bits) else if v.Kind = 6 then doubT v.Bits.toNat else if v.Kind = 7 then quoteV v.Text else if v.Kind = 8 then ⟨#[120]⟩ ++ quoteV (hexV v.Text) else decB v.Bits.toNat) := by
  intro b hb2
  have dd : ref04_decimal v.Bits (decB v.Bits.toNat) := by
   have := dec10_is v.Bits.toNat hb
   rwa [eb] at this
  refine ref04_Text_j2_step _ _ _ ⟨fun h2 => ⟨fun h3 => ⟨decB (18446744073709551616 - v.Bits.toNat), ?_, ?_, ?_⟩, fun h3 => ⟨_, dd, ?_⟩⟩, fun h2 => ?_⟩
  ·have h3 := of_decide_eq_true h3
   have e : wU (0 - v.Bits) = ((18446744073709551616 - v.Bits.toNat : Nat) : Int) := by
    rw [← eb]; simp only [wU, IntKind.wrap, IntKind.signed, IntKind.bits]; simp; omega
   rw [e]
   exact dec10_is _ (by omega)
  ·have h3 := of_decide_eq_true h3
   have := decB_size (18446744073709551616 - v.Bits.toNat) (by omega)
   rw [show (⟨#[45]⟩ : ByteArray).size = 1 from rfl]; omega
  ·have h3 := of_decide_eq_true h3
   rw [hb2] at h2
   rw [if_pos (of_decide_eq_true h2)]
   have := intT_big v.Bits.toNat (by omega) hb
   rw [eb] at this
   rw [this]
  ·have h3 := of_decide_eq_false h3
   rw [hb2] at h2
   rw [if_pos (of_decide_eq_true h2)]
   have := intT_low v.Bits.toNat (by omega)
   rw [eb] at this
   rw [this]
  rw [hb2] at h2
  rw [if_neg (of_decide_eq_false h2)]
  refine ⟨fun h3 => ?_, fun h3 => ?_⟩
  ·rw [if_pos (by simpa using h3)]
   have cc := rclass_is v.Bits.toNat hb
   rw [eb] at cc
   unfold doubT
   have c0 : (((clsS v.Bits.toNat : Nat) : Int) == 0) = decide (clsS v.Bits.toNat = 0) := int_eqN _ 0
   have c1 : (((clsS v.Bits.toNat : Nat) : Int) == 1) = decide (clsS v.Bits.toNat = 1) := int_eqN _ 1
   refine ⟨_, cc, ?_⟩
   rw [c0, c1]
   refine ⟨fun h4 => by rw [if_pos (of_decide_eq_true h4)], fun h4 => ?_⟩
   rw [if_neg (of_decide_eq_false h4)]
   refine ⟨fun h5 => ?_, fun h5 => ⟨hex16 v.Bits.toNat, ?_, ?_, ?_⟩⟩
   ·rw [if_pos (of_decide_eq_true h5)]
    refine ⟨fun h6 => ?_, fun h6 => ?_⟩
    ·have h6 := of_decide_eq_true h6; rw [if_pos (by omega)]
    ·have h6 := of_decide_eq_false h6; rw [if_neg (by omega)]
   ·have := rhex16_is v.Bits.toNat hb
    rwa [eb] at this
   ·rw [hex16_size, show (⟨#[48, 120]⟩ : ByteArray).size = 2 from rfl]; omega
   ·rw [if_neg (of_decide_eq_false h5)]
  rw [if_neg (by simpa using h3)]
  refine ⟨fun h4 => ⟨_, rquote_is _ (by omega), ?_⟩, fun h4 => ?_⟩
  ·rw [if_pos (by simpa using h4)]
  rw [if_neg (by simpa using h4)]
  refine ⟨fun h5 => ⟨_, rhex_is _ (by omega), _, rquote_is _ (by rw [hexV_size]; omega), ?_, ?_⟩, fun h5 => ?_⟩
  ·have := quoteV_size (hexV v.Text)
   rw [hexV_size] at this
   rw [show (⟨#[120]⟩ : ByteArray).size = 1 from rfl]; omega
  ·rw [if_pos (by simpa using h5)]
  rw [if_neg (by simpa using h5)]
  exact ⟨_, dd, rfl⟩
 refine ⟨fun h2 => key _ ?_, fun h2 => key _ ?_⟩
 ·rw [h2]; have : v.Kind = 2 := by simpa using h2
  simp [this]
 ·have : ¬ v.Kind = 2 := by simpa using h2
  rw [Bool.eq_iff_iff]; simp [this]
theorem txtV_size (v : GValue) (hv : OkV v) : (txtV v).size <= 32771 := by
 have hb : v.Bits.toNat < 18446744073709551616 := by have := hv.b1; omega
 have eb : ((v.Bits.toNat : Nat) : Int) = v.Bits := by have := hv.b0; omega
 have z : ∀ (a : UInt8) (s : ByteArray), ((⟨#[a]⟩ : ByteArray) ++ s).size = 1 + s.size := fun a s => by rw [ba_size]; rfl
 have dz := decB_size v.Bits.toNat hb
 unfold txtV
 split
 ·decide
 rename_i hf
 have hf : fitsV v.Kind v = true := by simpa using hf
 have hs := fits_size hf
 split
 ·split <;> decide
 split
 ·rw [← eb]
  rcases Nat.lt_or_ge v.Bits.toNat 9223372036854775808 with q | q
  ·rw [intT_low _ q]; omega
  ·rw [intT_big _ q hb, z]
   have := decB_size (18446744073709551616 - v.Bits.toNat) (by omega)
   omega
 split
 ·unfold doubT
  split
  ·decide
  split
  ·split <;> decide
  ·rw [ba_size, hex16_size]; decide
 split
 ·have := quoteV_size v.Text; omega
 split
 ·rw [z]
  have := quoteV_size (hexV v.Text)
  rw [hexV_size] at this
  omega
 ·omega
def itemV (num : Int) : List GItem -> GItem × Bool
 | [] => (⟨⟨#[]⟩, 0, []⟩, false)
 | i :: l => if (decide (0 <= i.Num) && (wU i.Num == num)) = true then (i, true) else itemV num l
def itemsOf (p : GPlan) (t : Int) : List GItem := if t < 0 ∨ (p.Enums.length : Int) <= t then [] else ((p.Enums[t.toNat]?).map (·.Items)).getD []
theorem itemV_mem (num : Int) : ∀ {l : List GItem}, (itemV num l).2 = true -> (itemV num l).1 ∈ l
 | [], h => by cases h
 | i :: l, h => by
  unfold itemV at h ⊢
  split
  ·exact List.mem_cons_self
  ·rename_i q
   rw [if_neg q] at h
   exact List.mem_cons_of_mem _ (itemV_mem num h)
theorem item_j (e : GEnum) (he : e.Items.length <= 140737488351232) (num : Int) : ∀ d i : Nat, e.Items.length - i = d -> i <= e.Items.length -> textform_itemOf_j2 i e num (itemV num (e.Items.drop i)) := by
 intro d
 induction d with
 | zero =>
  intro i hd hi
  rw [List.drop_eq_nil_of_le (by omega)]
  exact textform_itemOf_j2_step _ _ _ _ ⟨fun h => absurd (of_decide_eq_true h) (by omega), fun _ => rfl⟩
 | succ d ih =>
  intro i hd hi
  have hlt : i < e.Items.length := by omega
  have e1 : wI ((i : Int) + 1) = ((i + 1 : Nat) : Int) := by rw [wI, wrapI (by omega)]; omega
  rw [List.drop_eq_getElem_cons hlt, itemV]
  refine textform_itemOf_j2_step _ _ _ _ ⟨fun _ => ⟨e.Items[i], by simp, by omega, fun h => by rw [if_pos h], fun h => ?_⟩, fun h => absurd (of_decide_eq_false h) (by omega)⟩
  rw [if_neg (by rw [h]; decide), e1]
  exact ih (i + 1) (by omega) (by omega)
theorem itemOf_is (p : GPlan) (hi : ∀ g ∈ p.Enums, g.Items.length <= 140737488351232) (t num : Int) : textform_itemOf p t num (itemV num (itemsOf p t)) := by
 refine textform_itemOf_step _ _ _ _ ⟨fun h => ?_, fun h => ?_⟩
 ·have : t < 0 ∨ (p.Enums.length : Int) <= t := by simpa using h
  rw [itemsOf, if_pos this]; rfl
 ·have h0 : ¬ (t < 0 ∨ (p.Enums.length : Int) <= t) := by simp at h; omega
  have hlt : t.toNat < p.Enums.length := by omega
  rw [itemsOf, if_neg h0, List.getElem?_eq_getElem hlt]
  refine ⟨_, List.getElem?_eq_getElem hlt, by omega, ?_⟩
  have := item_j _ (hi _ (List.getElem_mem hlt)) num _ 0 rfl (Nat.zero_le _)
  simpa using this
theorem ritem_j (e : GEnum) (he : e.Items.length <= 140737488351232) (num : Int) : ∀ d i : Nat, e.Items.length - i = d -> i <= e.Items.length -> ref33_item_j2 i num e ((itemV num (e.Items.drop i)).1.Name, (itemV num (e.Items.drop i)).2) := by
 intro d
 induction d with
 | zero =>
  intro i hd hi
  rw [List.drop_eq_nil_of_le (by omega)]
  exact ref33_item_j2_step _ _ _ _ ⟨fun h => absurd (of_decide_eq_true h) (by omega), fun _ => rfl⟩
 | succ d ih =>
  intro i hd hi
  have hlt : i < e.Items.length := by omega
  have e1 : wI ((i : Int) + 1) = ((i + 1 : Nat) : Int) := by rw [wI, wrapI (by omega)]; omega
  rw [List.drop_eq_getElem_cons hlt, itemV]
  refine ref33_item_j2_step _ _ _ _ ⟨fun _ => ⟨e.Items[i], by simp, by omega, fun b => b = (decide (0 <= e.Items[i].Num) && (wU e.Items[i].Num == num)), fun b hb => ⟨fun h => ⟨e.Items[i], by simp, by omega, ?_⟩, fun h => ?_⟩, fun h => ⟨e.Items[i], by simp, by omega, by rw [h, Bool.true_and]⟩, fun h => by rw [h, Bool.false_and]⟩, fun h => absurd (of_decide_eq_false h) (by omega)⟩
  ·rw [if_pos (by rw [← hb]; exact h)]
  ·rw [if_neg (by rw [← hb, h]; decide), e1]
   exact ih (i + 1) (by omega) (by omega)
theorem ritem_is (e : GEnum) (he : e.Items.length <= 140737488351232) (num : Int) : ref33_item e num ((itemV num e.Items).1.Name, (itemV num e.Items).2) := by
 have := ritem_j e he num _ 0 rfl (Nat.zero_le _)
 exact ref33_item_step _ _ _ (by simpa using this)
theorem renum_is (p : GPlan) (hi : ∀ g ∈ p.Enums, g.Items.length <= 140737488351232) (o : GOp) : ∃ y, ref33_enum p o y /\ y.1.Items = itemsOf p o.Target /\ y.1.Items.length <= 140737488351232 := by
 by_cases h : o.Target < 0 ∨ (p.Enums.length : Int) <= o.Target
 ·have hb : ((decide (o.Target < 0)) || (decide ((p.Enums.length : Int) <= o.Target))) = true := by simpa using h
  exact ⟨_, ref33_enum_step _ _ _ ⟨fun _ => rfl, fun h2 => (by rw [hb] at h2; cases h2)⟩, by rw [itemsOf, if_pos h], by simp⟩
 ·have hb : ((decide (o.Target < 0)) || (decide ((p.Enums.length : Int) <= o.Target))) = false := by simp; omega
  have hlt : o.Target.toNat < p.Enums.length := by omega
  refine ⟨(p.Enums[o.Target.toNat], true), ref33_enum_step _ _ _ ⟨fun h2 => (by rw [hb] at h2; cases h2), fun _ => ⟨_, List.getElem?_eq_getElem hlt, by omega, rfl⟩⟩, ?_, hi _ (List.getElem_mem hlt)⟩
  rw [itemsOf, if_neg h, List.getElem?_eq_getElem hlt]; rfl
def scalT (p : GPlan) (o : GOp) (v : GValue) : ByteArray :=
 if fitsV o.Kind v = false then ⟨#[]⟩ else if o.Kind ≠ 9 then txtV v else if (itemV v.Bits (itemsOf p o.Target)).2 = true then (itemV v.Bits (itemsOf p o.Target)).1.Name else ⟨#[35]⟩ ++ txtV v
theorem scalT_is (mg : Int) (p : GPlan) (hi : ∀ g ∈ p.Enums, g.Items.length <= 140737488351232) (o : GOp) (v : GValue) (hv : OkV v) : textform_Scalar mg p o v (scalT p o v) := by
 refine textform_Scalar_step _ _ _ _ _ ⟨_, scalar_Is_step _ _ rfl, fun b => b = !(fitsV o.Kind v), fun b hb => ⟨fun h => ?_, fun h => ⟨fun h2 => ⟨_, txt_is mg v hv, ?_⟩, fun h2 => ⟨_, itemOf_is p hi _ _, fun h3 => ?_, fun h3 => ⟨_, txt_is mg v hv, ?_, ?_⟩⟩⟩⟩, fun h => ?_, fun h => ⟨_, fits_is _ v hv, rfl⟩⟩
 ·rw [scalT, if_pos (by rw [h] at hb; simpa using hb.symm)]
 ·rw [scalT, if_neg (by rw [h] at hb; simpa using hb), if_pos (by simpa using h2)]
 ·rw [scalT, if_neg (by rw [h] at hb; simpa using hb), if_neg (by simpa using h2), if_pos h3]
 ·have := txtV_size v hv
  rw [show (⟨#[35]⟩ : ByteArray).size = 1 from rfl]; omega
 ·rw [scalT, if_neg (by rw [h] at hb; simpa using hb), if_neg (by simpa using h2), if_neg (by rw [h3]; decide)]
 ·cases hq : fitsV o.Kind v with
  | false => rfl
  | true =>
   have := fitsV_kind hq
   simp at h
   omega
theorem rscalT_is (p : GPlan) (hi : ∀ g ∈ p.Enums, g.Items.length <= 140737488351232) (o : GOp) (v : GValue) (hv : OkV v) : ref33_Scalar p o v (scalT p o v) := by
 obtain ⟨y, hy, h5, h6⟩ := renum_is p hi o
 refine ref33_Scalar_step _ _ _ _ ⟨fun b => b = !(fitsV o.Kind v), fun b hb => ⟨fun h => ?_, fun h => ⟨fun h2 => ⟨_, rtxt_is v hv, ?_⟩, fun h2 => ⟨y, hy, _, ritem_is _ h6 _, fun h3 => ?_, fun h3 => ⟨_, rtxt_is v hv, ?_, ?_⟩⟩⟩⟩, fun h => ?_, fun h => ⟨_, rfits_is _ v hv, rfl⟩⟩
 ·rw [scalT, if_pos (by rw [h] at hb; simpa using hb.symm)]
 ·rw [scalT, if_neg (by rw [h] at hb; simpa using hb), if_pos (by simpa using h2)]
 ·rw [h5] at h3 ⊢
  rw [scalT, if_neg (by rw [h] at hb; simpa using hb), if_neg (by simpa using h2), if_pos h3]
 ·have := txtV_size v hv
  rw [show (⟨#[35]⟩ : ByteArray).size = 1 from rfl]; omega
 ·rw [h5] at h3
  rw [scalT, if_neg (by rw [h] at hb; simpa using hb), if_neg (by simpa using h2), if_neg (by rw [h3]; decide)]
 ·cases hq : fitsV o.Kind v with
  | false => rfl
  | true =>
   have := fitsV_kind hq
   simp at h
   omega
def nV0 : GValue := ⟨0, 0, ⟨#[]⟩, [], [], [], []⟩
def mkV (k b : Int) (t : ByteArray) : GValue := ⟨k, b, t, [], [], [], []⟩
theorem bs_neg {s : ByteArray} (h : negS s = true) : bs s = 45 :: bs (digS s) := by
 have h1 := of_decide_eq_true h
 have h2 := bs_drop s 0 h1.1
 rw [List.drop_zero, h1.2] at h2
 rw [h2, digS, if_pos h, bs_cut, List.take_of_length_le (by rw [bs_len]; exact Nat.le_refl _)]
theorem bs_pos {s : ByteArray} (h : negS s = false) : bs s = bs (digS s) := by rw [digS, if_neg (by rw [h]; decide)]
theorem dec_facts {s : ByteArray} (h : decQ s = true) : bs (digS s) ≠ [] /\ (bs (digS s)).all isD = true := by
 simp only [decQ, Bool.and_eq_true, decide_eq_true_eq] at h
 refine ⟨fun q => h.1.1 ?_, h.2⟩
 rw [← bs_len, q]; rfl
theorem pm_is : ∀ (l : List UInt8) (a : Nat), (l.map UInt8.toNat).all isD = true -> a < 18446744073709551616 -> Lib.parseUintM (2 ^ 64 - 1) a l = if 18446744073709551616 <= valD a (l.map UInt8.toNat) then .range else .ok (valD a (l.map UInt8.toNat))
 | [], a, _, h => by rw [if_neg (by show ¬ 18446744073709551616 <= a; omega)]; rfl
 | c :: r, a, hd, h => by
  rw [List.map_cons, List.all_cons, Bool.and_eq_true] at hd
  have hc : 48 <= c.toNat /\ c.toNat <= 57 := of_decide_eq_true hd.1
  have hle := valD_le (r.map UInt8.toNat) (10 * a + (c.toNat - 48))
  rw [List.map_cons, valD_cons, Lib.parseUintM, if_pos hc]
  by_cases h1 : 1844674407370955162 <= a
  ·rw [if_pos h1, if_pos (by omega)]
  ·rw [if_neg h1]
   by_cases h2 : 2 ^ 64 - 1 < a * 10 + (c.toNat - 48)
   ·rw [if_pos h2, if_pos (by omega)]
   ·rw [if_neg h2, pm_is r _ hd.2 (by omega), Nat.mul_comm a 10]
def vS (s : ByteArray) : Nat := valD 0 (bs (digS s))
theorem pint_is {s : ByteArray} (h : decQ s = true) : Lib.parseIntB 64 s.data.toList = if negS s = true then (if 9223372036854775808 < vS s then .range else .ok (-(vS s : Int))) else (if 9223372036854775808 <= vS s then .range else .ok (vS s : Int)) := by
 obtain ⟨hne, hd⟩ := dec_facts h
 have key : ∀ l : List UInt8, l.map UInt8.toNat = bs (digS s) -> Lib.parseUintB 64 l = if 18446744073709551616 <= vS s then .range else .ok (vS s) := by
  intro l hl
  have h0 : l ≠ [] := by rintro rfl; exact hne hl.symm
  rw [Lib.parseUintB, if_neg h0, pm_is l 0 (by rw [hl]; exact hd) (by omega), hl]; rfl
 cases hn : negS s with
 | true =>
  have hb := bs_neg hn
  rw [if_pos rfl]
  cases hl : s.data.toList with
  | nil => rw [bs, hl] at hb; cases hb
  | cons c r =>
   rw [bs, hl, List.map_cons] at hb
   simp only [List.cons.injEq] at hb
   unfold Lib.parseIntB
   simp only [hb.1, or_true, if_true]
   rw [key r hb.2]
   by_cases hv : 18446744073709551616 <= vS s
   ·rw [if_pos hv, if_pos (by omega)]
   ·rw [if_neg hv]
    simp only [not_true_eq_false, false_and, if_false, true_and]
 | false =>
  have hb := bs_pos hn
  rw [if_neg (by decide)]
  cases hl : s.data.toList with
  | nil => rw [bs, hl] at hb; exact absurd hb.symm hne
  | cons c r =>
   have hb' : (c :: r).map UInt8.toNat = bs (digS s) := by rw [← hl]; exact hb
   have hc : 48 <= c.toNat /\ c.toNat <= 57 := by
    rw [← hb', List.map_cons, List.all_cons, Bool.and_eq_true] at hd
    exact of_decide_eq_true hd.1
   have n1 : ¬ c.toNat = 43 := by omega
   have n2 : ¬ c.toNat = 45 := by omega
   unfold Lib.parseIntB
   simp only [n1, n2, or_false, if_false]
   rw [key _ hb']
   by_cases hv : 18446744073709551616 <= vS s
   ·rw [if_pos hv, if_pos (by omega)]
   ·rw [if_neg hv]
    simp only [not_false_eq_true, true_and, false_and, if_false]
theorem pu10 : ∀ (l : List Nat) (a : Nat), l.all isD = true -> a < 18446744073709551616 -> puV 10 l a = if 18446744073709551616 <= valD a l then (18446744073709551615, 1) else (valD a l, 0)
 | [], a, _, h => by rw [if_neg (by show ¬ 18446744073709551616 <= a; omega)]; rfl
 | c :: r, a, hd, h => by
  rw [List.all_cons, Bool.and_eq_true] at hd
  have hc : 48 <= c /\ c <= 57 := of_decide_eq_true hd.1
  have hle := valD_le r (10 * a + (c - 48))
  rw [puV_cons, dgU, if_pos hc, valD_cons]
  simp only
  rw [if_neg (by omega)]
  by_cases h2 : 18446744073709551616 <= a * 10 + (c - 48)
  ·rw [if_pos h2, if_pos (by omega)]
  ·rw [if_neg h2, pu10 r _ hd.2 (by omega), Nat.mul_comm a 10]
theorem pus_is {s : ByteArray} (h : decQ s = true) : puS 10 s = if negS s = true then (0, 2) else if 18446744073709551616 <= vS s then (18446744073709551615, 1) else (vS s, 0) := by
 obtain ⟨hne, hd⟩ := dec_facts h
 have h0 : ¬ s.size = 0 := by
  intro q
  have := digS_size s
  exact hne (List.eq_nil_of_length_eq_zero (by rw [bs_len]; omega))
 rw [puS, if_neg h0]
 cases hn : negS s with
 | true => rw [bs_neg hn, if_pos rfl]; rfl
 | false => rw [bs_pos hn, if_neg (by decide), pu10 _ 0 hd (by omega)]; rfl
def sgn (k : Int) : Bool := (k == 2) || (k == 3)
def bitsW (k : Int) (s : ByteArray) : Option Nat :=
 if negS s = true then (if sgn k = true /\ vS s <= 9223372036854775808 then some ((18446744073709551616 - vS s) % 18446744073709551616) else none)
 else if sgn k = true then (if vS s < 9223372036854775808 then some (vS s) else none) else if vS s < 18446744073709551616 then some (vS s) else none
def wholeV (k : Int) (s : ByteArray) : GValue × Int := if decQ s = true then (match bitsW k s with
  | none => (nV0, 6)
  | some b => if withinB k b = true then (mkV k b ⟨#[]⟩, 0) else (nV0, 6)) else (nV0, 2)
theorem wU_mns (v : Nat) (h : v <= 9223372036854775808) : wU (-(v : Int)) = (((18446744073709551616 - v) % 18446744073709551616 : Nat) : Int) := by
 rw [wU]; simp [IntKind.wrap, IntKind.signed, IntKind.bits]; omega
theorem number_is (mg k : Int) (s : ByteArray) (hs : s.size <= 1073741824) : scalar_number mg k s (wholeV k s) := by
 refine scalar_number_step _ _ _ _ ⟨_, decimal_is s hs, fun h => ?_, fun h => ?_⟩
 ·have h : decQ s = false := by simpa using h
  rw [wholeV, if_neg (by rw [h]; decide)]; rfl
 have h : decQ s = true := by simpa using h
 have hW : wholeV k s = (match bitsW k s with
  | none => (nV0, 6)
  | some b => if withinB k b = true then (mkV k b ⟨#[]⟩, 0) else (nV0, 6)) := by rw [wholeV, if_pos h]
 have tail : ∀ (n : Int) (e : GAny), (nilB false e = true -> bitsW k s = none) -> (nilB false e = false -> bitsW k s = some n.toNat /\ 0 <= n) ->
   JN (fun bz : Bool => IF bz (wholeV k s = ((⟨0, 0, ⟨#[]⟩, [], [], [], []⟩ : GValue), 6)) (wholeV k s = ((⟨k, n, ⟨#[]⟩, [], [], [], []⟩ : GValue), 0))) fun R => IF (nilB false e) (R true) (∃ y, scalar_within k n y /\ (R (!y))) := by
  intro n e h1 h2
  refine ⟨fun z => z = (nilB false e || !(withinB k n)), fun z hz => ⟨fun q => ?_, fun q => ?_⟩, fun q => by show true = _; rw [q]; rfl, fun q => ⟨_, within_is k n, by show _ = _; rw [q]; rfl⟩⟩
  ·rw [hW]
   cases he : nilB false e with
   | true => rw [h1 he]; rfl
   | false =>
    obtain ⟨h3, h4⟩ := h2 he
    rw [h3]
    simp only
    rw [Int.toNat_of_nonneg h4, if_neg]
    ·rfl
    ·rw [he, Bool.false_or] at hz
     rw [hz] at q
     simpa using q
  ·rw [hW]
   rw [hz] at q
   simp only [Bool.or_eq_false_iff, Bool.not_eq_false'] at q
   obtain ⟨h3, h4⟩ := h2 q.1
   rw [h3]
   simp only
   rw [Int.toNat_of_nonneg h4, if_pos q.2]
   rfl
 have hp := pint_is h
 have hu := pus_is h
 refine ⟨fun hk => ?_, fun hk => ?_⟩
 ·have hk' : sgn k = true := hk
  cases hn : negS s with
  | true =>
   rw [if_pos hn] at hp
   by_cases hv : 9223372036854775808 < vS s
   ·rw [if_pos hv] at hp
    obtain ⟨v, hq⟩ := pint_range mg s hs hp
    exact ⟨_, hq, tail _ _ (fun _ => by rw [bitsW, if_pos hn, if_neg (by omega)]) (fun q => by cases q)⟩
   ·rw [if_neg hv] at hp
    refine ⟨_, pint_ok mg s hs _ hp, tail _ _ (fun q => by cases q) (fun _ => ?_)⟩
    simp only
    rw [wU_mns _ (by omega), bitsW, if_pos hn, if_pos ⟨hk', by omega⟩]
    exact ⟨by rw [Int.toNat_natCast], by omega⟩
  | false =>
   rw [if_neg (by rw [hn]; decide)] at hp
   by_cases hv : 9223372036854775808 <= vS s
   ·rw [if_pos hv] at hp
    obtain ⟨v, hq⟩ := pint_range mg s hs hp
    exact ⟨_, hq, tail _ _ (fun _ => by rw [bitsW, if_neg (by rw [hn]; decide), if_pos hk', if_neg (by omega)]) (fun q => by cases q)⟩
   ·rw [if_neg hv] at hp
    refine ⟨_, pint_ok mg s hs _ hp, tail _ _ (fun q => by cases q) (fun _ => ?_)⟩
    simp only
    rw [wU, wrapU (by omega), bitsW, if_neg (by rw [hn]; decide), if_pos hk', if_pos (by omega)]
    exact ⟨by rw [Int.toNat_natCast], by omega⟩
 ·have hk' : sgn k = false := hk
  refine ⟨_, pubu_p mg s hs 10 (.inl rfl), ?_⟩
  rw [hu]
  cases hn : negS s with
  | true =>
   rw [if_pos rfl]
   exact tail _ _ (fun _ => by rw [bitsW, if_pos hn, if_neg (by rw [hk']; simp)]) (fun q => by cases q)
  | false =>
   rw [if_neg (by decide)]
   by_cases hv : 18446744073709551616 <= vS s
   ·rw [if_pos hv]
    exact tail _ _ (fun _ => by rw [bitsW, if_neg (by rw [hn]; decide), if_neg (by rw [hk']; decide), if_neg (by omega)]) (fun q => by cases q)
   ·rw [if_neg hv]
    refine tail _ _ (fun q => by cases q) (fun _ => ?_)
    rw [bitsW, if_neg (by rw [hn]; decide), if_neg (by rw [hk']; decide), if_pos (by omega)]
    exact ⟨by rw [Int.toNat_natCast], by simp only; omega⟩
theorem okV_mk (k : Int) {b : Int} (h : 0 <= b /\ b < 18446744073709551616) {t : ByteArray} (ht : t.size <= 140737488351232) : OkV (mkV k b t) := ⟨by simp [mkV], by simp [mkV], by simp [mkV], by simp [mkV], ht, h.1, h.2⟩
theorem fits_mk (k b : Int) (hk : k = 2 ∨ k = 3 ∨ k = 4 ∨ k = 5 ∨ k = 9) : fitsV k (mkV k b ⟨#[]⟩) = withinB k b := by
 unfold fitsV
 rw [if_neg (by omega)]
 have h1 : (1 <= k /\ k <= 9 /\ (mkV k b ⟨#[]⟩).Kind = k) := ⟨by omega, by omega, rfl⟩
 rw [decide_eq_true h1]
 simp [loneV, mkV]
theorem rw_j2 (k : Int) (hk : k = 2 ∨ k = 3 ∨ k = 4 ∨ k = 5 ∨ k = 9) (b : Nat) (hb : b < 18446744073709551616) : ref04_whole_j2 k b (if withinB k b = true then (mkV k b ⟨#[]⟩, 0) else (nV0, 6)) := by
 refine ref04_whole_j2_step _ _ _ ⟨_, rfits_is k (mkV k b ⟨#[]⟩) (okV_mk k ⟨by omega, by omega⟩ (by decide)), ?_⟩
 rw [fits_mk k b hk]
 exact ⟨fun h => by rw [if_neg (by simpa using h)]; rfl, fun h => by rw [if_pos (by simpa using h)]; rfl⟩
theorem rwhole_is (k : Int) (hk : k = 2 ∨ k = 3 ∨ k = 4 ∨ k = 5 ∨ k = 9) (s : ByteArray) (hs : s.size <= 1073741824) : ref04_whole k s (wholeV k s) := by
 have hW : decQ s = true -> wholeV k s = (match bitsW k s with
  | none => (nV0, 6)
  | some b => if withinB k b = true then (mkV k b ⟨#[]⟩, 0) else (nV0, 6)) := fun h => by rw [wholeV]; exact if_pos h
 refine ref04_whole_step _ _ _ ⟨_, rnumb_is s hs, ?_⟩
 unfold numR
 by_cases hd : decQ s = true
 rotate_left
 ·rw [if_neg hd, wholeV, if_neg hd]
  exact ⟨fun _ => rfl, fun h => (by cases h)⟩
 rw [if_pos hd, hW hd]
 change IF ((if 18446744073709551616 <= vS s then ((0, false, 6) : Int × Bool × Int) else ((vS s : Int), negS s, 0)).2.2 != 0) _ _
 by_cases hv : 18446744073709551616 <= vS s
 ·have hb : bitsW k s = none := by
   unfold bitsW
   split
   ·rw [if_neg (by omega)]
   ·split
    ·rw [if_neg (by omega)]
    ·rw [if_neg (by omega)]
  rw [show valD 0 (bs (digS s)) = vS s from rfl, if_pos hv, hb]
  exact ⟨fun _ => rfl, fun h => (by cases h)⟩
 rw [show valD 0 (bs (digS s)) = vS s from rfl, if_neg hv]
 refine ⟨fun h => (by cases h), fun _ => ?_⟩
 refine ⟨fun z => z = (negS s && (!(sgn k) || decide (9223372036854775808 < vS s))), fun z hz => ⟨fun z2 => z2 = decide (bitsW k s = none), fun z2 hz2 => ⟨fun h => ?_, fun h => ⟨fun hn => ?_, fun hn => ?_⟩⟩, fun h => ?_, fun h => ⟨fun z3 => z3 = (!(negS s) && sgn k), fun z3 hz3 => ?_, fun hn => ⟨_, ref04_signed_step _ _ rfl, ?_⟩, fun hn => ?_⟩⟩, fun hn => ⟨_, ref04_signed_step _ _ rfl, ?_⟩, fun hn => ?_⟩
 ·rw [hz2] at h
  rw [of_decide_eq_true h]; rfl
 ·rw [hz2] at h
  have hb := of_decide_eq_false h
  simp only at hn
  unfold bitsW at hb ⊢
  rw [if_pos hn] at hb ⊢
  have hq : sgn k = true /\ vS s <= 9223372036854775808 := Classical.byContradiction fun q => hb (if_neg q)
  rw [if_pos hq]
  simp only
  have e : wU (0 - (vS s : Int)) = (((18446744073709551616 - vS s) % 18446744073709551616 : Nat) : Int) := by rw [Int.zero_sub]; exact wU_mns _ hq.2
  rw [e]
  exact rw_j2 k hk _ (by omega)
 ·rw [hz2] at h
  have hb := of_decide_eq_false h
  simp only at hn
  unfold bitsW at hb ⊢
  rw [if_neg (by rw [hn]; decide)] at hb ⊢
  have e : (if sgn k = true then (if vS s < 9223372036854775808 then some (vS s) else none) else if vS s < 18446744073709551616 then some (vS s) else none) = some (vS s) := by
   split
   ·rename_i hq; rw [if_pos hq] at hb
    split
    ·rfl
    ·rename_i h2; rw [if_neg h2] at hb; exact absurd rfl hb
   ·rw [if_pos (by omega)]
  rw [e]
  exact rw_j2 k hk _ (by omega)
 ·show true = _
  rw [h] at hz
  have hz := hz.symm
  simp only [Bool.and_eq_true, Bool.or_eq_true, Bool.not_eq_true', decide_eq_true_eq] at hz
  rw [eq_comm, decide_eq_true_eq, bitsW, if_pos hz.1, if_neg]
  rintro ⟨q1, q2⟩
  rcases hz.2 with q | q
  ·rw [q1] at q; cases q
  ·omega
 ·show (z3 && _) = _
  rw [h] at hz
  rw [hz3]
  cases hn : negS s with
  | true =>
   rw [hn] at hz
   have hz := hz.symm
   simp only [Bool.true_and, Bool.or_eq_false_iff, Bool.not_eq_false', decide_eq_false_iff_not] at hz
   rw [Bool.not_true, Bool.false_and, Bool.false_and, eq_comm, decide_eq_false_iff_not, bitsW, if_pos hn, if_pos ⟨hz.1, by omega⟩]
   simp
  | false =>
   rw [Bool.not_false, Bool.true_and]
   unfold bitsW
   rw [if_neg (by rw [hn]; decide)]
   cases hq : sgn k with
   | true =>
    rw [Bool.true_and, if_pos rfl]
    simp only
    by_cases h2 : 9223372036854775808 <= vS s
    ·rw [if_neg (by omega), decide_eq_true (by omega)]; rfl
    ·rw [if_pos (by omega), decide_eq_false (by omega)]; rfl
   | false => rw [Bool.false_and, if_neg (by decide), if_pos (by omega)]; rfl
 ·show _ = _
  simp only at hn
  have hn : negS s = false := by simpa using hn
  rw [hn]; rfl
 ·simp only at hn
  have hn : negS s = true := by simpa using hn
  show false = _
  rw [hn]; rfl
 ·simp only at hn
  show _ = _
  rw [hn, Bool.true_and]
  simp only [sgn]
  congr 1
  exact decide_eq_decide.2 ⟨fun q => by omega, fun q => by omega⟩
 ·simp only at hn
  show false = _
  rw [hn]; rfl
def hexO : List Nat -> List Nat
 | [] => []
 | b :: r => (hexC (b / 16)).toNat :: (hexC (b % 16)).toNat :: hexO r
theorem hexO_of : ∀ l : List UInt8, (hexOf l).map UInt8.toNat = hexO (l.map UInt8.toNat)
 | [] => rfl
 | b :: r => by simp only [hexOf, List.map_cons, hexO, hexO_of r]
theorem dg_hex (d : Nat) (h : d < 16) : dgtL (hexC d).toNat = some d := by
 have : ∀ d : Fin 16, dgtL (hexC d.val).toNat = some d.val := by decide +kernel
 exact this ⟨d, h⟩
theorem hex_dg {c d : Nat} (h : dgtL c = some d) : c = (hexC d).toNat := by
 have hc : c < 256 := by
  unfold dgtL at h
  split at h
  ·omega
  ·split at h
   ·omega
   ·cases h
 have : ∀ c : Fin 256, ∀ d : Fin 16, dgtL c.val = some d.val -> c.val = (hexC d.val).toNat := by decide +kernel
 exact this ⟨c, hc⟩ ⟨d, dgtL_lt h⟩ h
theorem unhex_hexO : ∀ l : List Nat, (∀ b ∈ l, b < 256) -> unhexV (hexO l) = some l
 | [], _ => rfl
 | b :: r, h => by
  have hb := h b (by simp)
  rw [hexO, unhexV, dg_hex _ (by omega), dg_hex _ (by omega), unhex_hexO r fun x hx => h x (by simp [hx])]
  simp only [Option.map_some, Option.some.injEq, List.cons.injEq, and_true]
  omega
theorem unhex_inv : ∀ (n : Nat) (m l : List Nat), m.length <= n -> unhexV m = some l -> m = hexO l /\ ∀ b ∈ l, b < 256
 | _, [], l, _, h => by rw [unhexV] at h; cases h; exact ⟨rfl, by simp⟩
 | _, [_], l, _, h => by rw [unhexV] at h; cases h
 | 0, _ :: _ :: _, _, hn, _ => by simp at hn
 | n + 1, a :: b :: r, l, hn, h => by
  rw [unhexV] at h
  cases ha : dgtL a with
  | none => rw [ha] at h; cases h
  | some x =>
   cases hb : dgtL b with
   | none => rw [ha, hb] at h; cases h
   | some y =>
    rw [ha, hb] at h
    simp only at h
    obtain ⟨l', h1, rfl⟩ := Option.map_eq_some_iff.1 h
    obtain ⟨rfl, h3⟩ := unhex_inv n r l' (by simp at hn; omega) h1
    have hx := dgtL_lt ha; have hy := dgtL_lt hb
    refine ⟨?_, ?_⟩
    ·rw [hexO, hex_dg ha, hex_dg hb, show (16 * x + y) / 16 = x by omega, show (16 * x + y) % 16 = y by omega]
    ·intro c hc
     rcases List.mem_cons.1 hc with rfl | hc
     ·omega
     ·exact h3 c hc
def beA : List Nat -> Nat -> Nat
 | [], a => a
 | c :: r, a => beA r (256 * a + c)
theorem beA_cons (c : Nat) (r : List Nat) (a : Nat) : beA (c :: r) a = beA r (256 * a + c) := by rw [beA]
theorem beA_eq : ∀ (l : List Nat) (a : Nat), beA l a = a * 256 ^ l.length + beA l 0
 | [], a => by simp [beA]
 | c :: r, a => by
  rw [beA_cons, beA_cons, beA_eq r (256 * a + c), beA_eq r (256 * 0 + c), List.length_cons, Nat.pow_succ]
  have e1 : (256 * a + c) * 256 ^ r.length = a * (256 ^ r.length * 256) + c * 256 ^ r.length := by
   rw [Nat.add_mul, Nat.mul_comm 256 a, Nat.mul_assoc, Nat.mul_comm 256 (256 ^ r.length)]
  rw [e1]; simp only [Nat.mul_zero, Nat.zero_add]; omega
theorem beA_lt : ∀ l : List Nat, (∀ b ∈ l, b < 256) -> beA l 0 < 256 ^ l.length
 | [], _ => by simp [beA]
 | c :: r, h => by
  have hc := h c (by simp)
  have hr := beA_lt r fun x hx => h x (by simp [hx])
  rw [beA_cons, beA_eq, List.length_cons, Nat.pow_succ]
  have : c * 256 ^ r.length <= 255 * 256 ^ r.length := Nat.mul_le_mul_right _ (by omega)
  simp only [Nat.mul_zero, Nat.zero_add]
  omega
theorem hexN_be : ∀ l : List Nat, (∀ b ∈ l, b < 256) -> ∀ u : Nat, u % 256 ^ l.length = beA l 0 -> (hexN (2 * l.length) u).map UInt8.toNat = hexO l
 | [], _, _, _ => rfl
 | c :: r, h, u, hu => by
  have hc := h c (by simp)
  have hr : ∀ b ∈ r, b < 256 := fun x hx => h x (by simp [hx])
  have hlt := beA_lt r hr
  rw [beA_cons, beA_eq, List.length_cons, Nat.pow_succ] at hu
  simp only [Nat.mul_zero, Nat.zero_add] at hu
  have hp : 0 < 256 ^ r.length := Nat.pow_pos (by decide)
  have e0 : 2 * (r.length + 1) = 2 * r.length + 1 + 1 := by omega
  have e1 : (256 : Nat) ^ r.length = 16 ^ (2 * r.length) := by rw [Nat.pow_mul]
  have hm : u % 256 ^ r.length = beA r 0 := by
   have := congrArg (· % 256 ^ r.length) hu
   simp only [Nat.mod_mul_right_mod] at this
   rw [this, Nat.mul_comm, Nat.mul_add_mod, Nat.mod_eq_of_lt hlt]
  have hd : u / 256 ^ r.length % 256 = c := by
   rw [← Nat.mod_mul_right_div_self, hu, Nat.mul_comm, Nat.mul_add_div hp, Nat.div_eq_of_lt hlt, Nat.add_zero]
  rw [List.length_cons, e0, hexN, hexN, List.map_cons, List.map_cons, hexN_be r hr u hm, hexO]
  have e3 : u / 16 ^ (2 * r.length + 1) = u / 16 ^ (2 * r.length) / 16 := by rw [Nat.pow_succ, Nat.div_div_eq_div_mul]
  rw [e3, ← e1]
  congr 2
  ·congr 1; omega
  ·congr 2; omega
def oX2 : ByteArray := ⟨#[48, 120]⟩
def dblOf (s : ByteArray) : Option Nat := if s.size = 18 /\ s.extract 0 2 = oX2 then (match unhexV (bs (s.extract 2 s.size)) with
  | some l => if clsS (beA l 0) <= 1 then none else some (beA l 0)
  | none => none) else none
def beN : Nat -> Nat -> List Nat
 | 0, _ => []
 | k + 1, u => (u / 256 ^ k % 256) :: beN k u
theorem beN_len : ∀ k u, (beN k u).length = k
 | 0, _ => rfl
 | k + 1, u => by rw [beN, List.length_cons, beN_len]
theorem beN_lt : ∀ k u, ∀ b ∈ beN k u, b < 256
 | 0, _ => fun b h => by simp [beN] at h
 | k + 1, u => fun b h => by
  rw [beN] at h
  rcases List.mem_cons.1 h with rfl | h
  ·omega
  ·exact beN_lt k u b h
theorem beA_beN (u : Nat) : ∀ k, beA (beN k u) 0 = u % 256 ^ k
 | 0 => by simp [beN, beA, Nat.mod_one]
 | k + 1 => by
  rw [beN, beA_cons, beA_eq, beN_len, beA_beN u k, Nat.mod_pow_succ]
  simp only [Nat.mul_zero, Nat.zero_add]
  rw [Nat.mul_comm]; omega
theorem hexO_len : ∀ l : List Nat, (hexO l).length = 2 * l.length
 | [] => rfl
 | b :: r => by simp only [hexO, List.length_cons, hexO_len r]; omega
theorem bs_hex16 (u : Nat) (hu : u < 18446744073709551616) : bs (hex16 u) = hexO (beN 8 u) := by
 have e := hexN_be (beN 8 u) (beN_lt 8 u) u (by rw [beA_beN, beN_len])
 rw [beN_len] at e
 exact e
theorem two_cut (s : ByteArray) (h : 2 <= s.size) : s = s.extract 0 2 ++ s.extract 2 s.size := by
 refine bs_inj ?_
 have e2 : (bs s).take s.size = bs s := List.take_of_length_le (by rw [bs_len]; exact Nat.le_refl _)
 rw [bs_app, bs_cut, bs_cut, List.drop_zero, e2, List.take_append_drop]
theorem dbl_some {s : ByteArray} {u : Nat} : dblOf s = some u ↔ u < 18446744073709551616 /\ 1 < clsS u /\ s = oX2 ++ hex16 u := by
 have h16 := hex16_size u
 constructor
 ·intro h
  unfold dblOf at h
  split at h
  rotate_left
  ·cases h
  rename_i hs
  split at h
  rotate_left
  ·cases h
  rename_i l hl
  split at h
  ·cases h
  rename_i hc
  cases h
  obtain ⟨h1, h2⟩ := unhex_inv _ _ l (Nat.le_refl _) hl
  have hlen : l.length = 8 := by
   have := congrArg List.length h1
   rw [bs_len, hexO_len, size_cut _ (Nat.le_refl _)] at this
   omega
  have hlt := beA_lt l h2
  rw [hlen] at hlt
  refine ⟨by omega, by omega, ?_⟩
  have e := hexN_be l h2 (beA l 0) (by rw [hlen, Nat.mod_eq_of_lt hlt])
  rw [hlen] at e
  have e2 : bs (hex16 (beA l 0)) = bs (s.extract 2 s.size) := by rw [h1]; exact e
  rw [bs_inj e2, ← hs.2]
  exact two_cut s (by omega)
 ·rintro ⟨hu, hc, rfl⟩
  have hsz : (oX2 ++ hex16 u).size = 18 := by rw [ba_size, h16]; rfl
  have b2 : bs oX2 = [48, 120] := rfl
  have e1 : (oX2 ++ hex16 u).extract 0 2 = oX2 := by
   refine bs_inj ?_
   rw [bs_cut, bs_app, b2]; rfl
  have e2 : bs ((oX2 ++ hex16 u).extract 2 (oX2 ++ hex16 u).size) = hexO (beN 8 u) := by
   rw [bs_cut, bs_app, List.take_of_length_le (by rw [List.length_append, bs_len, bs_len, ba_size]; exact Nat.le_refl _), b2, ← bs_hex16 u hu]; rfl
  rw [dblOf, if_pos ⟨hsz, e1⟩, e2, unhex_hexO _ (beN_lt 8 u)]
  simp only
  rw [beA_beN, Nat.mod_eq_of_lt (by omega), if_neg (by omega)]
def dblV (s : ByteArray) : GValue × Int :=
 if s = ⟨#[110, 97, 110]⟩ then (mkV 6 9221120237041090560 ⟨#[]⟩, 0) else if s = ⟨#[105, 110, 102]⟩ then (mkV 6 9218868437227405312 ⟨#[]⟩, 0) else if s = ⟨#[45, 105, 110, 102]⟩ then (mkV 6 18442240474082181120 ⟨#[]⟩, 0)
 else match dblOf s with
  | some u => (mkV 6 u ⟨#[]⟩, 0)
  | none => (nV0, 2)
theorem beA_ge (l : List Nat) (a : Nat) : a <= beA l a := by
 rw [beA_eq]
 have h : 0 < 256 ^ l.length := Nat.pow_pos (by decide)
 have := Nat.le_mul_of_pos_right a h
 omega
theorem dgU_hex (d : Nat) (h : d < 16) : dgU (hexC d).toNat = some d := by
 have : ∀ d : Fin 16, dgU (hexC d.val).toNat = some d.val := by decide +kernel
 exact this ⟨d, h⟩
theorem pu16 : ∀ (l : List Nat) (n : Nat), (∀ b ∈ l, b < 256) -> beA l n < 18446744073709551616 -> puV 16 (hexO l) n = (beA l n, 0)
 | [], n, _, _ => rfl
 | b :: r, n, h, hn => by
  have hb := h b (by simp)
  rw [beA_cons] at hn ⊢
  have := beA_ge r (256 * n + b)
  rw [hexO, puV_cons, dgU_hex _ (by omega)]
  simp only
  rw [if_neg (by omega), if_neg (by omega), puV_cons, dgU_hex _ (by omega)]
  simp only
  rw [if_neg (by omega), if_neg (by omega), show (n * 16 + b / 16) * 16 + b % 16 = 256 * n + b by omega]
  exact pu16 r _ (fun x hx => h x (by simp [hx])) hn
theorem dbl_key {s : ByteArray} (h1 : ¬ s = ⟨#[110, 97, 110]⟩) (h2 : ¬ s = ⟨#[105, 110, 102]⟩) (h3 : ¬ s = ⟨#[45, 105, 110, 102]⟩) :
  (((puS 16 (cutP s oX2).1).2 = 0 /\ doubT (puS 16 (cutP s oX2).1).1 = s) -> dblOf s = some (puS 16 (cutP s oX2).1).1) /\ (∀ u, dblOf s = some u -> (puS 16 (cutP s oX2).1) = (u, 0) /\ doubT u = s) := by
 constructor
 ·rintro ⟨_, h⟩
  have hu := (puS_ok 16 (cutP s oX2).1).1
  generalize (puS 16 (cutP s oX2).1).1 = u at *
  refine dbl_some.2 ⟨hu, ?_⟩
  unfold doubT at h
  split at h
  ·exact absurd h.symm h1
  ·split at h
   ·split at h
    ·exact absurd h.symm h3
    ·exact absurd h.symm h2
   ·exact ⟨by omega, h.symm⟩
 ·intro u h
  obtain ⟨hu, hc, hs⟩ := dbl_some.1 h
  have h16 := hex16_size u
  have hsz : s.size = 18 := by rw [hs, ba_size, h16]; rfl
  have b2 : bs oX2 = [48, 120] := rfl
  have hp : hasP s oX2 = true := by
   unfold hasP
   rw [Bool.and_eq_true, decide_eq_true_eq, decide_eq_true_eq]
   refine ⟨by rw [hsz]; decide, bs_inj ?_⟩
   rw [hs, bs_cut, bs_app, b2]; rfl
  have e2 : bs (cutP s oX2).1 = hexO (beN 8 u) := by
   rw [cutP, if_pos hp]
   simp only
   rw [hs, bs_cut, bs_app, List.take_of_length_le (by rw [List.length_append, bs_len, bs_len, ba_size]; exact Nat.le_refl _), b2, ← bs_hex16 u hu]; rfl
  have hb : beA (beN 8 u) 0 = u := by rw [beA_beN, Nat.mod_eq_of_lt (by omega)]
  refine ⟨?_, by rw [doubT, if_neg (by omega), if_neg (by omega)]; exact hs.symm⟩
  have hz : ¬ (cutP s oX2).1.size = 0 := by
   rw [← bs_len, e2, hexO_len, beN_len]; decide
  rw [puS, if_neg hz, e2, pu16 _ 0 (beN_lt 8 u) (by rw [hb]; exact hu), hb]
theorem pdouble_is (mg : Int) (s : ByteArray) (hs : s.size <= 1073741824) : scalar_parseDouble mg s (dblV s) := by
 refine scalar_parseDouble_step _ _ _ ⟨fun h => ?_, fun h1 => ⟨fun h => ?_, fun h2 => ⟨fun h => ?_, fun h3 => ?_⟩⟩⟩
 ·rw [dblV, if_pos (of_decide_eq_true h)]; rfl
 ·rw [dblV, if_neg (of_decide_eq_false h1), if_pos (of_decide_eq_true h)]; rfl
 ·rw [dblV, if_neg (of_decide_eq_false h1), if_neg (of_decide_eq_false h2), if_pos (of_decide_eq_true h)]; rfl
 have h1 := of_decide_eq_false h1; have h2 := of_decide_eq_false h2; have h3 := of_decide_eq_false h3
 rw [dblV, if_neg h1, if_neg h2, if_neg h3]
 obtain ⟨k1, k2⟩ := dbl_key h1 h2 h3
 have hsz : (cutP s oX2).1.size <= 1073741824 := by
  unfold cutP
  split
  ·simp only; rw [size_cut s (Nat.le_refl _)]; omega
  ·exact hs
 have hu := (puS_ok 16 (cutP s oX2).1).1
 refine ⟨_, trim_is s _, _, pubu_p mg _ hsz 16 (.inr rfl), ?_⟩
 change JN _ _
 generalize hq : puS 16 (cutP s oX2).1 = q at *
 obtain ⟨u, k⟩ := q
 simp only at k1 k2 hu ⊢
 refine ⟨fun z => z = decide (dblOf s = none), fun z hz => ⟨fun h => ?_, fun h => ?_⟩, fun h => ?_, fun h => ⟨_, double_is mg u hu, ?_⟩⟩
 ·rw [hz] at h
  rw [of_decide_eq_true h]; rfl
 ·rw [hz] at h
  have h := of_decide_eq_false h
  obtain ⟨v, hv⟩ := Option.ne_none_iff_exists'.1 h
  obtain ⟨e1, _⟩ := k2 v hv
  cases e1
  rw [hv]; rfl
 ·show true = _
  rw [eq_comm, decide_eq_true_eq]
  cases hd : dblOf s with
  | none => rfl
  | some v =>
   obtain ⟨e1, _⟩ := k2 v hd
   cases e1
   cases h
 ·show (!(decide _)) = _
  have hk : k = 0 := by
   unfold errE at h
   by_cases hk : k = 0
   ·exact hk
   ·rw [if_neg hk] at h; cases h
  subst hk
  by_cases he : doubT u = s
  ·rw [decide_eq_true he, k1 ⟨rfl, he⟩]; rfl
  ·rw [decide_eq_false he, Bool.not_false, eq_comm, decide_eq_true_eq]
   cases hd : dblOf s with
   | none => rfl
   | some v =>
    obtain ⟨e1, e2⟩ := k2 v hd
    cases e1
    exact absurd e2 he
theorem rdb_j (b : ByteArray) (hb : b.size <= 1073741824) (e : Int) : ∀ (n i a : Nat), b.size - i = n -> i <= b.size -> beA ((bs b).drop i) a < 18446744073709551616 -> ref04_double_j2 i (b, e) a (if clsS (beA ((bs b).drop i) a) <= 1 then (nV0, 2) else (mkV 6 (beA ((bs b).drop i) a) ⟨#[]⟩, 0)) := by
 intro n
 induction n with
 | zero =>
  intro i a h1 h2 h3
  rw [bs_end b i (by omega)] at h3 ⊢
  have h3 : a < 18446744073709551616 := h3
  refine ref04_double_j2_step _ _ _ _ ⟨fun h => absurd (of_decide_eq_true h) (by simp only; omega), fun _ => ⟨_, rclass_is a h3, fun h => ?_, fun h => ?_⟩⟩
  ·rw [if_pos (show clsS (beA [] a) <= 1 by have := of_decide_eq_true h; show clsS a <= 1; omega)]; rfl
  ·rw [if_neg (show ¬ clsS (beA [] a) <= 1 by have := of_decide_eq_false h; show ¬ clsS a <= 1; omega)]; rfl
 | succ n ih =>
  intro i a h1 h2 h3
  have c := byteN_eq b i
  have e1 : wI ((i : Int) + 1) = ((i + 1 : Nat) : Int) := by rw [wI, wrapI (by omega)]; omega
  rw [bs_drop b i (by omega), beA_cons] at h3 ⊢
  have hg := beA_ge ((bs b).drop (i + 1)) (256 * a + byteN b i)
  refine ref04_double_j2_step _ _ _ _ ⟨fun _ => ⟨⟨by omega, by simp only; omega⟩, ?_⟩, fun h => absurd (of_decide_eq_false h) (by simp only; omega)⟩
  simp only
  have w1 : wU (256 * (a : Int)) = ((256 * a : Nat) : Int) := by rw [wU, wrapU (by omega)]; omega
  have w2 : wU ((byteN b i : Nat) : Int) = ((byteN b i : Nat) : Int) := by rw [wU, wrapU (by omega)]
  have w3 : wU (((256 * a : Nat) : Int) + ((byteN b i : Nat) : Int)) = ((256 * a + byteN b i : Nat) : Int) := by rw [wU, wrapU (by omega)]; omega
  rw [e1, show byteAt b ((i : Int)).toNat = ((byteN b i : Nat) : Int) from c.1, w1, w2, w3]
  exact ih (i + 1) _ (by omega) (by omega) h3
theorem rdouble_is (s : ByteArray) (hs : s.size <= 1073741824) : ref04_double s (dblV s) := by
 refine ref04_double_step _ _ ⟨fun h => ?_, fun h1 => ⟨fun h => ?_, fun h2 => ⟨fun h => ?_, fun h3 => ?_⟩⟩⟩
 ·rw [dblV, if_pos (of_decide_eq_true h)]; rfl
 ·rw [dblV, if_neg (of_decide_eq_false h1), if_pos (of_decide_eq_true h)]; rfl
 ·rw [dblV, if_neg (of_decide_eq_false h1), if_neg (of_decide_eq_false h2), if_pos (of_decide_eq_true h)]; rfl
 rw [dblV, if_neg (of_decide_eq_false h1), if_neg (of_decide_eq_false h2), if_neg (of_decide_eq_false h3)]
 refine ⟨fun z => z = decide (¬ (s.size = 18 /\ s.extract 0 2 = oX2)), fun z hz => ⟨fun h => ?_, fun h => ?_⟩, fun h => ?_, fun h => ?_⟩
 ·rw [hz] at h
  rw [dblOf, if_neg (of_decide_eq_true h)]; rfl
 ·rw [hz] at h
  have hc : s.size = 18 /\ s.extract 0 2 = oX2 := Classical.byContradiction (of_decide_eq_false h)
  have hx := size_cut s (l := 2) (Nat.le_refl _)
  refine ⟨⟨by omega, by omega, by omega⟩, unhexT (s.extract 2 s.size), runhex_is _ (by show (s.extract 2 s.size).size <= _; omega), ?_⟩
  rw [dblOf, if_pos hc]
  unfold unhexT unhR
  cases hu : unhexV (bs (s.extract 2 s.size)) with
  | none => exact ⟨fun _ => rfl, fun h => (by cases h)⟩
  | some l =>
   obtain ⟨e1, e2⟩ := unhex_inv _ _ l (Nat.le_refl _) hu
   have hlen : l.length = 8 := by
    have := congrArg List.length e1
    rw [bs_len, hexO_len, hx] at this
    omega
   have hlt := beA_lt l e2
   rw [hlen] at hlt
   refine ⟨fun h => (by cases h), fun _ => ?_⟩
   have := rdb_j (nB l) (by rw [nB_size]; omega) 0 _ 0 0 rfl (by omega) (by rw [bs_nB e2]; exact hlt)
   rw [bs_nB e2, List.drop_zero] at this
   simp only [List.nil_append]
   split at this
   ·rename_i hc1; rw [if_pos hc1]; exact this
   ·rename_i hc1; rw [if_neg hc1]; exact this
 ·show true = _
  have h : ¬ s.size = 18 := by simp only [bne_iff_ne, ne_eq] at h; omega
  rw [eq_comm, decide_eq_true_eq]
  exact fun q => h q.1
 ·have h : s.size = 18 := by simp only [bne_eq_false_iff_eq] at h; omega
  refine ⟨⟨by omega, by omega, by omega⟩, ?_⟩
  show (!(decide (s.extract 0 2 = oX2))) = _
  simp [h]
theorem unqN_size (s : ByteArray) : ∀ (f i : Nat) (l : List Nat), l.length <= i -> (unqN s f i l).1.size <= s.size
 | 0, i, l, _ => Nat.zero_le _
 | f + 1, i, l, h => by
  unfold unqN
  split
  ·exact Nat.zero_le _
  ·split
   ·split
    ·simp only; rw [nB_size]; omega
    ·exact Nat.zero_le _
   ·split
    ·split
     ·exact Nat.zero_le _
     ·rename_i h0
      have := (escQ_len ((bs s).drop (i + 1))).2 h0
      exact unqN_size s f _ _ (by simp; omega)
    ·exact unqN_size s f _ _ (by simp; omega)
theorem unqT_size (s : ByteArray) : (unqT s).1.size <= s.size := by
 unfold unqT
 split
 ·exact Nat.zero_le _
 ·exact unqN_size s _ _ _ (by simp)
def endV (k : Int) (t : ByteArray) : GValue × Int := if k = 7 /\ validB t = false then (nV0, 7) else if 4096 < t.size then (nV0, 3) else (mkV k 0 t, 0)
def textV (k : Int) (q : ByteArray) : GValue × Int :=
 if (unqT q).2.2 ≠ 0 ∨ (unqT q).2.1 ≠ (q.size : Int) then (nV0, 2) else if k = 8 then (match unhexV (bs (unqT q).1) with
  | none => (nV0, 2)
  | some l => endV 8 (nB l)) else endV k (unqT q).1
theorem unhex_len : ∀ (n : Nat) (m l : List Nat), m.length <= n -> unhexV m = some l -> l.length <= m.length := by
 intro n m l h1 h2
 obtain ⟨e, _⟩ := unhex_inv n m l h1 h2
 rw [e, hexO_len]; omega
theorem pend_is (k : Int) (t : ByteArray) (ht : t.size <= 1073741824) : scalar_parseText_j6 t k (endV k t) := by
 refine scalar_parseText_j6_step _ _ _ ⟨fun z => z = decide (k = 7 /\ validB t = false), fun z hz => ⟨fun h => ?_, fun h => ⟨fun h2 => ?_, fun h2 => ?_⟩⟩, fun h => ⟨_, valid_is t (by omega), ?_⟩, fun h => ?_⟩
 ·rw [hz] at h
  rw [endV, if_pos (of_decide_eq_true h)]; rfl
 ·rw [hz] at h
  rw [endV, if_neg (of_decide_eq_false h), if_pos (by have := of_decide_eq_true h2; omega)]; rfl
 ·rw [hz] at h
  rw [endV, if_neg (of_decide_eq_false h), if_neg (by have := of_decide_eq_false h2; omega)]; rfl
 ·show (!_) = _
  have h : k = 7 := by simpa using h
  cases validB t <;> simp [h]
 ·show false = _
  have h : ¬ k = 7 := by simpa using h
  simp [h]
theorem quoted_is (s : ByteArray) (hs : s.size <= 1073741824) : scalar_quoted s ((unqT s).1, ((unqT s).2.2 == 0 && (unqT s).2.1 == (s.size : Int))) := scalar_quoted_step _ _ ⟨_, unquote_is s hs, rfl⟩
theorem bad_iff (s : ByteArray) : (!((unqT s).2.2 == 0 && (unqT s).2.1 == (s.size : Int))) = decide ((unqT s).2.2 ≠ 0 ∨ (unqT s).2.1 ≠ (s.size : Int)) := by
 by_cases h1 : (unqT s).2.2 = 0 <;> by_cases h2 : (unqT s).2.1 = (s.size : Int) <;> simp [h1, h2]
theorem ptext_j4 (k : Int) (q : ByteArray) (hq : q.size <= 1073741824) : scalar_parseText_j4 true q k (textV k q) := by
 have hsz := unqT_size q
 refine scalar_parseText_j4_step _ _ _ _ ⟨_, quoted_is q hq, ?_⟩
 rw [Bool.not_true, Bool.false_or, bad_iff]
 refine ⟨fun h => ?_, fun h => ⟨fun hk => ⟨unhexT (unqT q).1, unhex_is _ (by simp only; omega), ?_⟩, fun hk => ?_⟩⟩
 ·rw [textV, if_pos (of_decide_eq_true h)]; rfl
 ·have hk : k = 8 := by simpa using hk
  rw [textV, if_neg (of_decide_eq_false h), if_pos hk]
  unfold unhexT unhR
  cases hu : unhexV (bs (unqT q).1) with
  | none => exact ⟨fun _ => rfl, fun h => (by cases h)⟩
  | some l =>
   have := unhex_len _ _ l (Nat.le_refl _) hu
   rw [bs_len] at this
   refine ⟨fun h => (by cases h), fun _ => ?_⟩
   subst hk
   exact pend_is 8 (nB l) (by rw [nB_size]; omega)
 ·have hk : ¬ k = 8 := by simpa using hk
  rw [textV, if_neg (of_decide_eq_false h), if_neg hk]
  exact pend_is k _ (by simp only; omega)
def btV (s : ByteArray) : GValue × Int := if hasP s ⟨#[120]⟩ = true then textV 8 (s.extract 1 s.size) else (nV0, 2)
theorem ptext_is (k : Int) (hk : k = 7 ∨ k = 8) (s : ByteArray) (hs : s.size <= 1073741824) : scalar_parseText k s (if k = 7 then textV 7 s else btV s) := by
 refine scalar_parseText_step _ _ _ ⟨fun h => ⟨_, cutp_is s _, ?_⟩, fun h => ?_⟩
 ·have h : k = 8 := by simpa using h
  subst h
  rw [if_neg (by decide), btV, cutP]
  by_cases hp : hasP s ⟨#[120]⟩ = true
  ·rw [if_pos hp, if_pos hp]
   have hx := size_cut s (l := 1) (Nat.le_refl _)
   exact ptext_j4 8 (s.extract 1 s.size) (by omega)
  ·rw [if_neg hp, if_neg hp]
   exact scalar_parseText_j4_step _ _ _ _ ⟨_, quoted_is s hs, fun _ => rfl, fun h => (by cases h)⟩
 ·have h : k = 7 := by
   have : ¬ k = 8 := by simpa using h
   omega
  subst h
  rw [if_pos rfl]
  exact ptext_j4 7 s hs
theorem rend_is (k : Int) (t : ByteArray) (ht : ¬ (k = 7 /\ validB t = false)) : ref04_text_j2 t k (endV k t) := by
 refine ref04_text_j2_step _ _ _ ⟨fun h => ?_, fun h => ?_⟩
 ·rw [endV, if_neg ht, if_pos (by have := of_decide_eq_true h; omega)]; rfl
 ·rw [endV, if_neg ht, if_neg (by have := of_decide_eq_false h; omega)]; rfl
theorem rtext_is (k : Int) (hk : k = 7 ∨ k = 8) (s : ByteArray) (hs : s.size <= 1073741824) : ref04_text k s (textV k s) := by
 have hsz := unqT_size s
 have e : (((unqT s).2.2 != 0) || ((unqT s).2.1 != (s.size : Int))) = decide ((unqT s).2.2 ≠ 0 ∨ (unqT s).2.1 ≠ (s.size : Int)) := by
  by_cases h1 : (unqT s).2.2 = 0 <;> by_cases h2 : (unqT s).2.1 = (s.size : Int) <;> simp [h1, h2]
 refine ref04_text_step _ _ _ ⟨_, runquote_is s hs, ?_⟩
 rw [e]
 refine ⟨fun h => ?_, fun h => ⟨fun hk8 => ⟨unhexT (unqT s).1, runhex_is _ (by omega), ?_⟩, fun hk8 => ⟨_, rvalid_is _ (by omega), fun hv => ?_, fun hv => ?_⟩⟩⟩
 ·rw [textV, if_pos (of_decide_eq_true h)]; rfl
 ·have hk8 : k = 8 := by simpa using hk8
  rw [textV, if_neg (of_decide_eq_false h), if_pos hk8]
  unfold unhexT unhR
  cases hu : unhexV (bs (unqT s).1) with
  | none => exact ⟨fun _ => rfl, fun h => (by cases h)⟩
  | some l =>
   refine ⟨fun h => (by cases h), fun _ => ?_⟩
   subst hk8
   exact rend_is 8 (nB l) (by omega)
 ·have hk7 : k = 7 := by
   have : ¬ k = 8 := by simpa using hk8
   omega
  rw [textV, if_neg (of_decide_eq_false h), if_neg (by omega), endV, if_pos ⟨hk7, by simpa using hv⟩]; rfl
 ·have hk7 : k = 7 := by
   have : ¬ k = 8 := by simpa using hk8
   omega
  rw [textV, if_neg (of_decide_eq_false h), if_neg (by omega)]
  exact rend_is k _ (fun q => by rw [q.2] at hv; cases hv)
def parseV (k : Int) (s : ByteArray) : GValue × Int :=
 if ¬ (1 <= k /\ k <= 9) then (nV0, 1) else if k = 1 then (if s = ⟨#[116, 114, 117, 101]⟩ then (mkV 1 1 ⟨#[]⟩, 0) else if s = ⟨#[102, 97, 108, 115, 101]⟩ then (mkV 1 0 ⟨#[]⟩, 0) else (nV0, 2))
 else if k = 6 then dblV s else if k = 7 then textV 7 s else if k = 8 then btV s else wholeV k s
theorem parse_is (mg k : Int) (s : ByteArray) (hs : s.size <= 1073741824) : scalar_Parse mg k s (parseV k s) := by
 refine scalar_Parse_step _ _ _ _ ⟨_, scalar_Is_step _ _ rfl, fun h => ?_, fun h => ?_⟩
 ·rw [parseV, if_pos]
  ·rfl
  ·intro q; simp at h; omega
 have hk : 1 <= k /\ k <= 9 := by simp at h; omega
 rw [parseV, if_neg (fun q => q hk)]
 refine ⟨fun h => ?_, fun h => ⟨fun h2 => ?_, fun h2 => ⟨fun h3 => ?_, fun h3 => ⟨fun h4 => ⟨_, pdouble_is mg s hs, ?_⟩, fun h4 => ⟨_, scalar_texty_step _ _ rfl, fun h5 => ⟨_, ptext_is k ?_ s hs, ?_⟩, fun h5 => ⟨_, number_is mg k s hs, ?_⟩⟩⟩⟩⟩⟩
 ·simp only [Bool.and_eq_true, beq_iff_eq, decide_eq_true_eq] at h
  rw [if_pos h.1, if_pos h.2, h.1]; rfl
 ·simp only [Bool.and_eq_true, beq_iff_eq, decide_eq_true_eq] at h2
  have h1 : ¬ s = ⟨#[116, 114, 117, 101]⟩ := by intro q; simp [h2.1, q] at h
  rw [if_pos h2.1, if_neg h1, if_pos h2.2, h2.1]; rfl
 ·have h3 : k = 1 := by simpa using h3
  have h1 : ¬ s = ⟨#[116, 114, 117, 101]⟩ := by intro q; simp [h3, q] at h
  have h2' : ¬ s = ⟨#[102, 97, 108, 115, 101]⟩ := by intro q; simp [h3, q] at h2
  rw [if_pos h3, if_neg h1, if_neg h2']; rfl
 ·have h3 : ¬ k = 1 := by simpa using h3
  have h4 : k = 6 := by simpa using h4
  rw [if_neg h3, if_pos h4]
 ·have h5 : k = 7 ∨ k = 8 := by simpa using h5
  exact h5
 ·have h3 : ¬ k = 1 := by simpa using h3
  have h4 : ¬ k = 6 := by simpa using h4
  have h5 : k = 7 ∨ k = 8 := by simpa using h5
  rw [if_neg h3, if_neg h4]
  rcases h5 with rfl | rfl
  ·rfl
  ·rfl
 ·have h3 : ¬ k = 1 := by simpa using h3
  have h4 : ¬ k = 6 := by simpa using h4
  have h5 : ¬ (k = 7 ∨ k = 8) := by simpa using h5
  rw [if_neg h3, if_neg h4, if_neg (by omega), if_neg (by omega)]
theorem rparse_is (k : Int) (s : ByteArray) (hs : s.size <= 1073741824) : ref04_Parse k s (parseV k s) := by
 refine ref04_Parse_step _ _ _ ⟨_, ref04_Is_step _ _ rfl, fun h => ?_, fun h => ?_⟩
 ·rw [parseV, if_pos]
  ·rfl
  ·intro q; simp at h; omega
 have hk : 1 <= k /\ k <= 9 := by simp at h; omega
 rw [parseV, if_neg (fun q => q hk)]
 refine ⟨fun h3 => ⟨fun h => ?_, fun h => ⟨fun h1 => ?_, fun h1 => ?_⟩⟩, fun h3 => ⟨fun h4 => ⟨_, rdouble_is s hs, ?_⟩, fun h4 => ⟨fun h5 => ⟨_, rtext_is k ?_ s hs, ?_⟩, fun h5 => ⟨fun h6 => ?_, fun h6 => ⟨_, rwhole_is k ?_ s hs, ?_⟩⟩⟩⟩⟩
 ·have h3 : k = 1 := by simpa using h3
  simp only [Bool.and_eq_true, Bool.not_eq_true', decide_eq_false_iff_not] at h
  rw [if_pos h3, if_neg h.1, if_neg h.2]; rfl
 ·have h3 : k = 1 := by simpa using h3
  rw [if_pos h3, if_pos (of_decide_eq_true h1), h3]; rfl
 ·have h3 : k = 1 := by simpa using h3
  have h1 := of_decide_eq_false h1
  have h2 : s = ⟨#[102, 97, 108, 115, 101]⟩ := by
   refine Classical.byContradiction fun q => ?_
   simp [h1, q] at h
  rw [if_pos h3, if_neg h1, if_pos h2, h3]; rfl
 ·have h3 : ¬ k = 1 := by simpa using h3
  have h4 : k = 6 := by simpa using h4
  rw [if_neg h3, if_pos h4]
 ·exact .inl (by simpa using h5)
 ·have h3 : ¬ k = 1 := by simpa using h3
  have h4 : ¬ k = 6 := by simpa using h4
  have h5 : k = 7 := by simpa using h5
  subst h5
  rfl
 ·have h6 : k = 8 := by simpa using h6
  subst h6
  have hp := hasP1 s 120
  have b := byteN_eq s 0
  have hd : (((byteN s 0 : Nat) : Int) == 120) = decide (byteN s 0 = 120) := int_eqN _ 120
  rw [if_neg (by decide), if_neg (by decide), if_neg (by decide), if_pos rfl]
  refine ⟨fun z => z = !(hasP s ⟨#[120]⟩), fun z hz => ⟨fun h => ?_, fun h => ?_⟩, fun h => ?_, fun h => ?_⟩
  ·rw [hz] at h
   rw [btV, if_neg (by simpa using h)]; rfl
  ·rw [hz] at h
   have h : hasP s ⟨#[120]⟩ = true := by simpa using h
   rw [hp] at h
   have h' := of_decide_eq_true h
   have hx := size_cut s (l := 1) (Nat.le_refl _)
   refine ⟨⟨by omega, by omega, by omega⟩, _, rtext_is 8 (.inr rfl) (s.extract 1 s.size) (by omega), ?_⟩
   rw [btV, if_pos (by rw [hp]; exact h)]
  ·show true = _
   have h0 := (size_zero s).1 (of_decide_eq_true h)
   rw [hp, decide_eq_false (by omega)]; rfl
  ·have h0 : ¬ s.size = 0 := fun q => of_decide_eq_false h ((size_zero s).2 q)
   refine ⟨⟨by omega, by omega⟩, ?_⟩
   show (_ != _) = _
   rw [show byteAt s (0 : Int).toNat = ((byteN s 0 : Nat) : Int) from b.1, bne, hd, hp]
   have h0' : 0 < s.size := by omega
   simp [h0']
 ·have h3 : ¬ k = 1 := by simpa using h3
  have h4 : ¬ k = 6 := by simpa using h4
  have h5 : ¬ k = 7 := by simpa using h5
  have h6 : ¬ k = 8 := by simpa using h6
  omega
 ·have h3 : ¬ k = 1 := by simpa using h3
  have h4 : ¬ k = 6 := by simpa using h4
  have h5 : ¬ k = 7 := by simpa using h5
  have h6 : ¬ k = 8 := by simpa using h6
  rw [if_neg h3, if_neg h4, if_neg h5, if_neg h6]
def isL (c : Nat) : Bool := decide ((97 <= c /\ c <= 122) ∨ (65 <= c /\ c <= 90))
def isW (c : Nat) : Bool := isL c || decide ((48 <= c /\ c <= 57) ∨ c = 95)
def partB (s : ByteArray) : Bool := decide (1 <= s.size /\ s.size <= 40) && (isL (byteN s 0) && (bs s).all isW)
def clsI (c : Nat) : Int := if 97 <= c /\ c <= 122 then 1 else if 65 <= c /\ c <= 90 then 2 else if 48 <= c /\ c <= 57 then 3 else if c = 95 then 4 else 0
theorem iclass_is (c : Nat) : ident_class c (clsI c) := by
 refine ident_class_step _ _ ⟨fun h => ?_, fun h => ⟨fun h2 => ?_, fun h2 => ⟨fun h3 => ?_, fun h3 => ⟨fun h4 => ?_, fun h4 => ?_⟩⟩⟩⟩
 ·simp only [Bool.and_eq_true, decide_eq_true_eq] at h
  rw [clsI, if_pos (by omega)]
 all_goals (have h : ¬ (97 <= c /\ c <= 122) := by (intro q; simp only [Bool.and_eq_false_iff, decide_eq_false_iff_not] at h; omega))
 ·simp only [Bool.and_eq_true, decide_eq_true_eq] at h2
  rw [clsI, if_neg h, if_pos (by omega)]
 all_goals (have h2 : ¬ (65 <= c /\ c <= 90) := by (intro q; simp only [Bool.and_eq_false_iff, decide_eq_false_iff_not] at h2; omega))
 ·simp only [Bool.and_eq_true, decide_eq_true_eq] at h3
  rw [clsI, if_neg h, if_neg h2, if_pos (by omega)]
 all_goals (have h3 : ¬ (48 <= c /\ c <= 57) := by (intro q; simp only [Bool.and_eq_false_iff, decide_eq_false_iff_not] at h3; omega))
 ·simp only [beq_iff_eq] at h4
  rw [clsI, if_neg h, if_neg h2, if_neg h3, if_pos (by omega)]
 ·simp only [beq_eq_false_iff_ne] at h4
  rw [clsI, if_neg h, if_neg h2, if_neg h3, if_neg (by omega)]
theorem cls_zero (c : Nat) : (clsI c == 0) = !(isW c) := by
 unfold clsI isW isL
 by_cases h1 : 97 <= c /\ c <= 122
 ·simp [h1]
 ·by_cases h2 : 65 <= c /\ c <= 90
  ·rw [if_neg h1, if_pos h2]; simp [h2]
  ·by_cases h3 : 48 <= c /\ c <= 57
   ·rw [if_neg h1, if_neg h2, if_pos h3]; simp [h3]
   ·by_cases h4 : c = 95
    ·subst h4; decide
    ·rw [if_neg h1, if_neg h2, if_neg h3, if_neg h4]
     rw [decide_eq_false (by omega), decide_eq_false (by omega)]; rfl
theorem cls_let (c : Nat) : ((clsI c != 1) && (clsI c != 2)) = !(isL c) := by
 unfold clsI isL
 by_cases h1 : 97 <= c /\ c <= 122
 ·simp [h1]
 ·by_cases h2 : 65 <= c /\ c <= 90
  ·rw [if_neg h1, if_pos h2]; simp [h2]
  ·rw [if_neg h1, if_neg h2, decide_eq_false (by omega)]
   split
   ·rfl
   ·split <;> rfl
theorem ipart_j (s : ByteArray) (hs : s.size <= 1073741824) : ∀ n p : Nat, s.size - p <= n -> p <= s.size -> ident_IsPart_j2 s p (decide (1 <= s.size /\ s.size <= 40) && ((decide (p ≠ 0) || isL (byteN s 0)) && ((bs s).drop p).all isW)) := by
 intro n
 induction n with
 | zero =>
  intro p h1 h2
  refine ident_IsPart_j2_step _ _ _ ⟨fun h => absurd h (by omega), fun _ => ?_⟩
  rw [bs_end s p (by omega), List.all_nil, Bool.and_true]
  by_cases h0 : p = 0
  ·rw [decide_eq_false (by omega : ¬ (1 <= s.size /\ s.size <= 40)), decide_eq_false (by omega : ¬ 1 <= (s.size : Int))]; rfl
  ·rw [decide_eq_true h0, Bool.true_or, Bool.and_true, ← Bool.decide_and]
   exact decide_eq_decide.2 (by omega)
 | succ n ih =>
  intro p h1 h2
  refine ident_IsPart_j2_step _ _ _ ⟨fun hp => ?_, fun hp => ?_⟩
  rotate_left
  ·rw [bs_end s p (by omega), List.all_nil, Bool.and_true]
   by_cases h0 : p = 0
   ·rw [decide_eq_false (by omega : ¬ (1 <= s.size /\ s.size <= 40)), decide_eq_false (by omega : ¬ 1 <= (s.size : Int))]; rfl
   ·rw [decide_eq_true h0, Bool.true_or, Bool.and_true, ← Bool.decide_and]
    exact decide_eq_decide.2 (by omega)
  refine ⟨_, iclass_is _, ?_⟩
  rw [Bool.and_assoc, cls_zero, cls_let, bs_drop s p hp, List.all_cons]
  have hz : (((p : Nat) : Int) == 0) = decide (p = 0) := int_eqN p 0
  rw [hz]
  by_cases hl : byteN s p < 128
  ·rw [dec_low s p hl]
   simp only
   refine ⟨fun h => ?_, fun h => ?_⟩
   ·rcases Bool.or_eq_true _ _ ▸ h with h | h
    ·have h : isW (byteN s p) = false := by simpa using h
     rw [h, Bool.false_and, Bool.and_false, Bool.and_false]
    ·rw [Bool.and_eq_true, decide_eq_true_eq] at h
     obtain ⟨rfl, h⟩ := h
     have h : isL (byteN s 0) = false := by simpa using h
     rw [h]; simp
   ·rw [Bool.or_eq_false_iff] at h
    have hW : isW (byteN s p) = true := by simpa using h.1
    have := ih (p + 1) (by omega) (by omega)
    rw [hW, Bool.true_and]
    have e : (decide (p ≠ 0) || isL (byteN s 0)) = (decide (p + 1 ≠ 0) || isL (byteN s 0)) := by
     by_cases h0 : p = 0
     ·subst h0
      have h2 : isL (byteN s 0) = true := by simpa using h.2
      rw [h2]; simp
     ·simp [h0]
    rw [e]; exact this
  ·have hd := dec_high s p hl
   have hW : ∀ c : Nat, 128 <= c -> isW c = false := by
    intro c hc
    unfold isW isL
    rw [decide_eq_false (by omega), decide_eq_false (by omega)]; rfl
   rw [hW _ hd, hW (byteN s p) (by omega)]
   refine ⟨fun _ => by simp, fun h => by simp at h⟩
theorem ipart_is (s : ByteArray) (hs : s.size <= 1073741824) : ident_IsPart s (partB s) := by
 have := ipart_j s hs _ 0 (Nat.le_refl _) (by omega)
 refine ident_IsPart_step _ _ ?_
 rw [partB]
 simpa using this
theorem letter (c : Nat) : ((!((decide (97 <= (c : Int))) && (decide ((c : Int) <= 122)))) && (!((decide (65 <= (c : Int))) && (decide ((c : Int) <= 90))))) = !(isL c) := by
 unfold isL
 by_cases h1 : 97 <= c /\ c <= 122
 ·have e1 : decide (97 <= (c : Int)) = true := decide_eq_true (by omega)
  have e2 : decide ((c : Int) <= 122) = true := decide_eq_true (by omega)
  rw [e1, e2, decide_eq_true (Or.inl h1 : (97 <= c /\ c <= 122) ∨ (65 <= c /\ c <= 90))]; rfl
 ·have e1 : ((decide (97 <= (c : Int))) && (decide ((c : Int) <= 122))) = false := by rw [← Bool.decide_and]; exact decide_eq_false (by omega)
  rw [e1]
  by_cases h2 : 65 <= c /\ c <= 90
  ·have e3 : ((decide (65 <= (c : Int))) && (decide ((c : Int) <= 90))) = true := by rw [← Bool.decide_and]; exact decide_eq_true (by omega)
   rw [e3, decide_eq_true (.inr h2)]; rfl
  ·have e3 : ((decide (65 <= (c : Int))) && (decide ((c : Int) <= 90))) = false := by rw [← Bool.decide_and]; exact decide_eq_false (by omega)
   rw [e3, decide_eq_false (by omega)]; rfl
theorem rpart_j (s : ByteArray) (hs : s.size <= 1073741824) : ∀ n i : Nat, s.size - i = n -> i <= s.size -> ref06_IsPart_j2 i s (((bs s).drop i).all isW) := by
 intro n
 induction n with
 | zero =>
  intro i h1 h2
  refine ref06_IsPart_j2_step _ _ _ ⟨fun h => absurd (of_decide_eq_true h) (by omega), fun _ => ?_⟩
  rw [bs_end s i (by omega)]; rfl
 | succ n ih =>
  intro i h1 h2
  have b := byteN_eq s i
  have e1 : wI ((i : Int) + 1) = ((i + 1 : Nat) : Int) := by rw [wI, wrapI (by omega)]; omega
  have hn := ih (i + 1) (by omega) (by omega)
  refine ref06_IsPart_j2_step _ _ _ ⟨fun _ => ⟨⟨by omega, by omega⟩, _, ref06_small_step _ _ rfl, ?_⟩, fun h => absurd (of_decide_eq_false h) (by omega)⟩
  rw [e1, show byteAt s ((i : Int)).toNat = ((byteN s i : Nat) : Int) from b.1, bs_drop s i (by omega), List.all_cons]
  have hl := letter (byteN s i)
  generalize byteN s i = c at *
  generalize ((bs s).drop (i + 1)).all isW = Z at *
  have hd : ((c : Int) != 95) = !(decide (c = 95)) := by rw [bne, show ((c : Int) == 95) = decide (c = 95) from int_eqN _ 95]
  refine ⟨fun z => z = !(isL c), fun z hz => ⟨fun z2 => z2 = (!(isL c) && !(decide (c = 95))), fun z2 hz2 => ⟨fun h => ⟨⟨by omega, by omega⟩, fun z3 => z3 = !(decide (48 <= c /\ c <= 57)), fun z3 hz3 => ⟨fun h3 => ?_, fun h3 => ?_⟩, fun h3 => ?_, fun h3 => ⟨⟨by omega, by omega⟩, ?_⟩⟩, fun h => ?_⟩, fun h => ⟨⟨by omega, by omega⟩, ?_⟩, fun h => ?_⟩, fun h => ⟨⟨by omega, by omega⟩, _, ref06_capital_step _ _ rfl, ?_⟩, fun h => ?_⟩
  ·rw [hz2] at h
   rw [hz3] at h3
   simp only [Bool.and_eq_true, Bool.not_eq_true', decide_eq_false_iff_not] at h h3
   have : isW c = false := by rw [isW, h.1, decide_eq_false (by omega)]; rfl
   rw [this]; rfl
  ·rw [hz3] at h3
   simp only [Bool.not_eq_false', decide_eq_true_eq] at h3
   have : isW c = true := by rw [isW, decide_eq_true (.inl h3), Bool.or_true]
   rw [this, Bool.true_and]; exact hn
  ·show true = _
   have := of_decide_eq_true h3
   rw [decide_eq_false (by omega)]; rfl
  ·show decide _ = _
   have := of_decide_eq_false h3
   by_cases h57 : 57 < c
   ·rw [decide_eq_true (by omega), decide_eq_false (by omega)]; rfl
   ·rw [decide_eq_false (by omega), decide_eq_true (by omega)]; rfl
  ·rw [hz2] at h
   have : isW c = true := by
    unfold isW
    cases hL : isL c with
    | true => rfl
    | false =>
     rw [hL] at h
     simp only [Bool.not_false, Bool.true_and, Bool.not_eq_false', decide_eq_true_eq] at h
     rw [decide_eq_true (.inr h)]; rfl
   rw [this, Bool.true_and]; exact hn
  ·show _ = _
   rw [hz] at h
   rw [hd, h, Bool.true_and]
  ·show false = _
   rw [hz] at h
   rw [h, Bool.false_and]
  ·show (!_) = _
   rw [h, Bool.true_and] at hl
   exact hl
  ·show false = _
   rw [h, Bool.false_and] at hl
   exact hl
theorem rpart_is (s : ByteArray) (hs : s.size <= 1073741824) : ref06_IsPart s (partB s) := by
 have b := byteN_eq s 0
 have hl := letter (byteN s 0)
 have e0 : (((s.size : Int) == 0) || (decide (40 < (s.size : Int)))) = !(decide (1 <= s.size /\ s.size <= 40)) := by
  rw [show ((s.size : Int) == 0) = decide (s.size = 0) from int_eqN _ 0, ← Bool.decide_or, ← decide_not]
  exact decide_eq_decide.2 (by omega)
 refine ref06_IsPart_step _ _ ?_
 rw [e0]
 refine ⟨fun z => z = !(decide (1 <= s.size /\ s.size <= 40) && isL (byteN s 0)), fun z hz => ⟨fun h => ?_, fun h => ?_⟩, fun h => ?_, fun h => ?_⟩
 ·rw [hz] at h
  have h : (decide (1 <= s.size /\ s.size <= 40) && isL (byteN s 0)) = false := Bool.not_eq_true' _ ▸ h
  rw [partB, ← Bool.and_assoc, h]; rfl
 ·rw [hz] at h
  have h : (decide (1 <= s.size /\ s.size <= 40) && isL (byteN s 0)) = true := Bool.not_eq_false' _ ▸ h
  rw [partB, ← Bool.and_assoc, h, Bool.true_and]
  rw [Bool.and_eq_true, decide_eq_true_eq] at h
  have h1 := rpart_j s hs _ 1 rfl h.1.1
  have hw : isW (byteN s 0) = true := by rw [isW, h.2]; rfl
  have e := bs_drop s 0 (by omega)
  rw [List.drop_zero] at e
  rw [e, List.all_cons, hw, Bool.true_and]
  exact h1
 ·show true = _
  have h : decide (1 <= s.size /\ s.size <= 40) = false := Bool.not_eq_true' _ ▸ h
  rw [h]; rfl
 ·have h : decide (1 <= s.size /\ s.size <= 40) = true := Bool.not_eq_false' _ ▸ h
  have h' := of_decide_eq_true h
  rw [h, Bool.true_and, show byteAt s (0 : Int).toNat = ((byteN s 0 : Nat) : Int) from b.1]
  refine ⟨⟨by omega, by omega⟩, _, ref06_small_step _ _ rfl, fun z => z = !(isL (byteN s 0)), fun z hz => hz, fun h => ⟨⟨by omega, by omega⟩, _, ref06_capital_step _ _ rfl, ?_⟩, fun h => ?_⟩
  ·show (!_) = _
   rw [h, Bool.true_and] at hl
   exact hl
  ·show false = _
   rw [h, Bool.false_and] at hl
   exact hl
def nameV (s : ByteArray) : List GItem -> Option GItem
 | [] => none
 | i :: l => if i.Name = s then some i else nameV s l
def nameR (s : ByteArray) (l : List GItem) : GValue × Int := match nameV s l with
 | some it => (mkV 9 (wU it.Num) ⟨#[]⟩, 0)
 | none => (nV0, 16)
theorem pname_j (mg : Int) (e : GEnum) (he : e.Items.length <= 140737488351232) (s : ByteArray) : ∀ d i : Nat, e.Items.length - i = d -> i <= e.Items.length -> textform_ParseScalar_j2 i e s mg (nameR s (e.Items.drop i)) := by
 intro d
 induction d with
 | zero =>
  intro i hd hi
  rw [List.drop_eq_nil_of_le (by omega)]
  exact textform_ParseScalar_j2_step _ _ _ _ _ ⟨fun h => absurd (of_decide_eq_true h) (by omega), fun _ => rfl⟩
 | succ d ih =>
  intro i hd hi
  have hlt : i < e.Items.length := by omega
  have e1 : wI ((i : Int) + 1) = ((i + 1 : Nat) : Int) := by rw [wI, wrapI (by omega)]; omega
  rw [List.drop_eq_getElem_cons hlt, nameR, nameV]
  refine textform_ParseScalar_j2_step _ _ _ _ _ ⟨fun _ => ⟨e.Items[i], by simp, by omega, fun h => by rw [if_pos (of_decide_eq_true h)]; rfl, fun h => ?_⟩, fun h => absurd (of_decide_eq_false h) (by omega)⟩
  rw [if_neg (of_decide_eq_false h), e1]
  exact ih (i + 1) (by omega) (by omega)
theorem rpname_j (y : GEnum × Bool) (he : y.1.Items.length <= 140737488351232) (s : ByteArray) : ∀ d i : Nat, y.1.Items.length - i = d -> i <= y.1.Items.length -> ref33_ParseScalar_j2 i s y (nameR s (y.1.Items.drop i)) := by
 intro d
 induction d with
 | zero =>
  intro i hd hi
  rw [List.drop_eq_nil_of_le (by omega)]
  exact ref33_ParseScalar_j2_step _ _ _ _ ⟨fun h => absurd (of_decide_eq_true h) (by omega), fun _ => rfl⟩
 | succ d ih =>
  intro i hd hi
  have hlt : i < y.1.Items.length := by omega
  have e1 : wI ((i : Int) + 1) = ((i + 1 : Nat) : Int) := by rw [wI, wrapI (by omega)]; omega
  rw [List.drop_eq_getElem_cons hlt, nameR, nameV]
  refine ref33_ParseScalar_j2_step _ _ _ _ ⟨fun _ => ⟨y.1.Items[i], by simp, by omega, fun h => ⟨y.1.Items[i], by simp, by omega, by rw [if_pos (of_decide_eq_true h)]; rfl⟩, fun h => ?_⟩, fun h => absurd (of_decide_eq_false h) (by omega)⟩
  rw [if_neg (of_decide_eq_false h), e1]
  exact ih (i + 1) (by omega) (by omega)
theorem parse9_ok (s : ByteArray) : 0 <= (parseV 9 s).1.Bits /\ (parseV 9 s).1.Bits < 18446744073709551616 := by
 rw [parseV, if_neg (by decide), if_neg (by decide), if_neg (by decide), if_neg (by decide), if_neg (by decide), wholeV]
 split
 ·split
  ·simp [nV0]
  ·rename_i b hb
   have hlt : b < 18446744073709551616 := by
    unfold bitsW at hb
    repeat' split at hb
    all_goals (cases hb; try omega)
   split
   ·simp only [mkV]; omega
   ·simp [nV0]
 ·simp [nV0]
def pscalV (p : GPlan) (o : GOp) (s : ByteArray) : GValue × Int :=
 if ¬ (1 <= o.Kind /\ o.Kind <= 9) then (nV0, 12) else if o.Kind ≠ 9 then parseV o.Kind s
 else if hasP s ⟨#[35]⟩ = true then (if (parseV 9 (s.extract 1 s.size)).2 ≠ 0 then (nV0, (parseV 9 (s.extract 1 s.size)).2) else if (itemV (parseV 9 (s.extract 1 s.size)).1.Bits (itemsOf p o.Target)).2 = true ∨ accB p o.Target (parseV 9 (s.extract 1 s.size)).1.Bits = false then (nV0, 16) else ((parseV 9 (s.extract 1 s.size)).1, 0))
 else if partB s = false then (nV0, 2) else nameR s (itemsOf p o.Target)
theorem pscal_is (mg : Int) (p : GPlan) (hp : OkE p) (o : GOp) (s : ByteArray) (hs : s.size <= 1073741824) : textform_ParseScalar mg p o s (pscalV p o s) := by
 have hi : ∀ g ∈ p.Enums, g.Items.length <= 140737488351232 := fun g hg => (hp.i g hg).1
 refine textform_ParseScalar_step _ _ _ _ _ ⟨_, scalar_Is_step _ _ rfl, fun h => ?_, fun h => ?_⟩
 ·rw [pscalV, if_pos]
  ·rfl
  ·intro q; simp at h; omega
 have hk : 1 <= o.Kind /\ o.Kind <= 9 := by simp at h; omega
 rw [pscalV, if_neg (fun q => q hk)]
 refine ⟨fun h9 => ⟨_, parse_is mg _ s hs, ?_⟩, fun h9 => ⟨_, cutp_is s _, ?_⟩⟩
 ·have h9 : o.Kind ≠ 9 := by simpa using h9
  rw [if_pos h9]
 have h9 : ¬ o.Kind ≠ 9 := by simpa using h9
 rw [if_neg h9]
 unfold cutP
 by_cases hc : hasP s ⟨#[35]⟩ = true
 ·rw [if_pos hc, if_pos hc]
  have hx := size_cut s (l := 1) (Nat.le_refl _)
  have hb := parse9_ok (s.extract 1 s.size)
  refine ⟨fun _ => ⟨_, parse_is mg 9 (s.extract 1 s.size) (by omega), ?_⟩, fun h => (by cases h)⟩
  generalize parseV 9 (s.extract 1 s.size) = y at *
  refine ⟨fun h => ?_, fun h => ⟨_, itemOf_is p hi _ _, fun z => z = decide ((itemV y.1.Bits (itemsOf p o.Target)).2 = true ∨ accB p o.Target y.1.Bits = false), fun z hz => ⟨fun q => ?_, fun q => ?_⟩, fun q => ?_, fun q => ⟨_, accepts_is p hp _ _ hb.1, ?_⟩⟩⟩
  ·have h : y.2 ≠ 0 := by simpa using h
   rw [if_pos h]; rfl
  ·have h : ¬ y.2 ≠ 0 := by simpa using h
   rw [hz] at q
   rw [if_neg h, if_pos (of_decide_eq_true q)]; rfl
  ·have h : ¬ y.2 ≠ 0 := by simpa using h
   rw [hz] at q
   rw [if_neg h, if_neg (of_decide_eq_false q)]
  ·show true = _
   rw [eq_comm, decide_eq_true_eq]; exact .inl q
  ·show (!_) = _
   rw [q]
   cases accB p o.Target y.1.Bits <;> simp
 ·rw [if_neg hc, if_neg hc]
  refine ⟨fun h => (by cases h), fun _ => ⟨_, ipart_is s hs, fun h => ?_, fun h => ?_⟩⟩
  ·have h : partB s = false := by simpa using h
   rw [if_pos h]; rfl
  ·have h : partB s = true := by simpa using h
   rw [if_neg (by rw [h]; decide)]
   refine ⟨fun ht => ?_, fun ht => ?_⟩
   ·have ht : 0 <= o.Target /\ o.Target < (p.Enums.length : Int) := by simpa using ht
    have hlt : o.Target.toNat < p.Enums.length := by omega
    refine ⟨_, List.getElem?_eq_getElem hlt, by omega, ?_⟩
    have := pname_j mg _ (hi _ (List.getElem_mem hlt)) s _ 0 rfl (Nat.zero_le _)
    rw [itemsOf, if_neg (by omega), List.getElem?_eq_getElem hlt]
    exact this
   ·have ht : ¬ (0 <= o.Target /\ o.Target < (p.Enums.length : Int)) := by
     intro q; simp only [Bool.and_eq_false_iff, decide_eq_false_iff_not] at ht; omega
    rw [itemsOf, if_pos (by omega)]; rfl
theorem rpscal_is (p : GPlan) (hp : OkE p) (o : GOp) (s : ByteArray) (hs : s.size <= 1073741824) : ref33_ParseScalar p o s (pscalV p o s) := by
 have hi : ∀ g ∈ p.Enums, g.Items.length <= 140737488351232 := fun g hg => (hp.i g hg).1
 refine ref33_ParseScalar_step _ _ _ _ ⟨fun h => ?_, fun h => ?_⟩
 ·rw [pscalV, if_pos]
  ·rfl
  ·intro q; simp at h; omega
 have hk : 1 <= o.Kind /\ o.Kind <= 9 := by simp at h; omega
 obtain ⟨y, hy, h5, h6⟩ := renum_is p hi o
 have b := byteN_eq s 0
 have hc1 := hasP1 s 35
 rw [pscalV, if_neg (fun q => q hk)]
 refine ⟨fun h9 => ⟨_, rparse_is _ s hs, ?_⟩, fun h9 => ⟨y, hy, fun z => z = hasP s ⟨#[35]⟩, fun z hz => ⟨fun hc => ?_, fun hc => ?_⟩, fun h0 => ?_, fun h0 => ?_⟩⟩
 ·have h9 : o.Kind ≠ 9 := by simpa using h9
  rw [if_pos h9]
 ·have h9 : ¬ o.Kind ≠ 9 := by simpa using h9
  rw [hz] at hc
  have hc' := hc
  rw [hc1] at hc'
  have hc' := of_decide_eq_true hc'
  rw [if_neg h9, if_pos hc]
  have hx := size_cut s (l := 1) (Nat.le_refl _)
  have hb := parse9_ok (s.extract 1 s.size)
  refine ⟨⟨by omega, by omega, by omega⟩, _, rparse_is 9 (s.extract 1 s.size) (by omega), ?_⟩
  generalize parseV 9 (s.extract 1 s.size) = w at *
  refine ⟨fun h => ?_, fun h => ⟨_, ritem_is _ h6 _, fun z => z = decide ((itemV w.1.Bits (itemsOf p o.Target)).2 = true ∨ accB p o.Target w.1.Bits = false), fun z hz => ⟨fun q => ?_, fun q => ?_⟩, fun q => ?_, fun q => ⟨_, raccepts_is p hp _ _ hb.1, ?_⟩⟩⟩
  ·have h : w.2 ≠ 0 := by simpa using h
   rw [if_pos h]; rfl
  ·have h : ¬ w.2 ≠ 0 := by simpa using h
   rw [hz] at q
   rw [if_neg h, if_pos (of_decide_eq_true q)]; rfl
  ·have h : ¬ w.2 ≠ 0 := by simpa using h
   rw [hz] at q
   rw [if_neg h, if_neg (of_decide_eq_false q)]
  ·show true = _
   rw [h5] at q
   rw [eq_comm, decide_eq_true_eq]; exact .inl q
  ·show (!_) = _
   rw [h5] at q
   simp only at q
   rw [q]
   cases accB p o.Target w.1.Bits <;> simp
 ·have h9 : ¬ o.Kind ≠ 9 := by simpa using h9
  rw [hz] at hc
  rw [if_neg h9, if_neg (by rw [hc]; decide)]
  refine ⟨_, rpart_is s hs, fun h => ?_, fun h => ?_⟩
  ·have h : partB s = false := by simpa using h
   rw [if_pos h]; rfl
  ·have h : partB s = true := by simpa using h
   rw [if_neg (by rw [h]; decide), ← h5]
   exact rpname_j y h6 s _ 0 rfl (Nat.zero_le _)
 ·have h0 : ¬ s.size = 0 := by
   intro q
   have := (size_zero s).2 q
   simp [this] at h0
  refine ⟨⟨by omega, by omega⟩, ?_⟩
  show (_ == _) = _
  rw [show byteAt s (0 : Int).toNat = ((byteN s 0 : Nat) : Int) from b.1, show (((byteN s 0 : Nat) : Int) == 35) = decide (byteN s 0 = 35) from int_eqN _ 35, hc1]
  have h0' : 0 < s.size := by omega
  simp [h0']
 ·show false = _
  have h0 : s = ⟨#[]⟩ := by simpa using h0
  rw [hc1, decide_eq_false (by rw [h0]; exact fun q => absurd q.1 (by decide))]
theorem same_mk (a b : GValue) (h1 : a.Kind = b.Kind) (h2 : a.Bits = b.Bits) (h3 : a.Text = b.Text) (ha : loneV a = true) (hb : loneV b = true) : ref17_Same a b true := by
 have ha := of_decide_eq_true ha; have hb := of_decide_eq_true hb
 refine ref17_Same_step _ _ _ ⟨fun h => ?_, fun _ => ?_⟩
 ·rw [h1, h2, h3, ha.1, ha.2.1, ha.2.2.1, ha.2.2.2, hb.1, hb.2.1, hb.2.2.1, hb.2.2.2] at h
  simp at h
 refine ref17_Same_j16_step _ _ _ _ ⟨fun h => absurd (of_decide_eq_true h) (by omega), fun _ => ?_⟩
 refine ref17_Same_j24_step _ _ _ _ ⟨fun h => absurd (of_decide_eq_true h) (by omega), fun _ => ?_⟩
 refine ref17_Same_j28_step _ _ _ _ ⟨fun h => absurd (of_decide_eq_true h) (by omega), fun _ => ?_⟩
 exact ref17_Same_j30_step _ _ _ _ ⟨fun h => absurd (of_decide_eq_true h) (by omega), fun _ => rfl⟩
theorem valD_nil (a : Nat) : valD a [] = a := rfl
theorem valD_end : ∀ (l : List Nat) (a c : Nat), valD a (l ++ [c]) = 10 * valD a l + (c - 48)
 | [], a, c => by rw [List.nil_append, valD_cons, valD_nil, valD_nil]
 | x :: l, a, c => by rw [List.cons_append, valD_cons, valD_cons, valD_end l]
theorem bs_dig (d : Nat) (h : d < 10) : bs (⟨#[UInt8.ofNat (48 + d)]⟩ : ByteArray) = [48 + d] := by
 show [(UInt8.ofNat (48 + d)).toNat] = _
 rw [UInt8.toNat_ofNat_of_lt' (by simp [UInt8.size]; omega)]
theorem dec_bs : ∀ u : Nat, bs (decB u) ≠ [] /\ (bs (decB u)).all isD = true /\ valD 0 (bs (decB u)) = u /\ (u ≠ 0 -> (bs (decB u)).head? ≠ some 48) := by
 intro u
 induction u using Nat.strongRecOn with
 | _ u ih =>
  by_cases h : u < 10
  ·rw [decB_one u h, bs_dig u h]
   refine ⟨by simp, ?_, ?_, fun h0 => ?_⟩
   ·simp [isD]; omega
   ·rw [valD_cons, valD_nil]; omega
   ·simp; omega
  ·obtain ⟨h1, h2, h3, h4⟩ := ih (u / 10) (by omega)
   rw [decB_more u h, bs_app, bs_dig _ (by omega)]
   refine ⟨by simp, ?_, ?_, fun _ => ?_⟩
   ·rw [List.all_append, h2]; simp [isD]; omega
   ·rw [valD_end, h3]; omega
   ·have h4 := h4 (by omega)
    cases hb : bs (decB (u / 10)) with
    | nil => exact absurd hb h1
    | cons c r => rw [hb] at h4; simpa using h4
theorem byte_head (s : ByteArray) (h : bs s ≠ []) : 0 < s.size /\ (bs s).head? = some (byteN s 0) := by
 have hz : 0 < s.size := by
  rcases Nat.eq_zero_or_pos s.size with q | q
  ·exact absurd (List.eq_nil_of_length_eq_zero (by rw [bs_len]; exact q)) h
  ·exact q
 have := bs_drop s 0 hz
 rw [List.drop_zero] at this
 exact ⟨hz, by rw [this]; rfl⟩
theorem dec_byte (u : Nat) : 0 < (decB u).size /\ 48 <= byteN (decB u) 0 /\ byteN (decB u) 0 <= 57 /\ (u ≠ 0 -> byteN (decB u) 0 ≠ 48) := by
 obtain ⟨h1, h2, h3, h4⟩ := dec_bs u
 obtain ⟨k1, k2⟩ := byte_head _ h1
 have hm : byteN (decB u) 0 ∈ bs (decB u) := List.mem_of_mem_head? (by rw [k2]; rfl)
 have hd := of_decide_eq_true (List.all_eq_true.1 h2 _ hm)
 exact ⟨k1, hd.1, hd.2, fun h0 q => h4 h0 (by rw [k2, q])⟩
theorem dec_plus (u : Nat) : negS (decB u) = false /\ digS (decB u) = decB u /\ decQ (decB u) = true /\ vS (decB u) = u := by
 obtain ⟨h1, h2, h3, h4⟩ := dec_bs u
 obtain ⟨k1, k2, k3, k4⟩ := dec_byte u
 have hn : negS (decB u) = false := decide_eq_false (by omega)
 have hd : digS (decB u) = decB u := by rw [digS, if_neg (by rw [hn]; decide)]
 refine ⟨hn, hd, ?_, by rw [vS, hd, h3]⟩
 rw [decQ, hd, h2, Bool.and_true, decide_eq_true_eq]
 refine ⟨by omega, fun q => ?_⟩
 by_cases h0 : u = 0
 ·subst h0
  exact q.2 (decB_one 0 (by decide))
 ·exact k4 h0 q.1
theorem neg_cut (t : ByteArray) : negS (⟨#[45]⟩ ++ t) = true /\ digS (⟨#[45]⟩ ++ t) = t := by
 have hz : ((⟨#[45]⟩ : ByteArray) ++ t).size = 1 + t.size := by rw [ba_size]; rfl
 have hb : byteN ((⟨#[45]⟩ : ByteArray) ++ t) 0 = 45 := byteN_left _ _ (j := 0) (by show 0 < 1; omega)
 have hn : negS ((⟨#[45]⟩ : ByteArray) ++ t) = true := decide_eq_true (by omega)
 refine ⟨hn, ?_⟩
 rw [digS, if_pos hn]
 apply bs_inj
 rw [bs_cut, bs_app, hz, List.take_of_length_le (by rw [List.length_append, bs_len, bs_len]; exact Nat.le_refl _)]
 rfl
theorem dec_neg (u : Nat) (hu : u ≠ 0) : decQ (⟨#[45]⟩ ++ decB u) = true /\ vS (⟨#[45]⟩ ++ decB u) = u := by
 obtain ⟨h1, h2, h3, h4⟩ := dec_bs u
 obtain ⟨k1, k2, k3, k4⟩ := dec_byte u
 have hd := (neg_cut (decB u)).2
 refine ⟨?_, by rw [vS, hd, h3]⟩
 rw [decQ, hd, h2, Bool.and_true, decide_eq_true_eq]
 exact ⟨by omega, fun q => k4 hu q.1⟩
theorem whole_txt (v : GValue) (hv : OkV v) (hf : fitsV v.Kind v = true) (hk : v.Kind = 2 ∨ v.Kind = 3 ∨ v.Kind = 4 ∨ v.Kind = 5 ∨ v.Kind = 9) : wholeV v.Kind (txtV v) = (mkV v.Kind v.Bits ⟨#[]⟩, 0) := by
 have b0 := hv.b0; have b1 := hv.b1
 have eb : ((v.Bits.toNat : Nat) : Int) = v.Bits := by omega
 have hw := (fits_facts v hf).2.2.2 (by omega)
 have fin : ∀ s, decQ s = true -> bitsW v.Kind s = some v.Bits.toNat -> wholeV v.Kind s = (mkV v.Kind v.Bits ⟨#[]⟩, 0) := by
  intro s h1 h2
  rw [wholeV, if_pos h1, h2]
  simp only
  rw [eb, if_pos hw]
 have low : ∀ u : Nat, u = v.Bits.toNat -> (v.Kind = 2 ∨ v.Kind = 3 -> u < 9223372036854775808) -> wholeV v.Kind (decB u) = (mkV v.Kind v.Bits ⟨#[]⟩, 0) := by
  intro u hu hl
  obtain ⟨h1, h2, h3, h4⟩ := dec_plus u
  refine fin _ h3 ?_
  rw [bitsW, if_neg (by rw [h1]; decide), h4]
  by_cases h23 : v.Kind = 2 ∨ v.Kind = 3
  ·have : sgn v.Kind = true := by rcases h23 with q | q <;> rw [q] <;> rfl
   rw [if_pos this, if_pos (hl h23), hu]
  ·have : sgn v.Kind = false := by rcases hk with q | q | q | q | q <;> first | (exfalso; omega) | (rw [q]; rfl)
   rw [if_neg (by rw [this]; decide), if_pos (by omega), hu]
 unfold txtV
 rw [if_neg (by rw [hf]; decide), if_neg (by omega)]
 by_cases h23 : v.Kind = 2 ∨ v.Kind = 3
 ·rw [if_pos h23, ← eb]
  rcases Nat.lt_or_ge v.Bits.toNat 9223372036854775808 with q | q
  ·rw [intT_low _ q, eb]; exact low _ rfl fun _ => q
  ·rw [intT_big _ q (by omega), eb]
   obtain ⟨h1, h2⟩ := dec_neg (18446744073709551616 - v.Bits.toNat) (by omega)
   refine fin _ h1 ?_
   have : sgn v.Kind = true := by rcases h23 with q | q <;> rw [q] <;> rfl
   rw [bitsW, if_pos (neg_cut _).1, h2, if_pos ⟨this, by omega⟩]
   congr 1; omega
 ·rw [if_neg h23, if_neg (by omega), if_neg (by omega), if_neg (by omega)]
  exact low _ rfl fun h => absurd h h23
theorem unqN_on {s : ByteArray} {c : Nat} {r : List Nat} {i : Nat} (h : (bs s).drop i = c :: r) : i < s.size /\ byteN s i = c /\ (bs s).drop (i + 1) = r := by
 have hi : i < s.size := by
  rcases Nat.lt_or_ge i s.size with q | q
  ·exact q
  ·rw [bs_end s i q] at h; cases h
 rw [bs_drop s i hi] at h
 cases h
 exact ⟨hi, rfl, rfl⟩
theorem unqN_plain (s : ByteArray) (f i : Nat) (l : List Nat) {c : Nat} {r : List Nat} (h : (bs s).drop i = c :: r) (h1 : c ≠ 34) (h2 : c ≠ 92) : unqN s (f + 1) i l = unqN s f (i + 1) (l ++ [c]) := by
 obtain ⟨a, b, d⟩ := unqN_on h
 rw [unqN, if_neg (by omega), if_neg (by omega), if_neg (by omega), b]
theorem unqN_esc (s : ByteArray) (f i : Nat) (l : List Nat) {r : List Nat} {b n : Nat} (h : (bs s).drop i = 92 :: r) (h1 : escQ r = (b, n)) (h2 : n ≠ 0) : unqN s (f + 1) i l = unqN s f (i + n) (l ++ [b]) := by
 obtain ⟨a, b', d⟩ := unqN_on h
 rw [unqN, if_neg (by omega), if_neg (by omega), if_pos b', d, h1]
 simp only
 rw [if_neg h2]
theorem unqN_run (s : ByteArray) : ∀ (m : List Nat) (f i : Nat) (l r : List Nat), (∀ c ∈ m, c ≠ 34 /\ c ≠ 92) -> (bs s).drop i = m ++ r -> unqN s (f + m.length) i l = unqN s f (i + m.length) (l ++ m)
 | [], f, i, l, r, _, _ => by simp
 | c :: m, f, i, l, r, hm, h => by
  have hc := hm c List.mem_cons_self
  obtain ⟨_, _, h2⟩ := unqN_on h
  rw [List.length_cons, ← Nat.add_assoc, unqN_plain s (f + m.length) i l h hc.1 hc.2, unqN_run s m f (i + 1) (l ++ [c]) r (fun x hx => hm x (List.mem_cons_of_mem _ hx)) h2]
  simp [Nat.add_assoc, Nat.add_comm 1]
theorem sizeN_high (n b0 b1 b2 b3 m : Nat) (hm : sizeN n b0 b1 b2 b3 = m) (h : m ≠ 0) : (b0 < 128 -> m = 1) /\ (¬ b0 < 128 -> (1 < m -> 128 <= b1) /\ (2 < m -> 128 <= b2) /\ (3 < m -> 128 <= b3) /\ m <= 4) := by
 unfold sizeN at hm
 repeat' split at hm
 all_goals (subst hm; refine ⟨fun _ => ?_, fun _ => ⟨fun _ => ?_, fun _ => ?_, fun _ => ?_, ?_⟩⟩ <;> omega)
theorem size_low (t : ByteArray) (p : Nat) (h : byteN t p < 128) : sizeAt t p = 1 := by
 have h : (t.get! p).toNat < 128 := by rw [← byteN_get]; exact h
 unfold sizeAt sizeN
 rw [if_pos h]
theorem char_bytes (t : ByteArray) (p : Nat) (hp : p < t.size) (h0 : sizeAt t p ≠ 0) (h34 : byteN t p ≠ 34) (h92 : byteN t p ≠ 92) : ∀ c ∈ bs (t.extract p (p + sizeAt t p)), c ≠ 34 /\ c ≠ 92 := by
 intro c hc
 have hle := sizeAt_le t p hp
 rw [bs_cut] at hc
 obtain ⟨j, hj, rfl⟩ := List.mem_iff_getElem.1 hc
 rw [List.length_drop, List.length_take, bs_len] at hj
 have e : (((bs t).take (p + sizeAt t p)).drop p)[j]'(by rw [List.length_drop, List.length_take, bs_len]; exact hj) = byteN t (p + j) := by
  rw [List.getElem_drop, List.getElem_take]
  have := bs_get t (p + j) (by omega)
  rw [List.getElem?_eq_getElem (by rw [bs_len]; omega)] at this
  exact Option.some.inj this
 rw [e]
 by_cases hl : byteN t p < 128
 ·have := size_low t p hl
  have hj0 : j = 0 := by omega
  subst hj0
  exact ⟨h34, h92⟩
 ·have g := (sizeN_high _ _ _ _ _ (sizeAt t p) rfl h0).2 (by rw [← byteN_get]; exact hl)
  rw [← byteN_get, ← byteN_get, ← byteN_get] at g
  have : j = 0 ∨ j = 1 ∨ j = 2 ∨ j = 3 := by omega
  rcases this with rfl | rfl | rfl | rfl
  ·constructor <;> (show byteN t p ≠ _; omega)
  ·have := g.1 (by omega); constructor <;> omega
  ·have := g.2.1 (by omega); constructor <;> omega
  ·have := g.2.2.1 (by omega); constructor <;> omega
theorem quoteN_pos (t : ByteArray) : ∀ g p : Nat, 0 < (quoteN t g p).size
 | 0, _ => Nat.zero_lt_one
 | g + 1, p => by
  rw [quoteN]
  split
  ·have := quoteN_pos t g (p + stepN t p)
   rw [ba_size]; omega
  ·exact Nat.zero_lt_one
theorem unq_quote (t s : ByteArray) (hs : s = quoteV t) : ∀ (g p i : Nat), t.size - p <= g -> p <= t.size -> (bs s).drop i = bs (quoteN t g p) -> ∀ f, s.size < f + i -> unqN s f i ((bs t).take p) = (t, (s.size : Int), 0) := by
 intro g
 have fin : ∀ p i, ¬ p < t.size -> (bs s).drop i = bs (⟨#[34]⟩ : ByteArray) -> ∀ f, s.size < f + i -> unqN s f i ((bs t).take p) = (t, (s.size : Int), 0) := by
  intro p i hp h f hf
  obtain ⟨a, b, d⟩ := unqN_on (c := 34) (r := []) h
  have hz : i + 1 = s.size := by
   have := congrArg List.length d
   rw [List.length_drop, bs_len] at this
   simp at this; omega
  cases f with
  | zero => omega
  | succ f =>
   rw [List.take_of_length_le (by rw [bs_len]; omega), unqN, if_neg (by omega), if_pos b, nB_bs, hz, if_pos]
   apply bs_inj
   rw [bs_cut, List.drop_zero, List.take_of_length_le (by rw [bs_len]; exact Nat.le_refl _), hs]
 induction g with
 | zero => intro p i h1 h2 h f hf; exact fin p i (by omega) h f hf
 | succ g ih =>
  intro p i h1 h2 h f hf
  by_cases hp : p < t.size
  rotate_left
  ·rw [quoteN, if_neg hp] at h; exact fin p i hp h f hf
  have k1 := stepN_pos t p; have k2 := stepN_le t p hp
  rw [quoteN, if_pos hp, bs_app] at h
  have nx : ∀ (m : Nat), (bs (formV t p)).length = m -> (bs s).drop (i + m) = bs (quoteN t g (p + stepN t p)) := by
   intro m hm
   rw [← List.drop_drop, h, ← hm, List.drop_left]
  have one : ∀ b, byteN t p = b -> stepN t p = 1 -> (bs t).take (p + stepN t p) = (bs t).take p ++ [b] := by
   intro b hb e
   rw [e, List.take_add_one, bs_get t p hp, hb]; rfl
  have hl : i < s.size := by
   rcases Nat.lt_or_ge i s.size with q | q
   ·exact q
   ·rw [bs_end s i q] at h
    have := congrArg List.length h
    have h5 := quoteN_pos t g (p + stepN t p)
    rw [List.length_append, bs_len, bs_len] at this
    simp only [List.length_nil] at this
    omega
  cases f with
  | zero => omega
  | succ f =>
  have low : byteN t p < 128 -> stepN t p = 1 := fun q => by unfold stepN; rw [size_low t p q]; rfl
  have short : ∀ c b : Nat, formV t p = nB [92, c] -> c < 256 -> plQ c = some b -> byteN t p = b -> byteN t p < 128 -> unqN s (f + 1) i ((bs t).take p) = (t, (s.size : Int), 0) := by
   intro c b hF hc hq hb hlow
   have e := one b hb (low hlow)
   have hB : bs (formV t p) = [92, c] := by rw [hF]; exact bs_nB (by simp; omega)
   rw [hB] at h
   rw [unqN_esc s f i _ (b := b) (n := 2) h (by show (match plQ c with | some b => (b, 2) | none => _) = _; rw [hq]) (by decide), ← e]
   exact ih _ _ (by omega) k2 (nx 2 (by rw [hB]; rfl)) f (by omega)
  by_cases g1 : byteN t p = 34
  ·exact short 34 34 (by unfold formV; rw [if_pos g1]; rfl) (by decide) rfl g1 (by omega)
  by_cases g2 : byteN t p = 92
  ·exact short 92 92 (by unfold formV; rw [if_neg g1, if_pos g2]; rfl) (by decide) rfl g2 (by omega)
  by_cases g3 : byteN t p = 10
  ·exact short 110 10 (by unfold formV; rw [if_neg g1, if_neg g2, if_pos g3]; rfl) (by decide) rfl g3 (by omega)
  by_cases g4 : byteN t p = 9
  ·exact short 116 9 (by unfold formV; rw [if_neg g1, if_neg g2, if_neg g3, if_pos g4]; rfl) (by decide) rfl g4 (by omega)
  by_cases g5 : byteN t p = 13
  ·exact short 114 13 (by unfold formV; rw [if_neg g1, if_neg g2, if_neg g3, if_neg g4, if_pos g5]; rfl) (by decide) rfl g5 (by omega)
  have hb := (byteN_eq t p).2
  by_cases g6 : byteN t p < 32 ∨ byteN t p = 127 ∨ sizeAt t p = 0
  ·have hst : stepN t p = 1 := by
    rcases g6 with q | q | q
    ·exact low (by omega)
    ·exact low (by omega)
    ·unfold stepN; rw [if_pos q]
   have e := one _ rfl hst
   have hF : formV t p = escV (byteN t p) := by unfold formV; rw [if_neg g1, if_neg g2, if_neg g3, if_neg g4, if_neg g5, if_pos g6]
   have hB : bs (formV t p) = [92, 120, (hexC (byteN t p / 16)).toNat, (hexC (byteN t p % 16)).toNat] := by rw [hF]; rfl
   rw [hB] at h
   have hE : escQ ([120, (hexC (byteN t p / 16)).toNat, (hexC (byteN t p % 16)).toNat] ++ bs (quoteN t g (p + stepN t p))) = (byteN t p, 4) := by
    show (if 120 = 120 then hexQ ((hexC (byteN t p / 16)).toNat :: (hexC (byteN t p % 16)).toNat :: bs (quoteN t g (p + stepN t p))) else (0, 0)) = _
    rw [if_pos rfl, hexQ_ok _ (dg_hex _ (by omega)) (dg_hex _ (by omega))]
    congr 1; omega
   rw [unqN_esc s f i _ h hE (by decide), ← e]
   exact ih _ _ (by omega) k2 (nx 4 (by rw [hB]; rfl)) f (by omega)
  ·have h0 : sizeAt t p ≠ 0 := fun q => g6 (.inr (.inr q))
   have hst : stepN t p = sizeAt t p := by unfold stepN; rw [if_neg h0]
   have hle := sizeAt_le t p hp
   have hF : formV t p = t.extract p (p + sizeAt t p) := by unfold formV; rw [if_neg g1, if_neg g2, if_neg g3, if_neg g4, if_neg g5, if_neg g6]
   have hm := char_bytes t p hp h0 g1 g2
   rw [← hF] at hm
   have hL : (bs (formV t p)).length = sizeAt t p := by rw [bs_len, hF, size_cut _ hle]; omega
   have hn := nx _ hL
   have hsz : i + sizeAt t p <= s.size := by
    have := congrArg List.length h
    rw [List.length_drop, bs_len, List.length_append, hL] at this
    omega
   have := unqN_run s _ (f + 1 - sizeAt t p) i ((bs t).take p) _ hm h
   rw [hL, show f + 1 - sizeAt t p + sizeAt t p = f + 1 by omega] at this
   rw [this]
   have e : (bs t).take p ++ bs (formV t p) = (bs t).take (p + stepN t p) := by
    rw [hF, bs_cut, hst]
    have : (bs t).take p = ((bs t).take (p + sizeAt t p)).take p := by rw [List.take_take, Nat.min_eq_left (by omega)]
    rw [this, List.take_append_drop]
   rw [e]
   exact ih _ _ (by omega) k2 hn _ (by omega)
theorem unqT_quote (t : ByteArray) : unqT (quoteV t) = (t, ((quoteV t).size : Int), 0) := by
 have hb : bs (quoteV t) = 34 :: bs (quoteN t t.size 0) := by unfold quoteV; rw [bs_app]; rfl
 obtain ⟨a, b, d⟩ := unqN_on (s := quoteV t) (i := 0) hb
 rw [unqT, if_neg (by omega)]
 exact unq_quote t _ rfl t.size 0 1 (by omega) (by omega) d _ (by omega)
theorem bs_hexV (t : ByteArray) : bs (hexV t) = hexO (bs t) := by
 show (hexOf t.data.toList).toArray.toList.map UInt8.toNat = _
 rw [List.toList_toArray, hexO_of]; rfl
theorem text_txt (v : GValue) (hf : fitsV v.Kind v = true) (h7 : v.Kind = 7) : textV 7 (quoteV v.Text) = (mkV 7 0 v.Text, 0) := by
 obtain ⟨h1, h2, h3⟩ := (fits_facts v hf).2.2.1 (.inl h7)
 rw [textV, unqT_quote, if_neg (by simp), if_neg (by decide)]
 show endV 7 v.Text = _
 rw [endV, if_neg (by rw [h3 h7]; simp), if_neg (by omega)]
theorem bytes_txt (v : GValue) (hf : fitsV v.Kind v = true) (h8 : v.Kind = 8) : btV (⟨#[120]⟩ ++ quoteV (hexV v.Text)) = (mkV 8 0 v.Text, 0) := by
 obtain ⟨h1, h2, h3⟩ := (fits_facts v hf).2.2.1 (.inr h8)
 have hz : ((⟨#[120]⟩ : ByteArray) ++ quoteV (hexV v.Text)).size = 1 + (quoteV (hexV v.Text)).size := by rw [ba_size]; rfl
 have hb : byteN ((⟨#[120]⟩ : ByteArray) ++ quoteV (hexV v.Text)) 0 = 120 := byteN_left _ _ (j := 0) (by show 0 < 1; omega)
 have e : ((⟨#[120]⟩ : ByteArray) ++ quoteV (hexV v.Text)).extract 1 ((⟨#[120]⟩ : ByteArray) ++ quoteV (hexV v.Text)).size = quoteV (hexV v.Text) := by
  apply bs_inj
  rw [bs_cut, bs_app, hz, List.take_of_length_le (by rw [List.length_append, bs_len, bs_len]; exact Nat.le_refl _)]
  rfl
 rw [btV, if_pos (by rw [hasP1]; exact decide_eq_true ⟨by omega, hb⟩), e, textV, unqT_quote, if_neg (by simp), if_pos rfl, bs_hexV, unhex_hexO _ (bs_lt _)]
 simp only
 rw [nB_bs, endV, if_neg (by simp), if_neg (by omega)]
theorem parse_txt (v : GValue) (hv : OkV v) (hf : fitsV v.Kind v = true) (h6 : v.Kind ≠ 6) : parseV v.Kind (txtV v) = (mkV v.Kind v.Bits v.Text, 0) := by
 obtain ⟨k1, k2, k3, k4⟩ := fits_facts v hf
 have b0 := hv.b0
 have nt : ¬ (v.Kind = 7 ∨ v.Kind = 8) -> v.Text = ⟨#[]⟩ := by
  intro h
  unfold fitsV at hf
  rw [if_neg h] at hf
  simp only [Bool.and_eq_true, decide_eq_true_eq] at hf
  exact hf.2.1
 by_cases e1 : v.Kind = 1
 ·have hw : v.Bits <= 1 := by
   have := k4 (by omega)
   rw [withinB, if_pos e1] at this
   simpa using this
  have ht : txtV v = if v.Bits = 1 then ⟨#[116, 114, 117, 101]⟩ else ⟨#[102, 97, 108, 115, 101]⟩ := by unfold txtV; rw [if_neg (by rw [hf]; decide), if_pos e1]
  rw [nt (by omega), parseV, if_neg (by omega), if_pos e1, ht]
  by_cases hb : v.Bits = 1
  ·rw [if_pos hb, if_pos rfl, e1, hb]
  ·rw [if_neg hb, if_neg (by decide), if_pos rfl, e1, show v.Bits = 0 by omega]
 by_cases e7 : v.Kind = 7
 ·have ht : txtV v = quoteV v.Text := by unfold txtV; rw [if_neg (by rw [hf]; decide), if_neg e1, if_neg (by omega), if_neg h6, if_pos e7]
  rw [parseV, if_neg (by omega), if_neg e1, if_neg h6, if_pos e7, ht, text_txt v hf e7, e7, (k3 (.inl e7)).1]
 by_cases e8 : v.Kind = 8
 ·have ht : txtV v = ⟨#[120]⟩ ++ quoteV (hexV v.Text) := by unfold txtV; rw [if_neg (by rw [hf]; decide), if_neg e1, if_neg (by omega), if_neg h6, if_neg e7, if_pos e8]
  rw [parseV, if_neg (by omega), if_neg e1, if_neg h6, if_neg e7, if_pos e8, ht, bytes_txt v hf e8, e8, (k3 (.inr e8)).1]
 ·rw [parseV, if_neg (by omega), if_neg e1, if_neg h6, if_neg e7, if_neg e8, whole_txt v hv hf (by omega), nt (by omega)]
def Nm (s : ByteArray) : Prop := 1 <= s.size /\ s.size <= 40 /\ byteAt s 0 ≠ 32
theorem n_part (s : ByteArray) (hs : s.size <= 140737488351232) : Ex (fun r => r = true -> Nm s) (ref06_IsPart s) := by
 refine ex_step (ref06_IsPart_step _) (ex_join ?_)
 have go : ∀ b, (b = false -> Nm s) -> Ex (fun r => r = true -> Nm s) (fun r => (b = true -> r = false) /\ (b = false -> ref06_IsPart_j2 1 s r)) := fun b hb => ex_cond b (fun _ => ex_eq (fun h => by cases h)) (fun h => ex_mono (t_part_j s hs 1) fun r _ _ => hb h)
 refine ex_cond _ (fun _ => go true (fun h => by cases h)) fun h0 => ?_
 have z : 1 <= s.size /\ s.size <= 40 := by
  rw [Bool.or_eq_false_iff] at h0
  have h1 := of_decide_eq_false h0.2
  have h2 := beq_eq_false_iff_ne.1 h0.1
  omega
 refine ex_and (by constructor <;> omega) (ex_val (ref06_small_step _ _ rfl) (ex_join ?_))
 refine ex_cond _ (fun h1 => ex_and (by constructor <;> omega) (ex_val (ref06_capital_step _ _ rfl) (go _ fun h2 => ⟨z.1, z.2, ?_⟩))) fun h1 => go false fun _ => ⟨z.1, z.2, ?_⟩
 ·show byteAt s (0 : Int).toNat ≠ 32
  simp only [Bool.not_eq_false', Bool.and_eq_true, decide_eq_true_eq] at h2
  omega
 ·show byteAt s (0 : Int).toNat ≠ 32
  simp only [Bool.not_eq_false', Bool.and_eq_true, decide_eq_true_eq] at h1
  omega
section
variable {p : GPlan} (hp : OkPlan p)
 include hp
end
def NamQ (p : GPlan) : Prop := ∀ g ∈ p.Enums, ∀ x ∈ g.Items, partB x.Name = true
def UnN (l : List GItem) (m : Nat) : Prop := ∀ (i j : Nat) (x y : GItem), i < j -> j < m -> l[i]? = some x -> l[j]? = some y -> x.Name ≠ y.Name
def UnNP (p : GPlan) : Prop := ∀ g ∈ p.Enums, UnN g.Items g.Items.length
theorem q_part (s : ByteArray) (hs : s.size <= 140737488351232) : Ex (fun r => r = true -> partB s = true) (ref06_IsPart s) := by
 by_cases h : s.size <= 1073741824
 ·exact ⟨_, rpart_is s h, fun q => q⟩
 ·exact ex_mono (n_part s hs) fun r hr q => absurd (hr q).2.1 (by omega)
theorem q_simple (s : ByteArray) (hs : s.size <= 140737488351232) : Ex (fun r => r = true -> partB s = true) (ref22_simple s) :=
 ex_step (ref22_simple_step _) (ex_call (q_part s hs) fun y hy => ex_cond y (fun h => ex_call (t_word s) fun _ _ => ex_eq fun _ => hy h) fun _ => ex_eq fun h => by cases h)
section
variable {p : GPlan} (hp : OkPlan p)
 include hp
theorem q_16 (A Q : Prop) (k : Nat) (hk : k < p.Enums.length) (g : GEnum) (hg : p.Enums[((k : Int)).toNat]? = some g) (og : OkEnum g) (H : ∀ b, (b = true -> A /\ ∀ x ∈ g.Items, partB x.Name = true) -> Ex (fun r => r = true -> Q) (ref22_names_j14 ((k + 1 : Nat) : Int) b p)) : ∀ i : Nat, ∀ b, (b = true -> A /\ ∀ j x, j < i -> g.Items[j]? = some x -> partB x.Name = true) -> Ex (fun r => r = true -> Q) (ref22_names_j16 (i : Int) b (k : Int) p) := by
 have b1 := sz_le hp.np; have b2 := sz_le hp.ne
 have b3 := sz_le og.ni
 refine upn g.Items.length (fun i hi ih b hA => ?_) (fun i hi b hA => ?_)
 ·refine ex_step (ref22_names_j16_step _ _ _ _) (ex_at g hg (by omega) (ex_if (fun _ => ex_cond _ (fun hb => ?_) (fun hb => ?_)) fun h => absurd (show (i : Int) < g.Items.length by omega) h))
  ·rw [wI_up (by omega)]
   refine ex_at g hg (by omega) (ex_idx (by omega) fun x hx hm => ex_call (q_simple _ (og.items _ hm).name) fun y hy => ih _ fun h => ⟨(hA hb).1, fun j z hj hz => ?_⟩)
   by_cases e : j = i
   ·subst e
    have e2 : ((j : Int)).toNat = j := by omega
    rw [e2, hz] at hx
    cases hx
    exact hy h
   ·exact (hA hb).2 j z (by omega) hz
  ·rw [wI_up (by omega)]
   exact ih _ fun h => by cases h
 ·refine ex_step (ref22_names_j16_step _ _ _ _) (ex_at g hg (by omega) (ex_if (fun h => absurd h (by omega)) fun _ => ?_))
  rw [wI_up (by omega)]
  refine H _ fun h => ⟨(hA h).1, fun x hx => ?_⟩
  obtain ⟨j, hj, rfl⟩ := List.mem_iff_getElem.1 hx
  exact (hA h).2 j _ (by omega) (List.getElem?_eq_getElem hj)
theorem q_14 (A Q : Prop) (H : ∀ b, (b = true -> A /\ ∀ g ∈ p.Enums, ∀ x ∈ g.Items, partB x.Name = true) -> Ex (fun r => r = true -> Q) (fun r => r = b)) : ∀ i : Nat, ∀ b, (b = true -> A /\ ∀ j g, j < i -> p.Enums[j]? = some g -> ∀ x ∈ g.Items, partB x.Name = true) -> Ex (fun r => r = true -> Q) (ref22_names_j14 (i : Int) b p) := by
 have b1 := sz_le hp.np; have b2 := sz_le hp.ne
 refine upn p.Enums.length (fun i hi ih b hA => ?_) (fun i hi b hA => ?_)
 ·obtain ⟨g, hg, gm⟩ := getN hi
  have fin : ∀ b', (b' = true -> b = true) -> Ex (fun r => r = true -> Q) (ref22_names_j16 0 b' (i : Int) p) := fun b' hb' => q_16 hp (A /\ ∀ j g, j < i -> p.Enums[j]? = some g -> ∀ x ∈ g.Items, partB x.Name = true) Q i hi g hg (hp.enums g gm) (fun b h => ih b fun hb => ⟨(h hb).1.1, fun j z hj hz => by
   by_cases e : j = i
   ·subst e
    have e2 : ((j : Int)).toNat = j := by omega
    rw [e2, hz] at hg
    cases hg
    exact (h hb).2
   ·exact (h hb).1.2 j z (by omega) hz⟩) 0 b' fun h => ⟨hA (hb' h), fun j x hj => by omega⟩
  refine ex_step (ref22_names_j14_step _ _ _) (ex_if (fun _ => ex_join (ex_cond _ (fun hb => ex_idx (by omega) fun y hy hm => ex_call (t_defined _ (hp.enums _ hm).name) fun z hz => fin z fun _ => hb) fun hb => fin false fun h => by cases h)) fun h => absurd (show (i : Int) < p.Enums.length by omega) h)
 ·refine ex_step (ref22_names_j14_step _ _ _) (ex_if (fun h => absurd h (by omega)) fun _ => H b fun h => ⟨(hA h).1, fun g hg => ?_⟩)
  obtain ⟨j, hj, rfl⟩ := List.mem_iff_getElem.1 hg
  exact (hA h).2 j _ (by omega) (List.getElem?_eq_getElem hj)
theorem q_18 (A Q : Prop) (k : Nat) (hk : k < p.Progs.length) (g : GProg) (hg : p.Progs[((k : Int)).toNat]? = some g) (og : OkProg g) (H : ∀ b, (b = true -> A /\ ∀ x ∈ g.Ops, partB x.Name = true) -> Ex (fun r => r = true -> Q) (ref22_names_j10 ((k + 1 : Nat) : Int) b p)) : ∀ i : Nat, ∀ b, (b = true -> A /\ ∀ j x, j < i -> g.Ops[j]? = some x -> partB x.Name = true) -> Ex (fun r => r = true -> Q) (ref22_names_j18 (i : Int) b (k : Int) p) := by
 have b1 := sz_le hp.np; have b2 := sz_le hp.ne
 have b3 := sz_le og.n
 refine upn g.Ops.length (fun i hi ih b hA => ?_) (fun i hi b hA => ?_)
 ·refine ex_step (ref22_names_j18_step _ _ _ _) (ex_at g hg (by omega) (ex_if (fun _ => ex_cond _ (fun hb => ?_) (fun hb => ?_)) fun h => absurd (show (i : Int) < g.Ops.length by omega) h))
  ·rw [wI_up (by omega)]
   refine ex_at g hg (by omega) (ex_idx (by omega) fun x hx hm => ex_call (q_simple _ (og.ops _ hm).name) fun y hy => ih _ fun h => ⟨(hA hb).1, fun j z hj hz => ?_⟩)
   by_cases e : j = i
   ·subst e
    have e2 : ((j : Int)).toNat = j := by omega
    rw [e2, hz] at hx
    cases hx
    exact hy h
   ·exact (hA hb).2 j z (by omega) hz
  ·rw [wI_up (by omega)]
   exact ih _ fun h => by cases h
 ·refine ex_step (ref22_names_j18_step _ _ _ _) (ex_at g hg (by omega) (ex_if (fun h => absurd h (by omega)) fun _ => ?_))
  rw [wI_up (by omega)]
  refine H _ fun h => ⟨(hA h).1, fun x hx => ?_⟩
  obtain ⟨j, hj, rfl⟩ := List.mem_iff_getElem.1 hx
  exact (hA h).2 j _ (by omega) (List.getElem?_eq_getElem hj)
theorem q_10 (A Q : Prop) (H : ∀ b, (b = true -> A /\ ∀ g ∈ p.Progs, ∀ x ∈ g.Ops, partB x.Name = true) -> Ex (fun r => r = true -> Q) (fun r => ref22_names_j14 0 b p r)) : ∀ i : Nat, ∀ b, (b = true -> A /\ ∀ j g, j < i -> p.Progs[j]? = some g -> ∀ x ∈ g.Ops, partB x.Name = true) -> Ex (fun r => r = true -> Q) (ref22_names_j10 (i : Int) b p) := by
 have b1 := sz_le hp.np; have b2 := sz_le hp.ne
 refine upn p.Progs.length (fun i hi ih b hA => ?_) (fun i hi b hA => ?_)
 ·obtain ⟨g, hg, gm⟩ := getN hi
  have fin : ∀ b', (b' = true -> b = true) -> Ex (fun r => r = true -> Q) (ref22_names_j18 0 b' (i : Int) p) := fun b' hb' => q_18 hp (A /\ ∀ j g, j < i -> p.Progs[j]? = some g -> ∀ x ∈ g.Ops, partB x.Name = true) Q i hi g hg (hp.progs g gm) (fun b h => ih b fun hb => ⟨(h hb).1.1, fun j z hj hz => by
   by_cases e : j = i
   ·subst e
    have e2 : ((j : Int)).toNat = j := by omega
    rw [e2, hz] at hg
    cases hg
    exact (h hb).2
   ·exact (h hb).1.2 j z (by omega) hz⟩) 0 b' fun h => ⟨hA (hb' h), fun j x hj => by omega⟩
  refine ex_step (ref22_names_j10_step _ _ _) (ex_if (fun _ => ex_join (ex_cond _ (fun hb => ex_idx (by omega) fun y hy hm => ex_call (t_defined _ (hp.progs _ hm).name) fun z hz => fin z fun _ => hb) fun hb => fin false fun h => by cases h)) fun h => absurd (show (i : Int) < p.Progs.length by omega) h)
 ·refine ex_step (ref22_names_j10_step _ _ _) (ex_if (fun h => absurd h (by omega)) fun _ => H b fun h => ⟨(hA h).1, fun g hg => ?_⟩)
  obtain ⟨j, hj, rfl⟩ := List.mem_iff_getElem.1 hg
  exact (hA h).2 j _ (by omega) (List.getElem?_eq_getElem hj)
theorem q_names : Ex (fun r => r = true -> (∀ g ∈ p.Enums, ∀ x ∈ g.Items, partB x.Name = true)) (ref22_names p) :=
 ex_step (ref22_names_step _) (q_10 hp True ((∀ g ∈ p.Enums, ∀ x ∈ g.Items, partB x.Name = true)) (fun b hb => q_14 hp (∀ g ∈ p.Progs, ∀ x ∈ g.Ops, partB x.Name = true) ((∀ g ∈ p.Enums, ∀ x ∈ g.Items, partB x.Name = true)) (fun b hb => ex_eq fun h => (hb h).2) 0 b fun h => ⟨(hb h).2, fun j g hj => by omega⟩) 0 true fun _ => ⟨trivial, fun j g hj => by omega⟩)
end
section
variable (p : GPlan) (hp : OkPlan p)
 include hp
theorem u_56 (A Q : Prop) (k : Nat) (g : GEnum) (og : OkEnum g) (m : Nat) (hm : m < g.Items.length) (H : ∀ b, (b = true -> A /\ UnN g.Items (m + 1)) -> Ex (fun r => r = true -> Q) (ref22_single_j54 ((m + 1 : Nat) : Int) g (k : Int) b p)) : ∀ i : Nat, ∀ b, (b = true -> A /\ UnN g.Items m /\ ∀ (j : Nat) (x y : GItem), j < i -> g.Items[j]? = some x -> g.Items[m]? = some y -> x.Name ≠ y.Name) -> Ex (fun r => r = true -> Q) (ref22_single_j56 (i : Int) (m : Int) g (k : Int) b p) := by
 have b3 := sz_le og.ni
 refine upn m (fun i hi ih b hA => ?_) (fun i hi b hA => ?_)
 ·refine ex_step (ref22_single_j56_step _ _ _ _ _ _) (ex_if (fun _ => ex_cond _ (fun hb => ?_) (fun hb => ?_)) fun h => absurd (show (i : Int) < m by omega) h)
  ·refine ex_idx (by omega) fun x hx _ => ex_idx (by omega) fun y hy _ => ?_
   rw [wI_up (by omega)]
   refine ih _ fun h => ⟨(hA hb).1, (hA hb).2.1, fun j z w hj hz hw => ?_⟩
   by_cases e : j = i
   ·subst e
    have e2 : ((j : Int)).toNat = j := by omega
    have e3 : ((m : Int)).toNat = m := by omega
    rw [e2, hz] at hx
    rw [e3, hw] at hy
    cases hx; cases hy
    simpa using h
   ·exact (hA hb).2.2 j z w (by omega) hz hw
  ·rw [wI_up (by omega)]
   exact ih _ fun h => by cases h
 ·refine ex_step (ref22_single_j56_step _ _ _ _ _ _) (ex_if (fun h => absurd h (by omega)) fun _ => ?_)
  rw [wI_up (by omega)]
  refine H b fun h => ⟨(hA h).1, fun a c x y h1 h2 hx hy => ?_⟩
  by_cases e : c = m
  ·subst e
   exact (hA h).2.2 a x y (by omega) hx hy
  ·exact (hA h).2.1 a c x y h1 (by omega) hx hy
theorem u_54 (A Q : Prop) (k : Nat) (g : GEnum) (og : OkEnum g) (hk : k < p.Enums.length) (H : ∀ b, (b = true -> A /\ UnN g.Items g.Items.length) -> Ex (fun r => r = true -> Q) (ref22_single_j48 ((k + 1 : Nat) : Int) b p)) : ∀ i : Nat, ∀ b, (b = true -> A /\ UnN g.Items i) -> Ex (fun r => r = true -> Q) (ref22_single_j54 (i : Int) g (k : Int) b p) := by
 have b2 := sz_le hp.ne
 have b3 := sz_le og.ni
 refine upn g.Items.length (fun i hi ih b hA => ?_) (fun i hi b hA => ?_)
 ·exact ex_step (ref22_single_j54_step _ _ _ _ _) (ex_if (fun _ => u_56 p hp A Q k g og i hi ih 0 b fun h => ⟨(hA h).1, (hA h).2, fun j _ _ hj => absurd hj (by omega)⟩) fun h => absurd (show (i : Int) < g.Items.length by omega) h)
 ·refine ex_step (ref22_single_j54_step _ _ _ _ _) (ex_if (fun h => absurd h (by omega)) fun _ => ?_)
  rw [wI_up (by omega)]
  exact H b fun h => ⟨(hA h).1, fun a c x y h1 h2 => (hA h).2 a c x y h1 (by omega)⟩
theorem u_48 : ∀ i : Nat, ∀ b, (b = true -> ∀ (j : Nat) (g : GEnum), j < i -> p.Enums[j]? = some g -> UnN g.Items g.Items.length) -> Ex (fun r => r = true -> UnNP p) (ref22_single_j48 (i : Int) b p) := by
 have b2 := sz_le hp.ne
 refine upn p.Enums.length (fun i hi ih b hA => ?_) (fun i hi b hA => ?_)
 ·refine ex_step (ref22_single_j48_step _ _ _) (ex_if (fun _ => ex_idx (by omega) fun g hg hm => ?_) fun h => absurd (show (i : Int) < p.Enums.length by omega) h)
  refine u_54 p hp (∀ (j : Nat) (g : GEnum), j < i -> p.Enums[j]? = some g -> UnN g.Items g.Items.length) (UnNP p) i g (hp.enums _ hm) hi (fun b hb => ih b fun h j z hj hz => ?_) 0 b fun h => ⟨hA h, fun _ j _ _ _ hj => absurd hj (by omega)⟩
  by_cases e : j = i
  ·subst e
   have e2 : ((j : Int)).toNat = j := by omega
   rw [e2, hz] at hg
   cases hg
   exact (hb h).2
  ·exact (hb h).1 j z (by omega) hz
 ·refine ex_step (ref22_single_j48_step _ _ _) (ex_if (fun h => absurd h (by omega)) fun _ => ex_eq fun h g hg => ?_)
  obtain ⟨j, hj, rfl⟩ := List.mem_iff_getElem.1 hg
  exact hA h j _ (by omega) (List.getElem?_eq_getElem hj)
theorem u_74 (k : Nat) (g : GProg) (og : OkProg g) (m : Nat) (hm : m < g.Ops.length) (H : ∀ b, Ex (fun r => r = true -> UnNP p) (ref22_single_j72 ((m + 1 : Nat) : Int) g (k : Int) b p)) : ∀ i : Nat, ∀ b, Ex (fun r => r = true -> UnNP p) (ref22_single_j74 (i : Int) (m : Int) g (k : Int) b p) := by
 have b1 := sz_le hp.np; have b2 := sz_le hp.ne
 have b3 := sz_le og.n
 refine upn (m) (fun i hi ih b => ?_) (fun i hi b => ?_)
 ·refine ex_step (ref22_single_j74_step _ _ _ _ _ _) ?_
  try rw [wI_up (by omega)]
  repeat' first | exact ex_eq trivial | exact ih | assumption | exact ih _ | rw [wI_up (by omega)] | exact H _ | refine ex_join ?_ | refine ex_if (fun h => ?_) (fun h => ?_) | refine ex_ne (fun h => ?_) (fun h => ?_) | refine ex_cond _ (fun h => ?_) (fun h => ?_) | refine ex_idx (by omega) (fun y hy hm => ?_) | refine ex_and (by omega) ?_
 ·refine ex_step (ref22_single_j74_step _ _ _ _ _ _) ?_
  repeat' first | exact ex_eq trivial | exact ih | assumption | exact ih _ | rw [wI_up (by omega)] | exact H _ | exact absurd ‹_› (by omega) | (exfalso; omega) | refine ex_join ?_ | refine ex_if (fun h => ?_) (fun h => ?_) | refine ex_ne (fun h => ?_) (fun h => ?_) | refine ex_cond _ (fun h => ?_) (fun h => ?_) | refine ex_idx (by omega) (fun y hy hm => ?_) | refine ex_and (by omega) ?_
theorem u_72 (k : Nat) (g : GProg) (og : OkProg g) (H : ∀ b, Ex (fun r => r = true -> UnNP p) (ref22_single_j38 ((k + 1 : Nat) : Int) b p)) (hk : k < p.Progs.length) : ∀ i : Nat, ∀ b, Ex (fun r => r = true -> UnNP p) (ref22_single_j72 (i : Int) g (k : Int) b p) := by
 have b1 := sz_le hp.np; have b2 := sz_le hp.ne
 have b3 := sz_le og.n
 refine upn (g.Ops.length) (fun i hi ih b => ?_) (fun i hi b => ?_)
 ·refine ex_step (ref22_single_j72_step _ _ _ _ _) ?_
  try rw [wI_up (by omega)]
  repeat' first | exact ex_eq trivial | exact ih | assumption | exact ih _ | exact u_74 p hp k g og i hi ih 0 _ | rw [wI_up (by omega)] | exact H _ | refine ex_join ?_ | refine ex_if (fun h => ?_) (fun h => ?_) | refine ex_ne (fun h => ?_) (fun h => ?_) | refine ex_cond _ (fun h => ?_) (fun h => ?_) | refine ex_idx (by omega) (fun y hy hm => ?_) | refine ex_and (by omega) ?_
 ·refine ex_step (ref22_single_j72_step _ _ _ _ _) ?_
  repeat' first | exact ex_eq trivial | exact ih | assumption | exact ih _ | exact u_74 p hp k g og i hi ih 0 _ | rw [wI_up (by omega)] | exact H _ | exact absurd ‹_› (by omega) | (exfalso; omega) | refine ex_join ?_ | refine ex_if (fun h => ?_) (fun h => ?_) | refine ex_ne (fun h => ?_) (fun h => ?_) | refine ex_cond _ (fun h => ?_) (fun h => ?_) | refine ex_idx (by omega) (fun y hy hm => ?_) | refine ex_and (by omega) ?_
theorem u_66 (k : Nat) (hk : k < p.Progs.length) (H : ∀ b, Ex (fun r => r = true -> UnNP p) (ref22_single_j38 ((k + 1 : Nat) : Int) b p)) : ∀ i : Nat, ∀ b, Ex (fun r => r = true -> UnNP p) (ref22_single_j66 (i : Int) (k : Int) b p) := by
 have b1 := sz_le hp.np; have b2 := sz_le hp.ne
 refine upn (p.Enums.length) (fun i hi ih b => ?_) (fun i hi b => ?_)
 ·refine ex_step (ref22_single_j66_step _ _ _ _) ?_
  try rw [wI_up (by omega)]
  repeat' first | exact ex_eq trivial | exact ih | assumption | exact ih _ | exact u_72 p hp k _ (hp.progs _ ‹_›) H hk 0 _ | refine ex_join ?_ | refine ex_if (fun h => ?_) (fun h => ?_) | refine ex_ne (fun h => ?_) (fun h => ?_) | refine ex_cond _ (fun h => ?_) (fun h => ?_) | refine ex_idx (by omega) (fun y hy hm => ?_) | refine ex_and (by omega) ?_
 ·refine ex_step (ref22_single_j66_step _ _ _ _) ?_
  repeat' first | exact ex_eq trivial | exact ih | assumption | exact ih _ | exact u_72 p hp k _ (hp.progs _ ‹_›) H hk 0 _ | exact absurd ‹_› (by omega) | (exfalso; omega) | refine ex_join ?_ | refine ex_if (fun h => ?_) (fun h => ?_) | refine ex_ne (fun h => ?_) (fun h => ?_) | refine ex_cond _ (fun h => ?_) (fun h => ?_) | refine ex_idx (by omega) (fun y hy hm => ?_) | refine ex_and (by omega) ?_
theorem u_38  : ∀ i : Nat, ∀ b, Ex (fun r => r = true -> UnNP p) (ref22_single_j38 (i : Int) b p) := by
 have b1 := sz_le hp.np; have b2 := sz_le hp.ne
 refine upn (p.Progs.length) (fun i hi ih b => ?_) (fun i hi b => ?_)
 ·refine ex_step (ref22_single_j38_step _ _ _) ?_
  try rw [wI_up (by omega)]
  repeat' first | exact ex_eq trivial | exact ih | assumption | exact ih _ | exact u_66 p hp i hi ih 0 _ | exact u_48 p hp 0 _ fun _ j _ hj => absurd hj (by omega) | refine ex_join ?_ | refine ex_if (fun h => ?_) (fun h => ?_) | refine ex_ne (fun h => ?_) (fun h => ?_) | refine ex_cond _ (fun h => ?_) (fun h => ?_) | refine ex_idx (by omega) (fun y hy hm => ?_) | refine ex_and (by omega) ?_
 ·refine ex_step (ref22_single_j38_step _ _ _) ?_
  repeat' first | exact ex_eq trivial | exact ih | assumption | exact ih _ | exact u_66 p hp i hi ih 0 _ | exact u_48 p hp 0 _ fun _ j _ hj => absurd hj (by omega) | exact absurd ‹_› (by omega) | (exfalso; omega) | refine ex_join ?_ | refine ex_if (fun h => ?_) (fun h => ?_) | refine ex_ne (fun h => ?_) (fun h => ?_) | refine ex_cond _ (fun h => ?_) (fun h => ?_) | refine ex_idx (by omega) (fun y hy hm => ?_) | refine ex_and (by omega) ?_
theorem u_single : Ex (fun r => r = true -> UnNP p) (ref22_single p) := ex_step (ref22_single_step _) (u_38 p hp 0 _)
end
theorem q_check (p : GPlan) (hp : OkPlan p) : Ex (fun r => r = 0 -> NamQ p /\ UnNP p) (ref22_Check p) := by
 have no : ∀ {n : Int}, n ≠ 0 -> Ex (α := Int) (fun r => r = 0 -> NamQ p /\ UnNP p) (fun r => r = n) := fun hn => ex_eq fun h => absurd h hn
 refine ex_step (ref22_Check_step _) (ex_call (t_limits p hp) fun y1 _ => ex_cond _ (fun _ => no (by decide)) fun _ => ?_)
 refine ex_call (q_names hp) fun y1 hN => ex_cond _ (fun _ => no (by decide)) fun kN => ?_
 refine ex_call (t_ordered p hp) fun y3 h3 => ex_cond _ (fun _ => no (by decide)) fun k3 => ?_
 refine ex_call (u_single p hp) fun y1 hU => ex_cond _ (fun _ => no (by decide)) fun kU => ?_
 refine ex_call (t_ranges p hp) fun y5 h5 => ex_cond _ (fun _ => no (by decide)) fun k5 => ?_
 refine ex_call (t_args p hp) fun y6 h6 => ex_cond _ (fun _ => no (by decide)) fun k6 => ?_
 have hF := h6 (by simpa using k6)
 exact ex_call (t_finite p hp hF) fun y1 _ => ex_cond _ (fun _ => no (by decide)) fun _ => ex_eq fun _ => ⟨hN (by simpa using kN), hU (by simpa using kU)⟩
end Go.Proofs.YtdpomombdeccpaaGreatDoor.Lift
