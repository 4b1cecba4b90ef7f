/- Keys of scalars are ordered like the scalars: the plain law. -/
import Derived.Test.YtlgpoapedgodoaaDoorTotalLaw
import Derived.Test.YtlgpoapedgodoaaDoorKeyB
namespace Go.Proofs.YtlgpoapedgodoaaDoor

theorem orI_assoc (a b c : Int) : orI (orI a b) c = orI a (orI b c) := by
  unfold orI; repeat' split
  all_goals first | rfl | omega

theorem cmpL_prefix (p l m : List UInt8) : cmpL cmpB (p ++ l) (p ++ m) = cmpL cmpB l m := by
  induction p with
  | nil => rfl
  | cons a p ih => simp [cmpL, cmpB_self, orI, ih]

theorem cmpB_zero_lt {b : UInt8} (h : b ≠ 0) : cmpB 0 b = -1 := by
  unfold cmpB cmpI
  have : b.toNat ≠ 0 := fun e => h (UInt8.toNat_inj.1 (by rw [e]; rfl))
  rw [if_pos (by show ((0 : UInt8).toNat : Int) < _; simp; omega)]
theorem cmpB_anti (a b : UInt8) : cmpB b a = - cmpB a b := TO.byte.anti a b

theorem cmp_esc : ∀ l m : List UInt8, cmpL cmpB (escT l ++ [0, 0]) (escT m ++ [0, 0]) = cmpL cmpB l m
  | [], [] => by decide
  | [], b :: m => by
    by_cases hb : b = 0
    · subst hb
      have : cmpB 0 255 = -1 := by decide
      simp [escT, cmpL, cmpB_self, orI, this]
    · have := cmpB_zero_lt hb
      simp [escT, hb, cmpL, orI, this]
  | a :: l, [] => by
    by_cases ha : a = 0
    · subst ha
      have : cmpB 255 0 = 1 := by decide
      simp [escT, cmpL, cmpB_self, orI, this]
    · have h1 := cmpB_zero_lt ha
      have h2 := cmpB_anti 0 a
      rw [h1] at h2
      simp [escT, ha, cmpL, orI, h2]
  | a :: l, b :: m => by
    have ih := cmp_esc l m
    by_cases e : a = b
    · subst e
      by_cases ha : a = 0
      · subst ha; simp [escT, cmpL, cmpB_self, orI, ih]
      · simp [escT, ha, cmpL, cmpB_self, orI, ih]
    · have hne : cmpB a b ≠ 0 := fun h => e (cmpB_zero h)
      by_cases ha : a = 0
      · subst ha
        have hb : b ≠ 0 := fun h => e h.symm
        simp [escT, hb, cmpL, orI, hne]
      · by_cases hb : b = 0
        · subst hb; simp [escT, ha, cmpL, orI, hne]
        · simp [escT, ha, hb, cmpL, orI, hne]

theorem cmpI_split (u v : Int) : cmpI u v = orI (cmpI (u / 256) (v / 256)) (cmpI (u % 256) (v % 256)) := by
  unfold cmpI orI; repeat' split
  all_goals omega

theorem cmpB_num (x y : Int) (hx : 0 ≤ x ∧ x < 256) (hy : 0 ≤ y ∧ y < 256) : cmpB (UInt8.ofNat x.toNat) (UInt8.ofNat y.toNat) = cmpI x y := by
  unfold cmpB
  have e : ∀ z : Int, 0 ≤ z ∧ z < 256 → ((UInt8.ofNat z.toNat).toNat : Int) = z := by
    intro z hz
    rw [UInt8.toNat_ofNat']
    omega
  rw [e x hx, e y hy]

theorem cmp_be (u v : Int) (hu : word u) (hv : word v) : cmpL cmpB (revB (strOfNums (leZ u))).data.toList (revB (strOfNums (leZ v))).data.toList = cmpI u v := by
  have e : ∀ u : Int, (revB (strOfNums (leZ u))).data.toList = [UInt8.ofNat (u / 72057594037927936 % 256).toNat, UInt8.ofNat (u / 281474976710656 % 256).toNat, UInt8.ofNat (u / 1099511627776 % 256).toNat, UInt8.ofNat (u / 4294967296 % 256).toNat, UInt8.ofNat (u / 16777216 % 256).toNat, UInt8.ofNat (u / 65536 % 256).toNat, UInt8.ofNat (u / 256 % 256).toNat, UInt8.ofNat (u % 256).toNat] := fun u => rfl
  rw [e u, e v]
  have b : ∀ x : Int, 0 ≤ x % 256 ∧ x % 256 < 256 := fun x => by omega
  simp only [cmpL]
  rw [cmpB_num _ _ (b _) (b _), cmpB_num _ _ (b _) (b _), cmpB_num _ _ (b _) (b _), cmpB_num _ _ (b _) (b _), cmpB_num _ _ (b _) (b _), cmpB_num _ _ (b _) (b _), cmpB_num _ _ (b _) (b _), cmpB_num _ _ (b _) (b _)]
  have z : ∀ a : Int, orI a 0 = a := by intro a; unfold orI; split <;> omega
  rw [z]
  obtain ⟨u0, u1⟩ := hu
  obtain ⟨v0, v1⟩ := hv
  have d : ∀ x : Int, x / 65536 = x / 256 / 256 ∧ x / 16777216 = x / 65536 / 256 ∧ x / 4294967296 = x / 16777216 / 256 ∧ x / 1099511627776 = x / 4294967296 / 256 ∧ x / 281474976710656 = x / 1099511627776 / 256 ∧ x / 72057594037927936 = x / 281474976710656 / 256 := by
    intro x; refine ⟨?_, ?_, ?_, ?_, ?_, ?_⟩ <;> omega
  have t : ∀ x : Int, 0 ≤ x → x < 18446744073709551616 → x / 72057594037927936 % 256 = x / 72057594037927936 := by intro x h0 h1; omega
  obtain ⟨du1, du2, du3, du4, du5, du6⟩ := d u
  obtain ⟨dv1, dv2, dv3, dv4, dv5, dv6⟩ := d v
  rw [t u u0 u1, t v v0 v1, du6, dv6, ← orI_assoc (cmpI (u / 281474976710656 / 256) _), ← cmpI_split]
  rw [du5, dv5, ← orI_assoc (cmpI (u / 1099511627776 / 256) _), ← cmpI_split]
  rw [du4, dv4, ← orI_assoc (cmpI (u / 4294967296 / 256) _), ← cmpI_split]
  rw [du3, dv3, ← orI_assoc (cmpI (u / 16777216 / 256) _), ← cmpI_split]
  rw [du2, dv2, ← orI_assoc (cmpI (u / 65536 / 256) _), ← cmpI_split]
  rw [du1, dv1, ← orI_assoc (cmpI (u / 256 / 256) _), ← cmpI_split]
  exact (cmpI_split u v).symm

theorem rankK_cmp (k z z' : Int) (t t' : ByteArray) (hz : word z) (hz' : word z') (h : 1 ≤ k ∧ k ≤ 9) (h2 : ¬ (k = 7 ∨ k = 8)) :
    cmpI (rankK k (normZ k z)) (rankK k (normZ k z')) = scalC k z t z' t' := by
  obtain ⟨a, b⟩ := hz
  obtain ⟨c, d⟩ := hz'
  have e : ∀ x : Int, 0 ≤ x → x < 18446744073709551616 → RowKit.wrap64 x = if x < 9223372036854775808 then x else x - 18446744073709551616 := by
    intro x h1 h2
    simp only [RowKit.wrap64]
    split <;> omega
  unfold scalC rankK
  rw [if_neg (show ¬ ¬ (1 ≤ k ∧ k ≤ 9) from fun x => x h), if_neg h2]
  by_cases h3 : k = 2 ∨ k = 3
  · simp only [if_pos h3]
    rw [e z a b, e z' c d]
    have n : ∀ x, normZ k x = x := fun x => by unfold normZ; rw [if_neg (by omega)]
    rw [n, n]
    unfold flipZ
    by_cases g1 : z < 9223372036854775808 <;> by_cases g2 : z' < 9223372036854775808 <;> simp only [g1, g2, if_true, if_false] <;> unfold cmpI <;> (repeat' split) <;> omega
  · simp only [if_neg h3]
    by_cases h6 : k = 6
    · subst h6
      simp only [if_true]
      have key : ∀ x : Int, 0 ≤ x → x < 18446744073709551616 → (if normZ 6 x < 9223372036854775808 then normZ 6 x + 9223372036854775808 else 18446744073709551615 - normZ 6 x) = if placeZ x = 18446744073709551615 then 18444492273895866368 else placeZ x := by
        intro x h0 h1
        by_cases hn : 9218868437227405312 < x % 9223372036854775808
        · have c0 : classZ x = 0 := by unfold classZ; rw [if_pos hn]
          have p0 : placeZ x = 18446744073709551615 := by unfold placeZ; rw [if_pos hn]
          have n0 : normZ 6 x = 9221120237041090560 := by unfold normZ; rw [if_pos ⟨rfl, c0⟩]
          rw [p0, n0]; decide
        · have c0 : classZ x ≠ 0 := by unfold classZ; rw [if_neg hn]; repeat' split
                                       all_goals decide
          have n0 : normZ 6 x = x := by unfold normZ; rw [if_neg (fun y => c0 y.2)]
          rw [n0]
          unfold placeZ
          rw [if_neg hn]
          by_cases hl : x < 9223372036854775808
          · simp only [hl, if_true]; rw [if_neg (by omega)]
          · simp only [hl, if_false]; rw [if_neg (by omega)]
      rw [key z a b, key z' c d]
      have bd : ∀ x : Int, 0 ≤ x → x < 18446744073709551616 → placeZ x = 18446744073709551615 ∨ placeZ x ≤ 18442240474082181120 := by
        intro x h0 h1
        unfold placeZ
        by_cases hn : 9218868437227405312 < x % 9223372036854775808
        · rw [if_pos hn]; left; rfl
        · rw [if_neg hn]; right; split <;> omega
      have b1 := bd z a b
      have b2 := bd z' c d
      generalize placeZ z = p at *
      generalize placeZ z' = q at *
      unfold cmpI; repeat' split
      all_goals omega
    · simp only [if_neg h6]
      have n : ∀ x, normZ k x = x := fun x => by unfold normZ; rw [if_neg (fun y => h6 y.1)]
      rw [n, n]

theorem enc_one (k : Int) (h : 1 ≤ k ∧ k ≤ 9) : (Utf8.encode k).data.toList = [UInt8.ofNat k.toNat] := by
  have : k = 1 ∨ k = 2 ∨ k = 3 ∨ k = 4 ∨ k = 5 ∨ k = 6 ∨ k = 7 ∨ k = 8 ∨ k = 9 := by omega
  rcases this with rfl | rfl | rfl | rfl | rfl | rfl | rfl | rfl | rfl <;> decide

/-- A key's bytes behind its kind. -/
def keyRest (k z : Int) (t : ByteArray) : List UInt8 := if k = 7 ∨ k = 8 then escT t.data.toList ++ [0, 0] else (revB (strOfNums (leZ (rankK k (normZ k z))))).data.toList
theorem key_list (k z : Int) (t : ByteArray) (e : Bool) (h : fitsB k k z t e = true) : 1 ≤ k ∧ k ≤ 9 ∧ (keyT k z t e).toList = UInt8.ofNat k.toNat :: keyRest k z t := by
  have hr : 1 ≤ k ∧ k ≤ 9 := by
    unfold fitsB at h
    simp only [Bool.and_eq_true, decide_eq_true_eq] at h
    exact h.1.1.1.1.1
  refine ⟨hr.1, hr.2, ?_⟩
  rw [Lib.toList_data]
  unfold keyT keyRest
  rw [if_pos h]
  have ap : ∀ a b : ByteArray, (a ++ b).data.toList = a.data.toList ++ b.data.toList := by intro a b; simp [ByteArray.data_append]
  by_cases h7 : k = 7 ∨ k = 8
  · rw [if_pos h7, if_pos h7, ap, ap, enc_one k hr]
    rfl
  · rw [if_neg h7, if_neg h7, ap, enc_one k hr]
    rfl

/-- **Keys are ordered like the scalars.** -/
theorem cmp_key (k z k' z' : Int) (t t' : ByteArray) (e e' : Bool) (hz : word z) (hz' : word z') (h : fitsB k k z t e = true) (h' : fitsB k' k' z' t' e' = true) :
    cmpT (keyT k z t e) (keyT k' z' t' e') = scalF k z t k' z' t' := by
  obtain ⟨k1, k9, hl⟩ := key_list k z t e h
  obtain ⟨k1', k9', hl'⟩ := key_list k' z' t' e' h'
  rw [cmpT_list, hl, hl']
  simp only [cmpL]
  rw [cmpB_num k k' ⟨by omega, by omega⟩ ⟨by omega, by omega⟩]
  unfold scalF
  by_cases hk : k = k'
  · subst hk
    rw [if_pos rfl, show cmpI k k = 0 by simp [cmpI], orI_zero]
    unfold keyRest
    by_cases h7 : k = 7 ∨ k = 8
    · simp only [if_pos h7]
      rw [cmp_esc, show scalC k z t z' t' = cmpT t t' by unfold scalC; rw [if_neg (by omega), if_pos h7], cmpT_list, Lib.toList_data, Lib.toList_data]
    · simp only [if_neg h7]
      rw [cmp_be _ _ (rankK_word k _ (normZ_word k z hz)) (rankK_word k _ (normZ_word k z' hz'))]
      exact rankK_cmp k z z' t t' hz hz' ⟨k1, k9⟩ h7
  · rw [if_neg hk]
    have : cmpI k k' ≠ 0 := by unfold cmpI; split <;> (try split) <;> omega
    exact orI_ne this

theorem key_some (k z : Int) (t : ByteArray) (e : Bool) (h : fitsB k k z t e = true) : (keyT k z t e).toList.isEmpty = false := by
  obtain ⟨_, _, hl⟩ := key_list k z t e h
  rw [hl]; rfl

/-- What the tests on two keys say. -/
theorem key_tests (x y : ByteArray) (D : Int) (h : cmpT x y = D) : Op.bytesLess x.toList y.toList = decide (D < 0) ∧ (x.toList == y.toList) = (D == 0) := by
  have hl := less_cmp x.toList y.toList
  have lo := TO.byte.list.lo x.toList y.toList
  rw [← cmpT_list, h] at hl lo
  constructor
  · rw [Bool.eq_iff_iff, decide_eq_true_iff, hl.1]; omega
  · rw [Bool.eq_iff_iff, beq_iff_eq, beq_iff_eq]; exact hl.2
end Go.Proofs.YtlgpoapedgodoaaDoor
