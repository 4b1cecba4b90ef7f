/- Part 7 of the texts that prove OrderKeyBackEnd. -/
import Derived.Test.YtlgpoapedgodoaaDoorOrderKeyBackEndP5

/- order.Unkey of a longer string: a key with anything behind it. -/
namespace Go.Proofs.YtlgpoapedgodoaaDoor
open Go.RowKit
set_option linter.unusedVariables false

set_option maxRecDepth 8000 in
set_option maxHeartbeats 4000000 in
theorem untext_far (s : ByteArray) (h1 : 1 ≤ s.size) (hs : s.size ≤ 1407374883512320) (hx : (unT (s.data.toList.drop 1) [] 1).2.2 = 0) (hy : (unT (s.data.toList.drop 1) [] 1).1.length ≤ 4096) (w : World) :
    Calls Tryd.prog 55 #[.string s] w fun e w' => e = .returned (.tuple #[.string ⟨(unT (s.data.toList.drop 1) [] 1).1.toArray⟩, .int .i64 ((unT (s.data.toList.drop 1) [] 1).2.1 : Nat), .int .i64 (unT (s.data.toList.drop 1) [] 1).2.2]) ∧ Below w.heap.size w w' := by
  obtain ⟨R, HR⟩ : ∃ R, Hid (R = unT (s.data.toList.drop 1) [] 1) := ⟨_, Lib.hid rfl⟩
  have HX : Hid (R.2.2 = 0) := Lib.hid (by rw [HR.out]; exact hx)
  have HY : Hid (R.1.length ≤ 4096) := Lib.hid (by rw [HR.out]; exact hy)
  clear hx hy
  rw [← HR.out]
  go_enter Tryd.func55, Tryd.ntmps55
  go_wp2_with fail
  go_loopw [5, 6] (fun v i wr => ∃ (p : Nat) (acc : List UInt8), 1 ≤ p ∧ p ≤ s.size ∧ acc.length ≤ p ∧ i = .int .i64 p ∧ Hid (R = unT (s.data.toList.drop p) acc p) ∧ Hid (OwnB w.heap.size v (nums acc) wr) ∧ Below w.heap.size w wr) (fun _ i _ => s.size - (intOf i).toNat)
  case atStart => exact ⟨1, [], Nat.le_refl _, h1, Nat.zero_le _, rfl, HR, OwnB.nil _ _, Below.refl _ _⟩
  case round =>
    obtain ⟨p, acc, hp1, hps, hacc, rfl, HK, HO, hbr⟩ := hrel
    have HBR := Lib.hid hbr
    clear hbr
    have HLEN : Hid ((nums acc).length ≤ 4096) := Lib.hid (by
      unfold nums; rw [List.length_map]
      have e1 := HX.out; have e2 := HY.out
      rw [HK.out] at e1 e2
      obtain ⟨m, e3, _⟩ := unT_back _ _ acc p (Nat.le_refl _) e1
      rw [e3, List.length_append] at e2; omega)
    have i0 : (0 : Int) ≤ (p : Int) := by omega
    by_cases hlt : p < s.size
    · have i1 : (p : Int) < (s.size : Int) := by omega
      by_cases hb : s[p] = 0
      · have HB0 := Lib.hid hb
        have hbn : (s[p].toNat : Int) = 0 := by rw [hb]; rfl
        have hbq : ((s[p].toNat : Int) != 0) = false := by rw [bne_eq_false_iff_eq]; exact hbn
        clear hb hbn
        by_cases h2 : p + 1 < s.size
        · have j0 : (0 : Int) ≤ (p : Int) + 1 := by omega
          have j1 : (p : Int) + 1 < (s.size : Int) := by omega
          have jq : ((p : Int) + 1 == (s.size : Int)) = false := by rw [beq_eq_false_iff_ne]; omega
          have jg : decide ((s.size : Int) ≤ (p : Int) + 1) = false := decide_eq_false (by omega)
          by_cases hc : s[p + 1] = 0
          · have HN : Hid (R = (acc, p + 2, 0)) := Lib.hid (by rw [HK.out]; exact unT_done s p acc hlt HB0.out h2 hc)
            have hcn : (s[p + 1].toNat : Int) = 0 := by rw [hc]; rfl
            have hcq : ((s[p + 1].toNat : Int) == 0) = true := by rw [hcn]; rfl
            clear hc hcn
            have hcv := HO.out.str
            rw [nums_str] at hcv
            go_wp2_with fail
            go_ret3
            exact ⟨ret_un (by rw [HN.out]) (by rw [HN.out]; show (p : Int) + 1 + 1 = ((p + 2 : Nat) : Int); omega) (by rw [HN.out]), HBR.out⟩
          · have hcn : ¬ (s[p + 1].toNat : Int) = 0 := fun h => hc (UInt8.toNat_inj.1 (by have : ((0 : UInt8).toNat) = 0 := rfl; omega))
            have hcq : ((s[p + 1].toNat : Int) == 0) = false := by rw [beq_eq_false_iff_ne]; exact hcn
            by_cases hd : s[p + 1] = 255
            · have HN : Hid (R = unT (s.data.toList.drop (p + 2)) (acc ++ [0]) (p + 2)) := Lib.hid (by rw [HK.out]; exact unT_zero s p acc hlt HB0.out h2 hd)
              have hdq : ((s[p + 1].toNat : Int) != 255) = false := by rw [bne_eq_false_iff_eq, hd]; rfl
              clear hc hcn hd
              go_wp2_with (at_builtin; go_must (refine appB1 _ rfl _ _ rfl w.heap.size _ _ rfl HO.out _ rfl rfl (by have := HLEN.out; omega) HBR.out.size ?_))
              intro v1 w3 ho3 hb3 hs3
              have HO4 : Hid (OwnB w.heap.size v1 (nums (acc ++ [0])) w3) := Lib.hid (by
                have e : nums (acc ++ [0]) = nums acc ++ [0] := by unfold nums; rw [List.map_append]; rfl
                rw [e]; exact ho3)
              have HB3 := Lib.hid (HBR.out.trans hb3)
              clear ho3 hb3
              go_wp2_with fail
              go_roundw
              case rel => exact ⟨p + 2, acc ++ [0], by omega, by omega, by simp; omega, by go_num, HN, HO4, HB3.out⟩
              case measure => simp [intOf]; omega
            · have HN : Hid (R = ([], 0, 5)) := Lib.hid (by rw [HK.out]; exact unT_form s p acc hlt HB0.out h2 hc hd)
              have hdn : ¬ (s[p + 1].toNat : Int) = 255 := fun h => hd (UInt8.toNat_inj.1 (by have : ((255 : UInt8).toNat) = 255 := rfl; omega))
              have hdq : ((s[p + 1].toNat : Int) != 255) = true := by rw [bne_iff_ne]; exact hdn
              clear hc hcn hd hdn
              go_wp2_with fail
              go_ret3
              exact ⟨ret_un (by rw [HN.out]) (by rw [HN.out]; rfl) (by rw [HN.out]), HBR.out⟩
        · have jq : ((p : Int) + 1 == (s.size : Int)) = true := by rw [beq_iff_eq]; omega
          have jg : decide ((s.size : Int) ≤ (p : Int) + 1) = true := decide_eq_true (by omega)
          have HN : Hid (R = ([], 0, 4)) := Lib.hid (by rw [HK.out]; exact unT_short s p acc hlt HB0.out (by omega))
          go_wp2_with fail
          go_ret3
          exact ⟨ret_un (by rw [HN.out]) (by rw [HN.out]; rfl) (by rw [HN.out]), HBR.out⟩
      · have hbn : ¬ (s[p].toNat : Int) = 0 := fun h => hb (UInt8.toNat_inj.1 (by have : ((0 : UInt8).toNat) = 0 := rfl; omega))
        have hbq : ((s[p].toNat : Int) != 0) = true := by rw [bne_iff_ne]; exact hbn
        have HN : Hid (R = unT (s.data.toList.drop (p + 1)) (acc ++ [s[p]]) (p + 1)) := Lib.hid (by rw [HK.out]; exact unT_byte s p acc hlt hb)
        clear hb hbn
        go_wp2_with (at_builtin; go_must (refine appB1 _ rfl _ _ rfl w.heap.size _ _ rfl HO.out _ rfl rfl (by have := HLEN.out; omega) HBR.out.size ?_))
        intro v1 w3 ho3 hb3 hs3
        have HO4 : Hid (OwnB w.heap.size v1 (nums (acc ++ [s[p]])) w3) := Lib.hid (by
          have e : nums (acc ++ [s[p]]) = nums acc ++ [(s[p].toNat : Int)] := by unfold nums; rw [List.map_append]; rfl
          rw [e]; exact ho3)
        have HB3 := Lib.hid (HBR.out.trans hb3)
        clear ho3 hb3
        go_wp2_with fail
        go_roundw
        case rel => exact ⟨p + 1, acc ++ [s[p]], by omega, by omega, by simp; omega, by go_num, HN, HO4, HB3.out⟩
        case measure => simp [intOf]; omega
    · have HN : Hid (R = ([], 0, 4)) := Lib.hid (by rw [HK.out]; exact unT_end s p acc (by omega))
      go_wp2_with fail
      go_ret3
      exact ⟨ret_un (by rw [HN.out]) (by rw [HN.out]; rfl) (by rw [HN.out]), HBR.out⟩

theorem unkey_far (s : ByteArray) (hs : s.size ≤ 1407374883512320) (hx : (s.get! 0 = 7 ∨ s.get! 0 = 8) → (unT (s.data.toList.drop 1) [] 1).2.2 = 0 ∧ (unT (s.data.toList.drop 1) [] 1).1.length ≤ 4096) (w : World) :
    Calls Tryd.prog 18 #[.string s] w fun e w' => e = .returned (unkeyF s).v ∧ Below w.heap.size w w' := by
  unfold unkeyF
  by_cases h0 : s.size = 0
  · rw [if_pos h0]
    have : s = ⟨#[]⟩ := by
      cases s with
      | mk d => cases d with
        | mk l => cases l with
          | nil => rfl
          | cons a b => simp [ByteArray.size] at h0
    subst this
    exact unk_empty w
  rw [if_neg h0]
  have h : 0 < s.size := by omega
  have ht : s.toList.isEmpty = false := by rw [empty_toList]; simp [h0]
  have hg : (s.get! 0).toNat = (s[0]'h).toNat := get_fin s 0 h
  rw [hg]
  obtain ⟨k, hk⟩ : ∃ k : Int, ((s[0]'h).toNat : Int) = k := ⟨_, rfl⟩
  have hlt := UInt8.toNat_lt (s[0]'h)
  have hx' : k = 7 ∨ k = 8 → (unT (s.data.toList.drop 1) [] 1).2.2 = 0 ∧ (unT (s.data.toList.drop 1) [] 1).1.length ≤ 4096 := fun h78 => hx (by
    have c7 : (7 : UInt8).toNat = 7 := rfl
    have c8 : (8 : UInt8).toNat = 8 := rfl
    rw [← UInt8.toNat_inj, ← UInt8.toNat_inj, hg, c7, c8]; omega)
  have hwb : wrap64 k = k := by
    subst hk
    simp only [wrap64]; omega
  rw [hk]
  by_cases hr : 1 ≤ k ∧ k ≤ 9
  case neg =>
    rw [if_neg hr]
    exact unk_kind s h w (by rw [hk]; exact decide_eq_false hr) ht
  rw [if_pos hr]
  have KI : Hid (∀ w : World, Calls Tryd.prog 45 #[.int .i64 k] w fun e w' => e = .returned (.bool true) ∧ w' = w) := Lib.hid (by
    intro w
    have := is_ok k w
    rw [decide_eq_true hr] at this
    exact this)
  have KF : ∀ (z : Int) (T : ByteArray) (b : Bool), fitsB k k z T true = b → Hid (∀ w : World, Calls Tryd.prog 14 #[.int .i64 k, .agg #[.int .i64 k, .int .u64 z, .string T, .slice none 0 0, .slice none 0 0, .slice none 0 0, .slice none 0 0]] w fun e w' => e = .returned (.bool b) ∧ Below w.heap.size w w') := by
    intro z T b hb
    refine Lib.hid fun w => ?_
    have := fits_ok k k z T 0 0 0 0 0 0 0 0 none none none none w (by decide) (by decide) (by decide) (by decide)
    rw [noneB0, hb] at this
    exact this
  by_cases h78 : k = 7 ∨ k = 8
  · rw [if_pos h78]
    obtain ⟨R, HR⟩ : ∃ R, R = unT (s.data.toList.drop 1) [] 1 := ⟨_, rfl⟩
    have KU : Hid (∀ w : World, Calls Tryd.prog 55 #[.string s] w fun e w' => e = .returned (.tuple #[.string ⟨R.1.toArray⟩, .int .i64 (R.2.1 : Nat), .int .i64 R.2.2]) ∧ Below w.heap.size w w') := Lib.hid (by
      intro w
      rw [HR]
      exact untext_far s (by omega) hs (hx' h78).1 (hx' h78).2 w)
    rw [← HR]
    clear HR
    have KN : k ≠ 6 → Hid (∀ w : World, Calls Tryd.prog 57 #[.agg #[.int .i64 k, .int .u64 0, .string ⟨R.1.toArray⟩, .slice none 0 0, .slice none 0 0, .slice none 0 0, .slice none 0 0]] w fun e w' => e = .returned (.agg #[.int .i64 k, .int .u64 0, .string ⟨R.1.toArray⟩, .slice none 0 0, .slice none 0 0, .slice none 0 0, .slice none 0 0]) ∧ Below w.heap.size w w') := by
      intro h6
      refine Lib.hid fun w => ?_
      have := norm_ok k 0 ⟨R.1.toArray⟩ 0 0 0 0 0 0 0 0 none none none none ⟨by decide, by decide⟩ w
      rw [normZ_no k 0 h6] at this
      exact this
    unfold untF
    by_cases hE : R.2.2 = 0
    · rw [if_neg (by simpa using hE)]
      cases hf : fitsB k k 0 ⟨R.1.toArray⟩ true
      · rw [if_neg (by simp)]
        rcases h78 with rfl | rfl
        · exact unk_bad7 s h w hk ht KI _ _ _ KU hE (KF _ _ _ hf) (KN (by decide))
        · exact unk_bad8 s h w hk ht KI _ _ _ KU hE (KF _ _ _ hf) (KN (by decide))
      · rw [if_pos rfl]
        rcases h78 with rfl | rfl
        · exact unk_txt7 s h w hk ht KI _ _ _ KU hE (KF _ _ _ hf) (KN (by decide))
        · exact unk_txt8 s h w hk ht KI _ _ _ KU hE (KF _ _ _ hf) (KN (by decide))
    · rw [if_pos hE]
      rcases h78 with rfl | rfl
      · exact unk_err7 s h w hk ht KI _ _ R.2.2 KU (by simpa using hE)
      · exact unk_err8 s h w hk ht KI _ _ R.2.2 KU (by simpa using hE)
  · rw [if_neg h78]
    have k7 : (k == 7) = false := by simp; omega
    have k8 : (k == 8) = false := by simp; omega
    by_cases h9 : s.size < 9
    · rw [if_pos h9]
      exact unk_nerr s h w k hk hwb ht k7 k8 KI 0 0 4 (Lib.hid fun w => unnum_short s (decide_eq_true (by omega)) w) (by decide)
    · rw [if_neg h9]
      obtain ⟨z, hz⟩ : ∃ z, z = unrankK k (beZ s) := ⟨_, rfl⟩
      have hw : word z := by rw [hz]; exact unrankK_word k _ (takeZ_word _)
      have KU : Hid (∀ w : World, Calls Tryd.prog 56 #[.string s] w fun e w' => e = .returned (.tuple #[.int .u64 z, .int .i64 9, .int .i64 0]) ∧ Below w.heap.size w w') := Lib.hid (by
        intro w
        have := unnum_ok s (by omega) w
        rw [hg, hk, ← hz] at this
        exact this)
      rw [← hz]
      clear hz
      have KN : Hid (∀ w : World, Calls Tryd.prog 57 #[.agg #[.int .i64 k, .int .u64 z, .string ⟨#[]⟩, .slice none 0 0, .slice none 0 0, .slice none 0 0, .slice none 0 0]] w fun e w' => e = .returned (.agg #[.int .i64 k, .int .u64 (normZ k z), .string ⟨#[]⟩, .slice none 0 0, .slice none 0 0, .slice none 0 0, .slice none 0 0]) ∧ Below w.heap.size w w') :=
        Lib.hid fun w => norm_ok k z ⟨#[]⟩ 0 0 0 0 0 0 0 0 none none none none hw w
      unfold unnF
      cases hf : fitsB k k z ⟨#[]⟩ true
      · rw [if_neg (by simp)]
        exact unk_nbad s h w k hk hwb ht k7 k8 KI _ _ _ KU rfl (KF _ _ _ hf) _ KN
      · by_cases hy : normZ k z = z
        · rw [if_pos ⟨rfl, hy⟩]
          exact unk_num s h w k hk hwb ht k7 k8 KI _ _ _ KU rfl (KF _ _ _ hf) _ KN (by simpa using hy)
        · rw [if_neg (fun x => hy x.2)]
          exact unk_nnan s h w k hk hwb ht k7 k8 KI _ _ _ KU rfl (KF _ _ _ hf) _ KN (by simpa using hy)

theorem get_mk (b : UInt8) (l : List UInt8) : (ByteArray.mk ⟨b :: l⟩).get! 0 = b := rfl

/-- Unkey of a key with anything behind it. -/
theorem unkey_key (k z : Int) (t c : ByteArray) (hz : word z) (hf : fitsB k k z t true = true) (hc : c.size ≤ 140737488351232) (w : World) :
    Calls Tryd.prog 18 #[.string (keyT k z t true ++ c)] w fun e w' => e = .returned (.tuple #[.agg #[.int .i64 k, .int .u64 (normZ k z), .string t, .slice none 0 0, .slice none 0 0, .slice none 0 0, .slice none 0 0], .int .i64 ((keyT k z t true).size : Nat), .int .i64 0]) ∧ Below w.heap.size w w' := by
  have hb := back_all k z t c hz hf
  obtain ⟨h3, h8⟩ := key_size k z t hz hf
  have := unkey_far (keyT k z t true ++ c) (by rw [ByteArray.size_append]; omega) ?_ w
  · rw [hb] at this; exact this
  · obtain ⟨b, l, hb, hk1, hk9, e, h⟩ := key_shape k z t hz hf
    rw [e, mk_append _ []]
    show (b = 7 ∨ b = 8) → (unT (l ++ c.data.toList) [] 1).2.2 = 0 ∧ (unT (l ++ c.data.toList) [] 1).1.length ≤ 4096
    intro hb78
    have h78 : k = 7 ∨ k = 8 := by
      rcases hb78 with rfl | rfl
      · left; rw [← hb]; rfl
      · right; rw [← hb]; rfl
    rcases h with ⟨_, rfl, rfl⟩ | ⟨hn, _, _⟩
    · rw [show escT t.data.toList ++ [0, 0] ++ c.data.toList = escT t.data.toList ++ 0 :: 0 :: c.data.toList by simp, unT_esc]
      refine ⟨rfl, ?_⟩
      have h4 : t.size ≤ 4096 := by
        unfold fitsB at hf
        simp only [Bool.and_eq_true, decide_eq_true_eq] at hf
        exact hf.1.2
      have h3 : t.data.toList.length = t.size := Array.length_toList
      show ([] ++ t.data.toList).length ≤ 4096
      rw [List.nil_append]; omega
    · exact absurd h78 hn

/-- Unkey of a key cut short by a byte. -/
theorem unkey_cut (k z : Int) (t : ByteArray) (hz : word z) (hf : fitsB k k z t true = true) (w : World) :
    Calls Tryd.prog 18 #[.string ((keyT k z t true).extract 0 ((keyT k z t true).size - 1))] w fun e w' => e = .returned (.tuple #[.agg #[.int .i64 0, .int .u64 0, .string ⟨#[]⟩, .slice none 0 0, .slice none 0 0, .slice none 0 0, .slice none 0 0], .int .i64 0, .int .i64 4]) ∧ Below w.heap.size w w' := by
  obtain ⟨h3, h8⟩ := key_size k z t hz hf
  have := unkey_ok ((keyT k z t true).extract 0 ((keyT k z t true).size - 1)) (by rw [ByteArray.size_extract]; omega) w
  rw [back_cut k z t hz hf] at this
  exact this
end Go.Proofs.YtlgpoapedgodoaaDoor

/- OrderKeyBack's walk. -/
namespace Go.Proofs.YtlgpoapedgodoaaDoor
open Go.RowKit
set_option linter.unusedVariables false

theorem none_zero {l1 l2 l3 l4 : Nat} (h : noneB l1 l2 l3 l4 = true) : l1 = 0 ∧ l2 = 0 ∧ l3 = 0 ∧ l4 = 0 := by
  unfold noneB at h
  exact of_decide_eq_true h
theorem fits_none {k z : Int} {t : ByteArray} {e : Bool} (h : fitsB k k z t e = true) : e = true := by
  unfold fitsB leanB at h
  simp only [Bool.and_eq_true] at h
  exact h.1.1.1.2.1

set_option maxRecDepth 8000 in
set_option maxHeartbeats 4000000 in
theorem keyback_ok (n : Nat) (v : Value) (x : VT n) (b : ByteArray) (hb : b.size ≤ 140737488351232) (m : Int) (w : World) (h : IsV n w v x) (hm : w.cell? ⟨0, 0, none⟩ = some (.int .i64 m)) :
    Calls Tryd.prog 7 #[v, .string b] w fun e w' => e = .returned (.bool true) ∧ Below w.heap.size w w' := by
  obtain ⟨ek, ez, et, d1, l1, c1, d2, l2, c2, d3, l3, c3, d4, l4, c4, rfl, g⟩ := h
  cases n with
  | zero => exact g.elim
  | succ n =>
  obtain ⟨_, _, _, wz, st, h1, h2, h3, h4⟩ := g.top
  have HM := Lib.hid hm
  clear hm g
  obtain ⟨X, HX⟩ : ∃ X, Hid (X = keyT ek ez et (noneB l1 l2 l3 l4)) := ⟨_, Lib.hid rfl⟩
  have K1 : Hid (∀ w' : World, Below w.heap.size w w' → Calls Tryd.prog 10 #[.agg #[.int .i64 ek, .int .u64 ez, .string et, .slice d1 l1 c1, .slice d2 l2 c2, .slice d3 l3 c3, .slice d4 l4 c4]] w' fun e w2 => e = .returned (.string X) ∧ Below w'.heap.size w' w2) := by
    refine Lib.hid fun w' hb => ?_
    rw [HX.out]; exact key_ok ek ez et l1 l2 l3 l4 c1 c2 c3 c4 d1 d2 d3 d4 wz h1 h2 h3 h4 m w' (held hb HM.out)
  have K3 : Hid (∀ w' : World, Below w.heap.size w w' → Calls Tryd.prog 12 #[] w' fun e w2 => e = .returned (.bool true) ∧ Below w'.heap.size w' w2) :=
    Lib.hid fun w' hb => awake_ok m w' (held hb HM.out)
  have KF : Hid (∀ w' : World, Calls Tryd.prog 21 #[.int .i64 ek, .agg #[.int .i64 ek, .int .u64 ez, .string et, .slice d1 l1 c1, .slice d2 l2 c2, .slice d3 l3 c3, .slice d4 l4 c4]] w' fun e w2 => e = .returned (.bool (fitsB ek ek ez et (noneB l1 l2 l3 l4))) ∧ Below w'.heap.size w' w2) :=
    Lib.hid fun w' => rfits_ok ek ek ez et l1 l2 l3 l4 c1 c2 c3 c4 d1 d2 d3 d4 w' st
  have KN : Hid (∀ w' : World, Calls Tryd.prog 22 #[.agg #[.int .i64 ek, .int .u64 ez, .string et, .slice d1 l1 c1, .slice d2 l2 c2, .slice d3 l3 c3, .slice d4 l4 c4]] w' fun e w2 => e = .returned (.agg #[.int .i64 ek, .int .u64 (normZ ek ez), .string et, .slice d1 l1 c1, .slice d2 l2 c2, .slice d3 l3 c3, .slice d4 l4 c4]) ∧ Below w'.heap.size w' w2) :=
    Lib.hid fun w' => rnorm_ok ek ez et l1 l2 l3 l4 c1 c2 c3 c4 d1 d2 d3 d4 wz w'
  cases hf : fitsB ek ek ez et (noneB l1 l2 l3 l4)
  · rw [hf] at KF
    have hX : X = ⟨#[]⟩ := by rw [HX.out]; unfold keyT; rw [hf]; rfl
    subst hX
    clear HX hf
    have e1 : (ByteArray.toList ⟨#[]⟩).isEmpty = true := by rw [empty_toList]; rfl
    go_enter Tryd.func7, Tryd.ntmps7
    go_wp2_with fail
    refine calls_box1 ?_
    intro W hA hb
    have HB := Lib.hid hb
    have HA := Lib.hid hA
    clear hA hb
    refine calls_on (K1.out _ HB.out) ?_
    intro w1 hb1
    have HB1 := Lib.hid (above HB.out hb1)
    have HA1 := Lib.hid (blk_keep hb1 HA.out)
    clear hb1
    obtain ⟨a0, a1, a2, a3, a4, a5, a6⟩ := cells7 HA1.out
    go_wp2_with fail
    clear a0 a1 a2 a3 a4 a5 a6
    refine calls_on (KF.out _) ?_
    intro w2 hb2
    have HB2 := Lib.hid (above HB1.out hb2)
    clear hb2
    go_wp2_with fail
    refine calls_on (K3.out _ HB2.out) ?_
    intro w3 hb3
    have HB3 := Lib.hid (above HB2.out hb3)
    clear hb3
    go_wp2_with fail
    go_ret
    exact ⟨rfl, HB3.out⟩
  · rw [hf] at KF
    have hn := fits_none hf
    obtain ⟨rfl, rfl, rfl, rfl⟩ := none_zero hn
    rw [hn] at hf HX
    obtain ⟨s3, s8⟩ := key_size ek ez et wz hf
    rw [← HX.out] at s3 s8
    have KU : Hid (∀ w' : World, Calls Tryd.prog 18 #[.string (X ++ b)] w' fun e w2 => e = .returned (.tuple #[.agg #[.int .i64 ek, .int .u64 (normZ ek ez), .string et, .slice none 0 0, .slice none 0 0, .slice none 0 0, .slice none 0 0], .int .i64 (X.size : Nat), .int .i64 0]) ∧ Below w'.heap.size w' w2) := by
      refine Lib.hid fun w' => ?_
      rw [HX.out]; exact unkey_key ek ez et b wz hf hb w'
    obtain ⟨Y, HY⟩ : ∃ Y, Hid (Y = X.extract 0 (X.size - 1)) := ⟨_, Lib.hid rfl⟩
    have KY : Hid (∀ w' : World, Calls Tryd.prog 18 #[.string Y] w' fun e w2 => e = .returned (.tuple #[.agg #[.int .i64 0, .int .u64 0, .string ⟨#[]⟩, .slice none 0 0, .slice none 0 0, .slice none 0 0, .slice none 0 0], .int .i64 0, .int .i64 4]) ∧ Below w'.heap.size w' w2) := by
      refine Lib.hid fun w' => ?_
      rw [HY.out, HX.out]; exact unkey_cut ek ez et wz hf w'
    have hcat : (X.size : Int) + (b.size : Int) ≤ 9223372036854775807 := by omega
    have i3 : decide ((X.size : Int) < 3) = false := decide_eq_false (by omega)
    have ie : ((X.size : Int) != (X.size : Int)) = false := by simp
    have iq : ((X.size : Int) == (X.size : Int)) = true := by simp
    clear hf HX
    go_enter Tryd.func7, Tryd.ntmps7
    go_wp2_with fail
    refine calls_box1 ?_
    intro W hA hb
    have HB := Lib.hid hb
    have HA := Lib.hid hA
    clear hA hb
    refine calls_on (K1.out _ HB.out) ?_
    intro w1 hb1
    have HB1 := Lib.hid (above HB.out hb1)
    have HA1 := Lib.hid (blk_keep hb1 HA.out)
    clear hb1
    obtain ⟨a0, a1, a2, a3, a4, a5, a6⟩ := cells7 HA1.out
    go_wp2_with fail
    clear a0 a1 a2 a3 a4 a5 a6
    refine calls_on (KF.out _) ?_
    intro w2 hb2
    have HB2 := Lib.hid (above HB1.out hb2)
    have HA2 := Lib.hid (blk_keep hb2 HA1.out)
    clear hb2
    go_wp2_with fail
    refine calls_on (KU.out _) ?_
    intro w3 hb3
    have HB3 := Lib.hid (above HB2.out hb3)
    have HA3 := Lib.hid (blk_keep hb3 HA2.out)
    clear hb3
    go_wp2_with fail
    refine wp_box1 ?_
    intro W4 hB hb4
    have HB4 := Lib.hid (above HB3.out hb4)
    have HA4 := Lib.hid (blk_keep hb4 HA3.out)
    obtain ⟨a0, a1, a2, a3, a4, a5, a6⟩ := up7 HA4.out
    obtain ⟨b0, b1, b2, b3, b4, b5, b6⟩ := up7 hB
    clear hB hb4
    refine wp_region_up (by kernel_rfl) (by kernel_rfl) ?_
    repeat (go_big_quiet_step (first | (go_at_call 22; with_reducible exact calls_up (KN.out _)) | (go_at_call 20; with_reducible exact calls_up (same_yes _ _ _ _ _ _ _ _ _ _ _ _ _ _ _ _ _ _ _ _ _ _ _ _))))
    refine wpQuiet_nil ?_
    rintro _ ⟨s1, rfl⟩
    clear a0 a1 a2 a3 a4 a5 a6 b0 b1 b2 b3 b4 b5 b6
    have HB5 := Lib.hid (above HB4.out s1.h)
    go_wp2_with fail
    rw [← HY.out]
    refine calls_on (KY.out _) ?_
    intro w6 hb6
    have HB6 := Lib.hid (above HB5.out hb6)
    clear hb6
    go_wp2_with fail
    refine calls_on (K3.out _ HB6.out) ?_
    intro w7 hb7
    have HB7 := Lib.hid (above HB6.out hb7)
    clear hb7
    go_wp2_with fail
    go_ret
    exact ⟨rfl, HB7.out⟩
end Go.Proofs.YtlgpoapedgodoaaDoor
