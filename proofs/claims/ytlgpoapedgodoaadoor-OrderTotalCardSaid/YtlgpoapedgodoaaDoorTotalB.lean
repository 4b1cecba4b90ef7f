/- OrderTotal: out of the walk and the plain laws. -/
import Derived.Test.YtlgpoapedgodoaaDoorTotal
import Derived.Test.YtlgpoapedgodoaaDoorTotalC
namespace Go.Proofs.YtlgpoapedgodoaaDoor
open Go.RowKit
set_option linter.unusedVariables false

theorem cmpV_scal {n : Nat} {x y : VT (n + 1)} {k z k' z' : Int} {t t' : ByteArray} (h : VS.kind x = k ∧ VS.bits x = z ∧ VS.text x = t) (h' : VS.kind y = k' ∧ VS.bits y = z' ∧ VS.text y = t') (hk : 1 ≤ k ∧ k ≤ 9) :
    cmpV (n + 1) x y = scalF k z t k' z' t' := by
  show cmpN (cmpV n) x y = _
  unfold cmpN scalF
  rw [h.1, h.2.1, h.2.2, h'.1, h'.2.1, h'.2.2]
  by_cases e : k = k'
  · subst e; rw [if_neg (fun h => h rfl), if_pos hk, if_pos rfl]
  · rw [if_pos e, if_neg e]

theorem total_ok (n : Nat) (va vb vc : Value) (x y u : VT n) (m : Int) (w : World) (ha : IsV n w va x) (hb : IsV n w vb y) (hc : IsV n w vc u) (hm : w.cell? ⟨0, 0, none⟩ = some (.int .i64 m)) :
    Calls Tryd.prog 4 #[va, vb, vc] w fun e w' => e = .returned (.bool true) ∧ Below w.heap.size w w' := by
  obtain ⟨eka, eza, eta, d1a, l1a, c1a, d2a, l2a, c2a, d3a, l3a, c3a, d4a, l4a, c4a, rfl, ga⟩ := ha
  obtain ⟨ekb, ezb, etb, d1b, l1b, c1b, d2b, l2b, c2b, d3b, l3b, c3b, d4b, l4b, c4b, rfl, gb⟩ := hb
  obtain ⟨ekc, ezc, etc, d1c, l1c, c1c, d2c, l2c, c2c, d3c, l3c, c3c, d4c, l4c, c4c, rfl, gc⟩ := hc
  cases n with
  | zero => exact ga.elim
  | succ n =>
  have ord := TO.value (n + 1)
  obtain ⟨ka, za, ta, wa, sa, a1, a2, a3, a4⟩ := ga.top
  obtain ⟨kb, zb, tb, wb, sb, b1, b2, b3, b4⟩ := gb.top
  have hcs := @cmpV_scal n x y eka eza ekb ezb eta etb ⟨ka, za, ta⟩ ⟨kb, zb, tb⟩
  obtain ⟨AB, HAB⟩ : ∃ D : Int, D = cmpV (n + 1) x y := ⟨_, rfl⟩
  obtain ⟨BC, HBC⟩ : ∃ D : Int, D = cmpV (n + 1) y u := ⟨_, rfl⟩
  obtain ⟨AC, HAC⟩ : ∃ D : Int, D = cmpV (n + 1) x u := ⟨_, rfl⟩
  obtain ⟨FA, HFA⟩ : ∃ F, F = fitsB eka eka eza eta (noneB l1a l2a l3a l4a) := ⟨_, rfl⟩
  obtain ⟨FB, HFB⟩ : ∃ F, F = fitsB ekb ekb ezb etb (noneB l1b l2b l3b l4b) := ⟨_, rfl⟩
  obtain ⟨X, HX⟩ : ∃ X, X = keyT eka eza eta (noneB l1a l2a l3a l4a) := ⟨_, rfl⟩
  obtain ⟨Y, HY⟩ : ∃ Y, Y = keyT ekb ezb etb (noneB l1b l2b l3b l4b) := ⟨_, rfl⟩
  have VA : ∀ w' : World, Below w.heap.size w w' → IsV (n + 1) w' (.agg #[.int .i64 eka, .int .u64 eza, .string eta, .slice d1a l1a c1a, .slice d2a l2a c2a, .slice d3a l3a c3a, .slice d4a l4a c4a]) x := fun w' hb => ⟨_, _, _, _, _, _, _, _, _, _, _, _, _, _, _, rfl, RVal.keep hb _ _ _ ga⟩
  have VB : ∀ w' : World, Below w.heap.size w w' → IsV (n + 1) w' (.agg #[.int .i64 ekb, .int .u64 ezb, .string etb, .slice d1b l1b c1b, .slice d2b l2b c2b, .slice d3b l3b c3b, .slice d4b l4b c4b]) y := fun w' hb => ⟨_, _, _, _, _, _, _, _, _, _, _, _, _, _, _, rfl, RVal.keep hb _ _ _ gb⟩
  have VC : ∀ w' : World, Below w.heap.size w w' → IsV (n + 1) w' (.agg #[.int .i64 ekc, .int .u64 ezc, .string etc, .slice d1c l1c c1c, .slice d2c l2c c2c, .slice d3c l3c c3c, .slice d4c l4c c4c]) u := fun w' hb => ⟨_, _, _, _, _, _, _, _, _, _, _, _, _, _, _, rfl, RVal.keep hb _ _ _ gc⟩
  have KAB : Hid (∀ w' : World, Below w.heap.size w w' → Calls Tryd.prog 13 #[.agg #[.int .i64 eka, .int .u64 eza, .string eta, .slice d1a l1a c1a, .slice d2a l2a c2a, .slice d3a l3a c3a, .slice d4a l4a c4a], .agg #[.int .i64 ekb, .int .u64 ezb, .string etb, .slice d1b l1b c1b, .slice d2b l2b c2b, .slice d3b l3b c3b, .slice d4b l4b c4b]] w' fun e w2 => e = .returned (.int .i64 AB) ∧ Below w'.heap.size w' w2) := by
    intro w' hb; rw [HAB]; exact ocmp_all _ _ _ x y _ (VA w' hb) (VB w' hb)
  have KBC : Hid (∀ w' : World, Below w.heap.size w w' → Calls Tryd.prog 13 #[.agg #[.int .i64 ekb, .int .u64 ezb, .string etb, .slice d1b l1b c1b, .slice d2b l2b c2b, .slice d3b l3b c3b, .slice d4b l4b c4b], .agg #[.int .i64 ekc, .int .u64 ezc, .string etc, .slice d1c l1c c1c, .slice d2c l2c c2c, .slice d3c l3c c3c, .slice d4c l4c c4c]] w' fun e w2 => e = .returned (.int .i64 BC) ∧ Below w'.heap.size w' w2) := by
    intro w' hb; rw [HBC]; exact ocmp_all _ _ _ y u _ (VB w' hb) (VC w' hb)
  have KAC : Hid (∀ w' : World, Below w.heap.size w w' → Calls Tryd.prog 13 #[.agg #[.int .i64 eka, .int .u64 eza, .string eta, .slice d1a l1a c1a, .slice d2a l2a c2a, .slice d3a l3a c3a, .slice d4a l4a c4a], .agg #[.int .i64 ekc, .int .u64 ezc, .string etc, .slice d1c l1c c1c, .slice d2c l2c c2c, .slice d3c l3c c3c, .slice d4c l4c c4c]] w' fun e w2 => e = .returned (.int .i64 AC) ∧ Below w'.heap.size w' w2) := by
    intro w' hb; rw [HAC]; exact ocmp_all _ _ _ x u _ (VA w' hb) (VC w' hb)
  have KBA : Hid (∀ w' : World, Below w.heap.size w w' → Calls Tryd.prog 13 #[.agg #[.int .i64 ekb, .int .u64 ezb, .string etb, .slice d1b l1b c1b, .slice d2b l2b c2b, .slice d3b l3b c3b, .slice d4b l4b c4b], .agg #[.int .i64 eka, .int .u64 eza, .string eta, .slice d1a l1a c1a, .slice d2a l2a c2a, .slice d3a l3a c3a, .slice d4a l4a c4a]] w' fun e w2 => e = .returned (.int .i64 (-AB)) ∧ Below w'.heap.size w' w2) := by
    intro w' hb; rw [HAB, ← ord.anti x y]; exact ocmp_all _ _ _ y x _ (VB w' hb) (VA w' hb)
  have KFA : Hid (∀ w' : World, Below w.heap.size w w' → Calls Tryd.prog 14 #[.int .i64 eka, .agg #[.int .i64 eka, .int .u64 eza, .string eta, .slice d1a l1a c1a, .slice d2a l2a c2a, .slice d3a l3a c3a, .slice d4a l4a c4a]] w' fun e w2 => e = .returned (.bool FA) ∧ Below w'.heap.size w' w2) := by
    intro w' _; rw [HFA]; exact fits_ok eka eka eza eta l1a l2a l3a l4a c1a c2a c3a c4a d1a d2a d3a d4a w' a1 a2 a3 a4
  have KFB : Hid (∀ w' : World, Below w.heap.size w w' → Calls Tryd.prog 14 #[.int .i64 ekb, .agg #[.int .i64 ekb, .int .u64 ezb, .string etb, .slice d1b l1b c1b, .slice d2b l2b c2b, .slice d3b l3b c3b, .slice d4b l4b c4b]] w' fun e w2 => e = .returned (.bool FB) ∧ Below w'.heap.size w' w2) := by
    intro w' _; rw [HFB]; exact fits_ok ekb ekb ezb etb l1b l2b l3b l4b c1b c2b c3b c4b d1b d2b d3b d4b w' b1 b2 b3 b4
  have KXA : Hid (∀ w' : World, Below w.heap.size w w' → Calls Tryd.prog 10 #[.agg #[.int .i64 eka, .int .u64 eza, .string eta, .slice d1a l1a c1a, .slice d2a l2a c2a, .slice d3a l3a c3a, .slice d4a l4a c4a]] w' fun e w2 => e = .returned (.string X) ∧ Below w'.heap.size w' w2) := by
    intro w' hb; rw [HX]; exact key_ok eka eza eta l1a l2a l3a l4a c1a c2a c3a c4a d1a d2a d3a d4a wa a1 a2 a3 a4 m w' (held hb hm)
  have KXB : Hid (∀ w' : World, Below w.heap.size w w' → Calls Tryd.prog 10 #[.agg #[.int .i64 ekb, .int .u64 ezb, .string etb, .slice d1b l1b c1b, .slice d2b l2b c2b, .slice d3b l3b c3b, .slice d4b l4b c4b]] w' fun e w2 => e = .returned (.string Y) ∧ Below w'.heap.size w' w2) := by
    intro w' hb; rw [HY]; exact key_ok ekb ezb etb l1b l2b l3b l4b c1b c2b c3b c4b d1b d2b d3b d4b wb b1 b2 b3 b4 m w' (held hb hm)
  have KW : Hid (∀ w' : World, Below w.heap.size w w' → Calls Tryd.prog 12 #[] w' fun e w2 => e = .returned (.bool true) ∧ Below w'.heap.size w' w2) :=
    fun w' hb => awake_ok m w' (held hb hm)
  have hlo : -1 ≤ AB := by rw [HAB]; exact ord.lo _ _
  have hhi : AB ≤ 1 := by rw [HAB]; exact ord.hi _ _
  have hn : (-AB != -AB) = false := by simp
  have htr : AB ≤ 0 → BC ≤ 0 → AC = min AB BC := by rw [HAB, HBC, HAC]; exact ord.trans x y u
  have hfit : FA = true → FB = true → Op.bytesLess X.toList Y.toList = decide (AB < 0) ∧ (X.toList == Y.toList) = (AB == 0) ∧ X.toList.isEmpty = false := by
    intro h1 h2
    rw [HFA] at h1
    rw [HFB] at h2
    have hk := key_list eka eza eta _ h1
    have hc : cmpT X Y = AB := by
      rw [HX, HY, HAB, hcs ⟨hk.1, hk.2.1⟩]
      exact cmp_key eka eza ekb ezb eta etb _ _ wa wb h1 h2
    exact ⟨(key_tests X Y AB hc).1, (key_tests X Y AB hc).2, by rw [HX]; exact key_some eka eza eta _ h1⟩
  clear VA VB VC HAB HBC HAC HFA HFB HX HY hcs ord ga gb gc hm
  by_cases h1 : AB ≤ 0
  · by_cases h2 : BC ≤ 0
    · have h3 : (AC != min AB BC) = false := by rw [htr h1 h2]; simp
      cases fa : FA
      · exact tot_ll_n eka eza ekb ezb ekc ezc eta etb etc l1a l2a l3a l4a c1a c2a c3a c4a d1a d2a d3a d4a l1b l2b l3b l4b c1b c2b c3b c4b d1b d2b d3b d4b l1c l2c l3c l4c c1c c2c c3c c4c d1c d2c d3c d4c AB BC AC _ FB X Y w KAB KBC KAC KBA (fa ▸ KFA) KFB KXA KXB KW hlo hhi hn (decide_eq_true h1) (decide_eq_true h2) h3 rfl
      · cases fb : FB
        · exact tot_ll_a eka eza ekb ezb ekc ezc eta etb etc l1a l2a l3a l4a c1a c2a c3a c4a d1a d2a d3a d4a l1b l2b l3b l4b c1b c2b c3b c4b d1b d2b d3b d4b l1c l2c l3c l4c c1c c2c c3c c4c d1c d2c d3c d4c AB BC AC _ _ X Y w KAB KBC KAC KBA (fa ▸ KFA) (fb ▸ KFB) KXA KXB KW hlo hhi hn (decide_eq_true h1) (decide_eq_true h2) h3 rfl rfl
        · obtain ⟨p, q, e⟩ := hfit fa fb
          exact tot_ll_y eka eza ekb ezb ekc ezc eta etb etc l1a l2a l3a l4a c1a c2a c3a c4a d1a d2a d3a d4a l1b l2b l3b l4b c1b c2b c3b c4b d1b d2b d3b d4b l1c l2c l3c l4c c1c c2c c3c c4c d1c d2c d3c d4c AB BC AC _ _ X Y _ _ w KAB KBC KAC KBA (fa ▸ KFA) (fb ▸ KFB) KXA KXB KW hlo hhi hn (decide_eq_true h1) (decide_eq_true h2) h3 rfl rfl p rfl q rfl e
    · cases fa : FA
      · exact tot_le_n eka eza ekb ezb ekc ezc eta etb etc l1a l2a l3a l4a c1a c2a c3a c4a d1a d2a d3a d4a l1b l2b l3b l4b c1b c2b c3b c4b d1b d2b d3b d4b l1c l2c l3c l4c c1c c2c c3c c4c d1c d2c d3c d4c AB BC AC _ FB X Y w KAB KBC KAC KBA (fa ▸ KFA) KFB KXA KXB KW hlo hhi hn (decide_eq_true h1) (decide_eq_false h2) rfl
      · cases fb : FB
        · exact tot_le_a eka eza ekb ezb ekc ezc eta etb etc l1a l2a l3a l4a c1a c2a c3a c4a d1a d2a d3a d4a l1b l2b l3b l4b c1b c2b c3b c4b d1b d2b d3b d4b l1c l2c l3c l4c c1c c2c c3c c4c d1c d2c d3c d4c AB BC AC _ _ X Y w KAB KBC KAC KBA (fa ▸ KFA) (fb ▸ KFB) KXA KXB KW hlo hhi hn (decide_eq_true h1) (decide_eq_false h2) rfl rfl
        · obtain ⟨p, q, e⟩ := hfit fa fb
          exact tot_le_y eka eza ekb ezb ekc ezc eta etb etc l1a l2a l3a l4a c1a c2a c3a c4a d1a d2a d3a d4a l1b l2b l3b l4b c1b c2b c3b c4b d1b d2b d3b d4b l1c l2c l3c l4c c1c c2c c3c c4c d1c d2c d3c d4c AB BC AC _ _ X Y _ _ w KAB KBC KAC KBA (fa ▸ KFA) (fb ▸ KFB) KXA KXB KW hlo hhi hn (decide_eq_true h1) (decide_eq_false h2) rfl rfl p rfl q rfl e
  · cases fa : FA
    · exact tot_gt_n eka eza ekb ezb ekc ezc eta etb etc l1a l2a l3a l4a c1a c2a c3a c4a d1a d2a d3a d4a l1b l2b l3b l4b c1b c2b c3b c4b d1b d2b d3b d4b l1c l2c l3c l4c c1c c2c c3c c4c d1c d2c d3c d4c AB BC AC _ FB X Y w KAB KBC KAC KBA (fa ▸ KFA) KFB KXA KXB KW hlo hhi hn (decide_eq_false h1) rfl
    · cases fb : FB
      · exact tot_gt_a eka eza ekb ezb ekc ezc eta etb etc l1a l2a l3a l4a c1a c2a c3a c4a d1a d2a d3a d4a l1b l2b l3b l4b c1b c2b c3b c4b d1b d2b d3b d4b l1c l2c l3c l4c c1c c2c c3c c4c d1c d2c d3c d4c AB BC AC _ _ X Y w KAB KBC KAC KBA (fa ▸ KFA) (fb ▸ KFB) KXA KXB KW hlo hhi hn (decide_eq_false h1) rfl rfl
      · obtain ⟨p, q, e⟩ := hfit fa fb
        exact tot_gt_y eka eza ekb ezb ekc ezc eta etb etc l1a l2a l3a l4a c1a c2a c3a c4a d1a d2a d3a d4a l1b l2b l3b l4b c1b c2b c3b c4b d1b d2b d3b d4b l1c l2c l3c l4c c1c c2c c3c c4c d1c d2c d3c d4c AB BC AC _ _ X Y _ _ w KAB KBC KAC KBA (fa ▸ KFA) (fb ▸ KFB) KXA KXB KW hlo hhi hn (decide_eq_false h1) rfl rfl p rfl q rfl e

theorem total_args {n n2 n3 : Nat} {v v' v'' : Value} {x : VT n} {y : VT n2} {u : VT n3} {m : Int} {w : World} (h : IsV n w v x) (h' : IsV n2 w v' y) (h'' : IsV n3 w v'' u) (hm : w.cell? ⟨0, 0, none⟩ = some (.int .i64 m)) :
    Calls Tryd.prog 4 #[v, v', v''] w fun e w' => e = .returned (.bool true) ∧ Below w.heap.size w w' := by
  obtain ⟨a, ha⟩ := h.upTo (max n (max n2 n3)) (by omega)
  obtain ⟨b, hb⟩ := h'.upTo (max n (max n2 n3)) (by omega)
  obtain ⟨c, hc⟩ := h''.upTo (max n (max n2 n3)) (by omega)
  exact total_ok _ v v' v'' a b c m w ha hb hc hm
end Go.Proofs.YtlgpoapedgodoaaDoor
