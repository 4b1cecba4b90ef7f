/- Part 18 of the texts that prove TextformScalarsEnd. -/
import Derived.Test.YtdpomombdeccpaaGreatDoorTextformScalarsEndP11
import Derived.Test.YtdpomombdeccpaaGreatDoorTextformScalarsEndP12
import Derived.Test.YtdpomombdeccpaaGreatDoorTextformScalarsEndP13
import Derived.Test.YtdpomombdeccpaaGreatDoorTextformScalarsEndP14
import Derived.Test.YtdpomombdeccpaaGreatDoorTextformScalarsEndP15
import Derived.Test.YtdpomombdeccpaaGreatDoorTextformScalarsEndP16
import Derived.Test.YtdpomombdeccpaaGreatDoorTextformScalarsEndP5
import Derived.Test.YtdpomombdeccpaaGreatDoorTextformScalarsEndP4
import Derived.Test.YtdpomombdeccpaaGreatDoorTextformScalarsEndP3
import Derived.Lib.LaidU8
import Derived.Stop.LaidErr
import Derived.ProofKit
namespace Go.Proofs.YtdpomombdeccpaaGreatDoor.Lift
open Go.RowKit
set_option linter.unusedVariables false
set_option linter.unusedSimpArgs false
set_option linter.unnecessarySimpa false
set_option linter.unusedSectionVars false
set_option maxRecDepth 100000
theorem itoa5 : PureC Tryz.prog glP 76 [.v (.int .i64 (-5))] fun b => b = .v (.string ⟨#[45, 53]⟩) := by
 have ht : (⟨(Lib.itoa (-5)).toArray⟩ : ByteArray) = ⟨#[45, 53]⟩ := by
  have h := intT_big 18446744073709551611 (by decide) (by decide)
  have e : wI ((18446744073709551611 : Nat) : Int) = -5 := wI_big _ (by decide) (by decide)
  rw [e] at h
  show intT (-5) = _
  rw [h, decB_one _ (by decide)]
  rfl
 rw [← ht]
 refine ⟨⟨_, Tryz.func76, by kernel_rfl, by kernel_rfl⟩, fun w outer cargs ho hg hr => ?_⟩
 obtain ⟨r1, e1, q1⟩ := arg_v hr
 rw [arg_0 q1] at e1
 rw [arr_of e1]
 have hp : PowAt 1 w := fun i hi => glob_cell hg (g := 1) (cells := powC) (by simp [glP]) (by simp [powC, hi])
 exact (itoa_c (-5) (by decide) (by decide) w hp).mono fun e w' ⟨he, hb⟩ => ⟨.v (.string ⟨(Lib.itoa (-5)).toArray⟩), _, he, Past.of_below hb, .v _ rfl, rfl⟩
theorem tok_kn {P : Program} {T : Tbl} {g : Nat} {l : List AV} (h : KnOK P g l) (t : TblOK P T) : TblOK P ((g, 0, knC l, []) :: T) := by
 intro f y hf
 rcases List.mem_cons.1 hf with e | hf
 ·cases e; exact h
 ·exact t f y hf
theorem tok0 : TblOK Tryz.prog tbk0 := tok_kn (⟨by kernel_rfl, itoa5⟩ : KnOK Tryz.prog 76 knI) tbl_ok
theorem tok1 : TblOK Tryz.prog tbk1 := tok_kn (⟨by kernel_rfl, run_closed tok0 100000 kn0_run (by kernel_rfl)⟩ : KnOK Tryz.prog 58 (known1 kr0 :: kn0)) tok0
theorem tok2 : TblOK Tryz.prog tbk2 := tok_kn (⟨by kernel_rfl, run_closed tok1 100000 kn1_run (by kernel_rfl)⟩ : KnOK Tryz.prog 7 (known1 kr1 :: kn1)) tok1
theorem tok3 : TblOK Tryz.prog tbk3 := tok_kn (⟨by kernel_rfl, run_closed tok2 100000 kn2_run (by kernel_rfl)⟩ : KnOK Tryz.prog 9 (known1 kr2 :: kn2)) tok2
theorem tok4 : TblOK Tryz.prog tbk4 := tok_kn (⟨by kernel_rfl, run_closed tok3 100000 kn3_run (by kernel_rfl)⟩ : KnOK Tryz.prog 24 (known1 kr3 :: kn3)) tok3
theorem tok5 : TblOK Tryz.prog tbk5 := tok_kn (⟨by kernel_rfl, run_closed tok4 100000 kn4_run (by kernel_rfl)⟩ : KnOK Tryz.prog 24 (known1 kr4 :: kn4)) tok4
theorem awake_pure : PureC Tryz.prog glP 6 [] fun b => b = .v (.bool true) := run_closed tok5 100000 awake_run rfl
theorem awake33 (mg : Int) : law33_awake mg true := by
 have h := awake_pure.more (gl := GLm mg) rfl
 exact ⟨h.1, fun w outer cargs ho hg hr => (h.2 w outer cargs ho hg hr).mono fun e w' ⟨av, x, h1, h2, h3, h4⟩ => ⟨av, x, h1, h2, h3, by rw [h4]; rfl⟩⟩
theorem itemV_at (num : Int) : ∀ {l : List GItem}, (itemV num l).2 = true -> ∃ i : Nat, l[i]? = some (itemV num l).1 /\ wU ((itemV num l).1.Num) = num
 | [], h => by cases h
 | x :: l, h => by
  unfold itemV at h ⊢
  by_cases q : (decide (0 <= x.Num) && (wU x.Num == num)) = true
  ·rw [if_pos q]
   simp only [Bool.and_eq_true, beq_iff_eq] at q
   exact ⟨0, rfl, q.2⟩
  ·rw [if_neg q] at h ⊢
   obtain ⟨i, h1, h2⟩ := itemV_at num h
   exact ⟨i + 1, h1, h2⟩
theorem nameV_at (s : ByteArray) : ∀ (l : List GItem) (i : Nat) (x : GItem), l[i]? = some x -> x.Name = s -> ∃ (j : Nat) (y : GItem), j <= i /\ l[j]? = some y /\ y.Name = s /\ nameV s l = some y
 | [], i, x, h, _ => by simp at h
 | a :: l, i, x, h, hx => by
  rw [nameV]
  by_cases q : a.Name = s
  ·exact ⟨0, a, Nat.zero_le _, rfl, q, if_pos q⟩
  ·cases i with
   | zero => simp at h; subst h; exact absurd hx q
   | succ i =>
    obtain ⟨j, y, h1, h2, h3, h4⟩ := nameV_at s l i x (by simpa using h) hx
    exact ⟨j + 1, y, by omega, by simpa using h2, h3, by rw [if_neg q]; exact h4⟩
theorem nameV_uni {l : List GItem} (hU : UnN l l.length) {i : Nat} {x : GItem} (h : l[i]? = some x) : nameV x.Name l = some x := by
 obtain ⟨j, y, h1, h2, h3, h4⟩ := nameV_at x.Name l i x h rfl
 rcases Nat.lt_or_ge j i with q | q
 ·have hi : i < l.length := (List.getElem?_eq_some_iff.1 h).1
  exact absurd h3 (hU j i y x q hi h2 h)
 ·have : j = i := by omega
  subst this
  rw [h] at h2
  cases h2
  exact h4
theorem items_of (p : GPlan) (t : Int) : itemsOf p t = [] ∨ ∃ g ∈ p.Enums, itemsOf p t = g.Items := by
 unfold itemsOf
 by_cases h : t < 0 ∨ (p.Enums.length : Int) <= t
 ·exact .inl (if_pos h)
 ·have hlt : t.toNat < p.Enums.length := by omega
  rw [if_neg h, List.getElem?_eq_getElem hlt]
  exact .inr ⟨_, List.getElem_mem hlt, rfl⟩
theorem part_hash {s : ByteArray} (h : partB s = true) : hasP s ⟨#[35]⟩ = false := by
 unfold partB at h
 simp only [Bool.and_eq_true, isL, decide_eq_true_eq] at h
 rw [hasP1, decide_eq_false_iff_not]
 intro q
 have : byteN s 0 = 35 := q.2
 omega
theorem fits_text {v : GValue} (hf : fitsV v.Kind v = true) (h : ¬ (v.Kind = 7 ∨ v.Kind = 8)) : v.Text = ⟨#[]⟩ := by
 unfold fitsV at hf
 rw [if_neg h] at hf
 simp only [Bool.and_eq_true, decide_eq_true_eq] at hf
 exact hf.2.1
theorem fitsV_lone {k : Int} {v : GValue} (hf : fitsV k v = true) : loneV v = true := by
 unfold fitsV at hf
 simp only [Bool.and_eq_true] at hf
 exact hf.1.2
theorem cut_one (c : UInt8) (t : ByteArray) : hasP ((⟨#[c]⟩ : ByteArray) ++ t) ⟨#[c]⟩ = true /\ ((⟨#[c]⟩ : ByteArray) ++ t).extract 1 ((⟨#[c]⟩ : ByteArray) ++ t).size = t := by
 have hz : ((⟨#[c]⟩ : ByteArray) ++ t).size = 1 + t.size := by rw [ba_size]; rfl
 have hb : byteN ((⟨#[c]⟩ : ByteArray) ++ t) 0 = c.toNat := byteN_left _ _ (j := 0) (by show 0 < 1; omega)
 refine ⟨by rw [hasP1]; exact decide_eq_true ⟨by omega, hb⟩, ?_⟩
 apply bs_inj
 rw [bs_cut, bs_app, hz, List.take_of_length_le (by rw [List.length_append, bs_len, bs_len]; exact Nat.le_refl _)]
 rfl
theorem round_scal (p : GPlan) (hN : NamQ p) (hU : UnNP p) (o : GOp) (v : GValue) (hv : OkV v) (hf : fitsV o.Kind v = true) (h6 : o.Kind ≠ 6) (ha : o.Kind = 9 -> accB p o.Target v.Bits = true) : pscalV p o (scalT p o v) = (mkV o.Kind v.Bits v.Text, 0) := by
 obtain ⟨k1, k2, k3⟩ := fitsV_kind hf
 have hf' : fitsV v.Kind v = true := by rw [k3]; exact hf
 have pt := parse_txt v hv hf' (by omega)
 rw [k3] at pt
 rw [scalT, if_neg (by rw [hf]; decide)]
 by_cases h9 : o.Kind ≠ 9
 ·rw [if_pos h9, pscalV, if_neg (fun q => q ⟨k1, k2⟩), if_pos h9]; exact pt
 rw [if_neg h9]
 have e9 : o.Kind = 9 := Classical.byContradiction h9
 have ht : v.Text = ⟨#[]⟩ := fits_text hf' (by omega)
 by_cases hi : (itemV v.Bits (itemsOf p o.Target)).2 = true
 ·rw [if_pos hi]
  obtain ⟨i, q1, q2⟩ := itemV_at _ hi
  have hm := itemV_mem _ hi
  generalize (itemV v.Bits (itemsOf p o.Target)).1 = it at *
  rcases items_of p o.Target with e | ⟨g, hg, e⟩
  ·rw [e] at hm; cases hm
  rw [e] at hm q1
  have hP := hN g hg _ hm
  have hu := nameV_uni (hU g hg) q1
  rw [pscalV, if_neg (fun q => q ⟨k1, k2⟩), if_neg h9, if_neg (by rw [part_hash hP]; decide), if_neg (by rw [hP]; decide), nameR, e, hu]
  simp only
  rw [q2, e9, ht]
 ·rw [if_neg hi]
  obtain ⟨c1, c2⟩ := cut_one 35 (txtV v)
  rw [pscalV, if_neg (fun q => q ⟨k1, k2⟩), if_neg h9, if_pos c1, c2]
  rw [e9] at pt
  rw [pt, if_neg (by simp), if_neg, e9]
  rintro (q | q)
  ·exact hi q
  ·have : accB p o.Target v.Bits = false := q
   rw [ha e9] at this; cases this
theorem scalT_size (p : GPlan) (nm : NamQ p) (o : GOp) (v : GValue) (hv : OkV v) : (scalT p o v).size <= 40000 := by
 have h := txtV_size v hv
 unfold scalT
 split
 ·exact (by decide : (0 : Nat) <= 40000)
 split
 ·omega
 split
 ·rename_i hi
  have hm := itemV_mem _ hi
  rcases items_of p o.Target with e | ⟨g, hg, e⟩
  ·rw [e] at hm; cases hm
  ·rw [e] at hm ⊢
   have := nm g hg _ hm
   unfold partB at this
   simp only [Bool.and_eq_true, decide_eq_true_eq] at this
   omega
 ·rw [ba_size, show (⟨#[35]⟩ : ByteArray).size = 1 from rfl]; omega
theorem lone_mk (k b : Int) (t : ByteArray) (e : Int) : loneV (mkV k b t, e).1 = true := rfl
theorem lone_no (e : Int) : loneV (nV0, e).1 = true := rfl
theorem lone_if {c : Prop} [Decidable c] {a b : GValue × Int} (ha : loneV a.1 = true) (hb : loneV b.1 = true) : loneV (if c then a else b).1 = true := by
 by_cases h : c
 ·rw [if_pos h]; exact ha
 ·rw [if_neg h]; exact hb
theorem lone_end (k : Int) (t : ByteArray) : loneV (endV k t).1 = true := lone_if (lone_no _) (lone_if (lone_no _) (lone_mk _ _ _ _))
theorem lone_text (k : Int) (q : ByteArray) : loneV (textV k q).1 = true := by
 unfold textV
 refine lone_if (lone_no _) (lone_if ?_ (lone_end _ _))
 split
 ·rfl
 ·exact lone_end _ _
theorem lone_dbl (s : ByteArray) : loneV (dblV s).1 = true := by
 unfold dblV
 refine lone_if (lone_mk _ _ _ _) (lone_if (lone_mk _ _ _ _) (lone_if (lone_mk _ _ _ _) ?_))
 split <;> rfl
theorem lone_whole (k : Int) (s : ByteArray) : loneV (wholeV k s).1 = true := by
 unfold wholeV
 refine lone_if ?_ (lone_no _)
 split
 ·rfl
 ·exact lone_if (lone_mk _ _ _ _) (lone_no _)
theorem lone_parse (k : Int) (s : ByteArray) : loneV (parseV k s).1 = true :=
 lone_if (lone_no _) (lone_if (lone_if (lone_mk _ _ _ _) (lone_if (lone_mk _ _ _ _) (lone_no _))) (lone_if (lone_dbl _) (lone_if (lone_text _ _) (lone_if (lone_if (lone_text _ _) (lone_no _)) (lone_whole _ _)))))
theorem lone_name (s : ByteArray) (l : List GItem) : loneV (nameR s l).1 = true := by
 unfold nameR
 split <;> rfl
theorem lone_pscal (p : GPlan) (o : GOp) (s : ByteArray) : loneV (pscalV p o s).1 = true := by
 unfold pscalV
 refine lone_if (lone_no _) (lone_if (lone_parse _ _) (lone_if (lone_if (lone_no _) (lone_if (lone_no _) ?_)) (lone_if (lone_no _) (lone_name _ _))))
 have h := lone_parse 9 (s.extract 1 s.size)
 generalize parseV 9 (s.extract 1 s.size) = y at h ⊢
 exact h
theorem OkPlan.okeS {p : GPlan} (h : OkPlan p) : OkE p := ⟨sz_le h.ne, fun y hy => ⟨sz_le (h.enums y hy).ni, fun it hit => ⟨((h.enums y hy).items it hit).num.1, ((h.enums y hy).items it hit).num.2⟩⟩⟩
theorem scalars_true (mg : Int) (p : GPlan) (hp : OkPlan p) (o : GOp) (v : GValue) (hv : OkV v) (s : ByteArray) (hs : s.size <= 1073741824) : law33_TextformScalars mg p o v s true := by
 have hE := hp.okeS
 have hi : ∀ g ∈ p.Enums, g.Items.length <= 140737488351232 := fun g hg => (hE.i g hg).1
 obtain ⟨y, h1, h2⟩ := q_check p hp
 refine law33_TextformScalars_step mg _ _ _ _ _ ⟨y, h1, fun _ => ⟨true, awake33 mg, rfl⟩, fun h => ?_⟩
 obtain ⟨nm, un⟩ := h2 (by simpa using h)
 refine ⟨_, scalT_is mg p hi o v hv, _, pscal_is mg p hE o s hs, _, rpscal_is p hE o s hs, _, rscalT_is p hi o v hv, fun z => z = false, fun z hz => ⟨fun h => ?_, fun h => ?_⟩, fun h => ?_, fun h => ⟨true, same_mk _ _ rfl rfl rfl (lone_pscal _ _ _) (lone_pscal _ _ _), rfl⟩⟩
 ·rw [hz] at h; simp at h
 ·refine ⟨fun z => z = decide (scalT p o v = ⟨#[]⟩ ∨ o.Kind = 6 ∨ (o.Kind = 9 /\ accB p o.Target v.Bits = false)), fun z hz => ⟨fun h => ⟨true, awake33 mg, rfl⟩, fun h => ?_⟩, fun h => ?_, fun h => ⟨fun z => z = decide (o.Kind = 9 /\ accB p o.Target v.Bits = false), fun z hz => ?_, fun h9 => ⟨_, raccepts_is p hE _ _ hv.b0, ?_⟩, fun h9 => ?_⟩⟩
  ·rw [hz] at h
   have h := of_decide_eq_false h
   have hf : fitsV o.Kind v = true := by
    cases hq : fitsV o.Kind v with
    | true => rfl
    | false => exact absurd (.inl (by rw [scalT, if_pos hq])) h
   have hr := round_scal p nm un o v hv hf (fun q => h (.inr (.inl q))) (fun q => by
    cases ha : accB p o.Target v.Bits with
    | true => rfl
    | false => exact absurd (.inr (.inr ⟨q, ha⟩)) h)
   refine ⟨_, pscal_is mg p hE o _ ?_, fun h0 => ⟨true, ?_, fun _ => ⟨true, awake33 mg, rfl⟩, fun q => by cases q⟩, fun h0 => ?_⟩
   ·have := scalT_size p nm o v hv; omega
   ·rw [hr]
    exact same_mk _ _ (fitsV_kind hf).2.2.symm rfl rfl rfl (fitsV_lone hf)
   ·rw [hr] at h0; cases h0
  ·show true = _
   rw [eq_comm, decide_eq_true_eq]
   simp only [Bool.or_eq_true, decide_eq_true_eq, beq_iff_eq] at h
   rcases h with h | h
   ·exact .inl h
   ·exact .inr (.inl h)
  ·show z = _
   simp only [Bool.or_eq_false_iff, decide_eq_false_iff_not, beq_eq_false_iff_ne] at h
   rw [hz]
   simp [h.1, h.2]
  ·show (!_) = _
   have h9 : o.Kind = 9 := by simpa using h9
   cases accB p o.Target v.Bits <;> simp [h9]
  ·show false = _
   have h9 : ¬ o.Kind = 9 := by simpa using h9
   simp [h9]
 ·simp at h
section
variable {n : Nat} {av : AV}
theorem ar_O (h : TyV Tryz.prog n 40 av) : ∃ x, av = .agg (eGOp x) /\ OkOp x := by
 obtain ⟨avs, rfl, g⟩ := tyV_st (ts := [3, 9, 9, 3, 3, 3, 3, 3]) (by kernel_rfl) h
 obtain ⟨x, rfl, k⟩ := op_op g
 exact ⟨x, rfl, k⟩
end
theorem ints_arr {P : Program} {w : World} {fuel : Nat} {t e : TypeId} {n : Nat} {cs : List Value} {k : IntKind} {zs : List Int} {p : List MemPlace} (ht : P.underlying t = some (.array n e)) (he : P.underlying e = some (.int k)) (hc : P.cellsOf e = 1)
  (h : DataW.trod (fun _ => ()) P w 0 (fun _ => true) false fuel t cs = some (.agg (zs.map fun z => .lit (.int k z)), p)) (i : Nat) (hi : i < n) (z : Int) (hz : zs[i]? = some z) : cs[i]? = some (.int k z) := by
 obtain ⟨fuel', d, q, hd, h1⟩ := Lib.array_elem ht h i hi
 simp only [List.getElem?_map, hz, Option.map_some, Option.some.injEq] at hd
 subst hd
 rw [hc] at h1
 obtain ⟨x, h2, h3, _⟩ := DataW.trod_int he h1
 have h4 : x = z := by
  have := congrArg Prod.fst h3
  simpa using this.symm
 have h5 := congrArg (·[0]?) h2
 simp only [List.getElem?_take, List.getElem?_drop] at h5
 subst h4
 simpa using h5
theorem elt_mk {w : World} {g : Nat} {cells : List AV} (xs : Nat -> Value) (h : ∀ (i : Nat) (av : AV), cells[i]? = some av -> w.cell? ⟨g, i, none⟩ = some (xs i) /\ av = .v (xs i) /\ atom (xs i) = true) : Rel (bare w nowhere) (.elt cells 0) (.pointer (some ⟨g, 0, none⟩)) := by
 refine .elt cells 0 g 0 xs (fun i av hi => ?_) (fun i av hi => ?_)
 ·obtain ⟨h1, rfl, h3⟩ := h i av hi
  exact ⟨by rw [Nat.zero_add]; exact h1, fun q => q.elim (fun x => x.elim) (fun x => bare_own _ _ _ _ x), rfl⟩
 ·obtain ⟨h1, rfl, h3⟩ := h i av hi
  exact .v _ h3
def powZ : List Int := [1, 10, 100, 1000, 10000, 100000, 1000000, 10000000, 100000000, 1000000000, 10000000000, 100000000000, 1000000000000, 10000000000000, 100000000000000, 1000000000000000, 10000000000000000, 100000000000000000, 1000000000000000000, 10000000000000000000]
def bruZ : List Int := [0, 1, 56, 2, 57, 49, 28, 3, 61, 58, 42, 50, 38, 29, 17, 4, 62, 47, 59, 36, 45, 43, 51, 22, 53, 39, 33, 30, 24, 18, 12, 5, 63, 55, 48, 27, 60, 41, 37, 16, 46, 35, 44, 21, 52, 32, 23, 11, 54, 26, 40, 15, 34, 20, 31, 10, 25, 14, 19, 9, 13, 8, 7, 6]
theorem globs_pow {w : World} (hp : Lib.VarReads Tryz.prog w "internal/strconv.uint64pow10" (.agg (powZ.map fun z => .lit (.int .u64 z)))) (g : Nat) (cells : List AV) (e : (g, cells) = (1, powZ.map fun z => .v (.int .u64 z))) : Rel (bare w nowhere) (.elt cells 0) (.pointer (some ⟨g, 0, none⟩)) := by
  have e2 : cells = powZ.map fun z => .v (.int .u64 z) := by cases e; rfl
  obtain rfl : g = 1 := by cases e; rfl
  subst e2
  obtain ⟨g, t, cs, fuel, p, h1, h2, h3, h4⟩ := hp
  have g1 : Tryz.prog.globalNamed "internal/strconv.uint64pow10" = some 1 := by kernel_rfl
  obtain rfl := Option.some.inj (g1.symm.trans h1)
  have g2 : (Tryz.prog.globals[1]?).map (·.type) = some 258 := by kernel_rfl
  obtain rfl := Option.some.inj (g2.symm.trans h2)
  refine elt_mk (fun i => .int .u64 (powZ.getD i 0)) fun i av hi => ?_
  rw [List.getElem?_map] at hi
  obtain ⟨s, hs, rfl⟩ := Option.map_eq_some_iff.1 hi
  have hd : powZ.getD i 0 = s := by rw [List.getD_eq_getElem?_getD, hs]; rfl
  have hlt : i < 20 := (List.getElem?_eq_some_iff.1 hs).1
  have := ints_arr (t := 258) (e := 26) (n := 20) (by kernel_rfl) (by kernel_rfl) (by kernel_rfl) h4 i hlt s hs
  refine ⟨?_, by rw [hd], rfl⟩
  rw [World.var?_cell g1 h3 i, ← Array.getElem?_toList, hd]
  exact this
theorem globs_bru {w : World} (hb : Lib.VarReads Tryz.prog w "math/bits.deBruijn64tab" (.agg (bruZ.map fun z => .lit (.int .u8 z)))) (g : Nat) (cells : List AV) (e : (g, cells) = (5, bruZ.map fun z => .v (.int .u8 z))) : Rel (bare w nowhere) (.elt cells 0) (.pointer (some ⟨g, 0, none⟩)) := by
  have e2 : cells = bruZ.map fun z => .v (.int .u8 z) := by cases e; rfl
  obtain rfl : g = 5 := by cases e; rfl
  subst e2
  obtain ⟨g, t, cs, fuel, p, h1, h2, h3, h4⟩ := hb
  have g1 : Tryz.prog.globalNamed "math/bits.deBruijn64tab" = some 5 := by kernel_rfl
  obtain rfl := Option.some.inj (g1.symm.trans h1)
  have g2 : (Tryz.prog.globals[5]?).map (·.type) = some 306 := by kernel_rfl
  obtain rfl := Option.some.inj (g2.symm.trans h2)
  refine elt_mk (fun i => .int .u8 (bruZ.getD i 0)) fun i av hi => ?_
  rw [List.getElem?_map] at hi
  obtain ⟨s, hs, rfl⟩ := Option.map_eq_some_iff.1 hi
  have hd : bruZ.getD i 0 = s := by rw [List.getD_eq_getElem?_getD, hs]; rfl
  have hlt : i < 64 := (List.getElem?_eq_some_iff.1 hs).1
  have := ints_arr (t := 306) (e := 5) (n := 64) (by kernel_rfl) (by kernel_rfl) (by kernel_rfl) h4 i hlt s hs
  refine ⟨?_, by rw [hd], rfl⟩
  rw [World.var?_cell g1 h3 i, ← Array.getElem?_toList, hd]
  exact this
theorem calls_true_gl {P : Program} {f : FuncId} {args : List AV} {cargs : Array Value} {W : World} {gl : List (Nat × List AV)} (hg : Globs W nowhere gl) (hf : PureN P gl f args (.v (.bool true))) (hr : Rels (bare W nowhere) args cargs.toList) :
  Calls P f cargs W fun e W' => e = .returned (.bool true) /\ Below W.heap.size W W' := by
 refine (hf.2 W nowhere cargs (fun b o h => h.elim) hg hr).mono fun e W' ⟨av, x, he, hp, hrel, hav⟩ => ?_
 rw [nz_true hav] at hrel
 cases hrel with
 | v _ _ => exact ⟨he, hp.below⟩
section
open Go.RowKit Go.ChangeShapes Go.WideShapes
theorem star_err : "*" ++ "errors.errorString" = "*errors.errorString" := by decide
theorem row_err (u : TypeId) (h : Tryz.prog.typeName? 3 u = some "*errors.errorString") : u = 307 :=
 typeName_ptr_named (nm := "errors.errorString") (by rw [star_err]; kernel_rfl) (by kernel_rfl) (by decide) u (by rw [star_err]; exact h)
theorem err_cell {n : String} {text : List UInt8} {r : List (String × DataW Unit)} {W : World} {g : Nat} (h : laidMet Tryz.prog ((n, .iface "*errors.errorString" (.ptr (.agg [.lit (.string text)]))) :: r) W) (hg : Tryz.prog.globalNamed n = some g) (ht : (Tryz.prog.globals[g]?).map (·.type) = some 70) :
  Rel (bare W nowhere) (.elt [.iface 307 (.elt [] 0)] 0) (.pointer (some ⟨g, 0, none⟩)) := by
 obtain ⟨ms, hi⟩ : ∃ ms, Tryz.prog.underlying 70 = some (.interface ms) := by
  have q : (match Tryz.prog.underlying 70 with | some (.interface _) => true | _ => false) = true := by kernel_rfl
  split at q
  ·rename_i ms q2; exact ⟨ms, q2⟩
  ·cases q
 obtain ⟨a, s, hv, hc0, _, _⟩ := laid_sentinel (te := 309) (f := ⟨"s", 9, 0, false, "", "errors", 0⟩) h hg ht hi row_err (by kernel_rfl) (by kernel_rfl) rfl rfl (by kernel_rfl) (by kernel_rfl) (by kernel_rfl)
 have hc : W.cell? ⟨g, 0, none⟩ = some (.iface 307 (.pointer (some a))) := by
  have := World.var?_cell hg hv 0
  simpa using this
 have hs : a.spot = none := by
  unfold World.cell? at hc0
  split at hc0
  ·split at hc0
   ·cases hc0
   ·rename_i q; simpa using q
  ·cases hc0
 obtain ⟨ab, ao, an⟩ := a
 simp only at hs
 subst hs
 refine .elt _ 0 g 0 (fun _ => .iface 307 (.pointer (some ⟨ab, ao, none⟩))) (fun i av hi => ?_) (fun i av hi => ?_)
 all_goals
  cases i with
  | succ i => simp at hi
  | zero => ?_
  simp only [List.getElem?_cons_zero, Option.some.injEq] at hi
  subst hi
 ·exact ⟨hc, fun q => q.elim (fun x => x.elim) (fun x => bare_own _ _ _ _ x), rfl⟩
 ·exact .iface _ _ _ (.elt [] 0 ab ao (fun _ => .nilIface) (fun i av h => by simp at h) (fun i av h => by simp at h))
theorem globs_ofS (mg : Int) {w : World} (hp : Lib.VarReads Tryz.prog w "internal/strconv.uint64pow10" (.agg (powZ.map fun z => .lit (.int .u64 z)))) (hb : Lib.VarReads Tryz.prog w "math/bits.deBruijn64tab" (.agg (bruZ.map fun z => .lit (.int .u8 z))))
  {r : List (String × DataW Unit)} {t1 t2 : List UInt8} (he : laidMet Tryz.prog (("strconv.ErrRange", .iface "*errors.errorString" (.ptr (.agg [.lit (.string t1)]))) :: ("strconv.ErrSyntax", .iface "*errors.errorString" (.ptr (.agg [.lit (.string t2)]))) :: r) w) : Globs w nowhere (GLm mg) := by
 intro g cells hg
 rcases List.mem_cons.1 hg with e | hg
 ·exact globs_pow hp g cells e
 rcases List.mem_cons.1 hg with e | hg
 ·exact globs_bru hb g cells e
 rcases List.mem_cons.1 hg with e | hg
 ·cases e; exact err_cell he (by kernel_rfl) (by kernel_rfl)
 rcases List.mem_cons.1 hg with e | hg
 ·cases e; exact err_cell he.tail (by kernel_rfl) (by kernel_rfl)
 ·cases hg
end
end Go.Proofs.YtdpomombdeccpaaGreatDoor.Lift
