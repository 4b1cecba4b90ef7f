/- Part 20 of the texts that prove TextformScalarsEnd. -/
import Derived.Test.YtdpomombdeccpaaGreatDoorTextformScalarsEndP0
import Derived.Test.YtdpomombdeccpaaGreatDoorTextformScalarsEndP4
import Derived.Test.YtdpomombdeccpaaGreatDoorRows
namespace Go.Proofs.YtdpomombdeccpaaGreatDoor.Lift
open Go.RowKit
set_option linter.unusedVariables false
set_option linter.unusedSimpArgs false
set_option linter.unnecessarySimpa false
set_option linter.unusedSectionVars false
set_option maxRecDepth 100000
mutual
def bA : AV -> Nat
 | .v (.string s) => s.size + 1
 | .sl els _ => bLL els + 1
 | .agg cells => bL cells + 1
 | _ => 1
def bL : List AV -> Nat
 | [] => 0
 | a :: l => bA a + bL l
def bLL : List (List AV) -> Nat
 | [] => 0
 | a :: l => bL a + bLL l
end
theorem bL_append : ∀ (a b : List AV), bL (a ++ b) = bL a + bL b
 | [], b => by simp [bL]
 | x :: a, b => by simp [bL, bL_append a b, Nat.add_assoc]
theorem bL_flatten : ∀ (l : List (List AV)), bL l.flatten = bLL l
 | [] => by simp [bL, bLL]
 | x :: l => by simp [bL_append, bLL, bL_flatten l]
section
open Go.RowKit Go.ChangeShapes Go.WideShapes Go.ChangeAt
open _root_.Go.Proofs.YtdpomombdeccpaaGreatDoor.Rows (uptoBulk uptoBulkAll uptoBulkEntries uptoBulkEntry)
section
variable {H : Type} {enc : TypeId × Value -> H} {P : Program} {W : World} {base b0 : Nat} {spare : Nat -> Bool} {held : Bool}
theorem bLL_le : ∀ (els : List (List AV)) (ds : List (DataW H)), ds.length = els.length -> (∀ (i : Nat) (el : List AV) (d : DataW H), els[i]? = some el -> ds[i]? = some d -> bL el <= uptoBulk d) -> bLL els <= uptoBulkAll ds
 | [], ds, _, _ => by simp [bLL]
 | el :: els, [], h, _ => by simp at h
 | el :: els, d :: ds, h, hh => by
  have h1 := hh 0 el d rfl rfl
  have h2 := bLL_le els ds (by simpa using h) fun i e d hi hd => hh (i + 1) e d (by simpa using hi) (by simpa using hd)
  simp only [bLL, uptoBulkAll]
  omega
theorem open_cells_b {ts : List TypeId} (ok : okTypes P ts = true) : ∀ (n : Nat) (t : TypeId) (cs : List Value) (z : DataW H × List MemPlace), t ∈ ts -> DataW.trod enc P W base spare held n t cs = some z -> Lightly P t z.1 ->
  ∃ avs, Cells (bare W nowhere) avs cs /\ Ty P n t avs /\ plainL avs = true /\ bL avs <= uptoBulk z.1 := by
 intro n
 induction n with
 | zero => intro t cs z ht h; simp [DataW.trod] at h
 | succ n ih =>
  intro t cs z ht h hw
  have hok := List.all_eq_true.1 ok t ht
  unfold okT at hok
  split at hok
  ·rename_i k hu
   obtain ⟨m, rfl, hz, hwf⟩ := DataW.trod_int hu h
   exact ⟨[.v (.int k m)], Cells.one (.v _ rfl) rfl, by unfold Ty; rw [hu]; exact ⟨m, rfl, hwf⟩, rfl, by rw [hz]; simp [bL, bA, uptoBulk]⟩
  ·rename_i hu
   obtain ⟨b, rfl, hz⟩ := DataW.trod_bool hu h
   exact ⟨[.v (.bool b)], Cells.one (.v _ rfl) rfl, by unfold Ty; rw [hu]; exact ⟨b, rfl⟩, rfl, by rw [hz]; simp [bL, bA, uptoBulk]⟩
  ·rename_i hu
   obtain ⟨s, rfl, rfl, _⟩ := DataW.trod_string hu h
   have : s.size <= 140737488351232 := hw s.size (by simp [DataW.weights])
   exact ⟨[.v (.string s)], Cells.one (.v _ rfl) rfl, by unfold Ty; rw [hu]; exact ⟨s, rfl, this⟩, rfl, by simp [bL, bA, uptoBulk]⟩
  ·rename_i e hu
   simp only [Bool.and_eq_true, decide_eq_true_eq, List.contains_iff_mem] at hok
   obtain ⟨⟨he, hk0⟩, hb1⟩ := hok
   rcases DataW.trod_slice hu h with ⟨hc, hx0⟩ | ⟨a, len, cap, elems, rest, m, hm, hc, hy, hb, hl, hmx, hlen, helem, _⟩
   ·subst hc
    exact ⟨[.sl [] .no], Cells.one (.sl0 _ trivial) rfl, by unfold Ty; rw [hu]; exact ⟨[], rfl, by simp, fun el h => by cases h⟩, rfl, by rw [hx0]; simp [bL, bA, bLL, uptoBulk]⟩
   ·subst hc hy
    obtain rfl : m = n := by omega
    have hsh := Lightly.short hu hw
    rw [List.length_map, hlen] at hsh
    have key : ∀ i, i < len -> ∃ avs : List AV, ∃ vs : List Value, vs.length = P.cellsOf e /\ (∀ j, j < P.cellsOf e -> W.cell? ((a.add (i * P.cellsOf e)).add j) = vs[j]?) /\ Cells (bare W nowhere) avs vs /\ Ty P m e avs /\ plainL avs = true /\ ∀ q, elems[i]? = some q -> bL avs <= uptoBulk q.1 := by
     intro i hi
     have h1 := helem i hi
     rw [List.getElem?_eq_getElem (by omega), Option.bind_eq_some_iff] at h1
     obtain ⟨vs, hc1, hc2⟩ := h1
     obtain ⟨_, hl1, hc3⟩ := World.cells?_some hc1
     obtain ⟨avs, h2, h3, h4, h5⟩ := ih e vs _ he hc2 (Lightly.elem hu hw (i := i) (by rw [List.getElem?_map, List.getElem?_eq_getElem (by omega)]; rfl))
     exact ⟨avs, vs, hl1, hc3, h2, h3, h4, fun q hq => by rw [List.getElem?_eq_getElem (by omega)] at hq; cases hq; exact h5⟩
    obtain ⟨els, hel, hels⟩ := list_of' len key
    have hty : ∀ el ∈ els, Ty P m e el /\ plainL el = true := by
     intro el hmem
     obtain ⟨i, hi⟩ := List.mem_iff_getElem?.1 hmem
     obtain ⟨vs, _, _, _, q1, q2, _⟩ := hels i el hi
     exact ⟨q1, q2⟩
    refine ⟨[.sl els .no], Cells.one ?_ rfl, by unfold Ty; rw [hu]; exact ⟨els, rfl, by rw [hel]; exact hsh, fun el h => (hty el h).1⟩, by simp only [plainL, plain, Bool.true_and, Bool.and_true]; exact plainLL_of fun p hp => (hty p hp).2, ?_⟩
    rotate_left
    ·simp only [bL, bA, uptoBulk, Nat.add_zero]
     have hz : bLL els <= uptoBulkAll (elems.map (·.1)) := bLL_le els _ (by rw [List.length_map, hel, hlen]) fun i el d hi hd => by
      obtain ⟨vs, _, _, _, _, _, q3⟩ := hels i el hi
      rw [List.getElem?_map, Option.map_eq_some_iff] at hd
      obtain ⟨q, hq, rfl⟩ := hd
      exact q3 q hq
     omega
    by_cases h0 : len = 0
    ·subst h0
     have : els = [] := List.eq_nil_of_length_eq_zero hel
     subst this
     exact .slx _ a cap trivial (.inl rfl)
    ·obtain ⟨b, o, sp⟩ := a
     obtain ⟨avs0, vs0, hl0, hc0, _⟩ := key 0 (by omega)
     have hz := hc0 0 hk0
     rw [List.getElem?_eq_getElem (by omega)] at hz
     have hspot : sp = none := by
      have := World.cell?_spot hz
      simpa [Addr.add] using this
     subst hspot
     have := Rel.sl (σ := bare W nowhere) els .no b o cap (P.cellsOf e) (fun i j => ((W.cell? ⟨b, o + i * P.cellsOf e + j, none⟩).getD undef)) (fun i el hi => by
       obtain ⟨vs, q1, _, q3, _⟩ := hels i el hi
       rw [← q3.1, q1]) (by omega) trivial (fun id e h => by cases h) (fun i el hi j av hj => by
       obtain ⟨vs, q1, q2, q3, _⟩ := hels i el hi
       obtain ⟨c1, x, hx, hr⟩ := q3.2 j av hj
       have hjl : j < P.cellsOf e := by rw [← q1]; exact (List.getElem?_eq_some_iff.1 hx).1
       have := q2 j hjl
       rw [addr_add, addr_add, hx] at this
       exact ⟨by show W.cell? _ = _; rw [this]; rfl, fun h => (bare_open _ _ _ _).1 h, c1⟩) (fun i el hi j av hj => by
       obtain ⟨vs, q1, q2, q3, _⟩ := hels i el hi
       obtain ⟨c1, x, hx, hr⟩ := q3.2 j av hj
       have hjl : j < P.cellsOf e := by rw [← q1]; exact (List.getElem?_eq_some_iff.1 hx).1
       have := q2 j hjl
       rw [addr_add, addr_add, hx] at this
       rw [this]; exact hr)
     rw [hel] at this
     exact this
  ·rename_i fs hu
   simp only [Bool.and_eq_true, List.all_eq_true, List.contains_iff_mem] at hok
   obtain ⟨hfs, hcg⟩ := hok
   obtain ⟨xs, m, hm, rfl, hcl, hxl, hf⟩ := DataW.trod_struct hu h
   obtain rfl : m = n := by omega
   have key : ∀ i, i < fs.size -> ∃ avs : List AV, ∀ f, fs[i]? = some f -> Cells (bare W nowhere) avs ((cs.drop f.offset).take (P.cellsOf f.type)) /\ Ty P m f.type avs /\ plainL avs = true /\ ∀ q, xs[i]? = some q -> bL avs <= uptoBulk q.1 := by
    intro i hi
    have hfi : fs[i]? = some fs[i] := Array.getElem?_eq_getElem hi
    have e : xs[i]? = some xs[i] := List.getElem?_eq_getElem (by omega)
    obtain ⟨avs, h2, h3, h4, h5⟩ := ih fs[i].type _ _ (hfs _ (by simp)) ((hf i _ hfi).trans e) (Lightly.part hu hw hfi (by rw [List.getElem?_map, e]; rfl))
    refine ⟨avs, fun f hf' => ?_⟩
    rw [hfi] at hf'; cases hf'
    exact ⟨h2, h3, h4, fun q hq => by rw [e] at hq; cases hq; exact h5⟩
   obtain ⟨parts, hpl, hparts⟩ := list_of' fs.size key
   have hcells := cells_concat (P := P) (bare W nowhere) fs.toList 0 (P.cellsOf t) cs parts hcg hcl (by simpa using hpl) (fun i f p hfi hpi => (hparts i p hpi f (by simpa using hfi)).1)
   refine ⟨parts.flatten, by simpa using hcells, ?_, plainL_flatten fun p hp => ?_, ?_⟩
   ·unfold Ty; rw [hu]
    refine ⟨parts, rfl, hpl, fun i f hfi => ?_⟩
    have hi : i < parts.length := by rw [hpl]; exact (Array.getElem?_eq_some_iff.1 hfi).1
    exact ⟨parts[i], List.getElem?_eq_getElem hi, (hparts i _ (List.getElem?_eq_getElem hi) f hfi).2.1⟩
   ·obtain ⟨i, hi⟩ := List.mem_iff_getElem?.1 hp
    have hlt : i < fs.size := by rw [← hpl]; exact (List.getElem?_eq_some_iff.1 hi).1
    exact (hparts i p hi fs[i] (Array.getElem?_eq_getElem hlt)).2.2.1
   ·rw [bL_flatten]
    simp only [uptoBulk]
    have hz : bLL parts <= uptoBulkAll (xs.map (·.1)) := bLL_le parts _ (by rw [List.length_map, hpl, hxl]) fun i p d hi hd => by
     have hlt : i < fs.size := by rw [← hpl]; exact (List.getElem?_eq_some_iff.1 hi).1
     rw [List.getElem?_map, Option.map_eq_some_iff] at hd
     obtain ⟨q, hq, rfl⟩ := hd
     exact (hparts i p hi fs[i] (Array.getElem?_eq_getElem hlt)).2.2.2 q hq
    omega
  ·rename_i k e hu
   simp only [Bool.and_eq_true, decide_eq_true_eq, List.contains_iff_mem] at hok
   obtain ⟨he, hke⟩ := hok
   obtain ⟨xs, m, hm, rfl, hcl, hxl, hf⟩ := DataW.trod_array hu h
   obtain rfl : m = n := by omega
   have key : ∀ i, i < k -> ∃ avs : List AV, Cells (bare W nowhere) avs ((cs.drop (i * P.cellsOf e)).take (P.cellsOf e)) /\ Ty P m e avs /\ plainL avs = true /\ ∀ q, xs[i]? = some q -> bL avs <= uptoBulk q.1 := by
    intro i hi
    have e1 : xs[i]? = some xs[i] := List.getElem?_eq_getElem (by omega)
    obtain ⟨avs, h2, h3, h4, h5⟩ := ih e _ _ he ((hf i hi).trans e1) (Lightly.at_ hu hw (by rw [List.getElem?_map, e1]; rfl))
    exact ⟨avs, h2, h3, h4, fun q hq => by rw [e1] at hq; cases hq; exact h5⟩
   obtain ⟨parts, hpl, hparts⟩ := list_of' k key
   have hall : ∀ p ∈ parts, Ty P m e p /\ plainL p = true := by
    intro p hp
    obtain ⟨i, hi⟩ := List.mem_iff_getElem?.1 hp
    exact ⟨(hparts i p hi).2.1, (hparts i p hi).2.2.1⟩
   refine ⟨parts.flatten, cells_rows _ (P.cellsOf e) parts cs (by rw [hcl, hpl, hke]) (fun i p hi => (hparts i p hi).1), ?_, plainL_flatten fun p hp => (hall p hp).2, ?_⟩
   ·unfold Ty; rw [hu]
    exact ⟨parts, rfl, hpl, fun p hp => (hall p hp).1⟩
   ·rw [bL_flatten]
    simp only [uptoBulk]
    have hz : bLL parts <= uptoBulkAll (xs.map (·.1)) := bLL_le parts _ (by rw [List.length_map, hpl, hxl]) fun i p d hi hd => by
     rw [List.getElem?_map, Option.map_eq_some_iff] at hd
     obtain ⟨q, hq, rfl⟩ := hd
     exact (hparts i p hi).2.2.2 q hq
    omega
  ·cases hok
theorem open_argV_b {ts : List TypeId} (ok : okTypes P ts = true) {t : TypeId} (ht : t ∈ ts) {v : Value} {d : DataW H} {p : List MemPlace} (hval : Value.okWide P W .any b0 t v) (h : DataW.Trod enc P W base spare held t v d p) (hw : Lightly P t d) :
  ∃ n av, Rel (bare W nowhere) av v /\ TyV P n t av /\ plain av = true /\ bA av <= uptoBulk d + 1 := by
 obtain ⟨m, hm⟩ := h
 obtain ⟨avs, hc, hty, hpl, hbk⟩ := open_cells_b ok m t _ _ ht hm hw
 cases m with
 | zero => simp [DataW.trod] at hm
 | succ m =>
  have hok := List.all_eq_true.1 ok t ht
  unfold okT at hok
  unfold TyV
  unfold Value.okWide at hval
  split at hok
  ·rename_i k hu
   rw [hu] at hval
   simp only [Cell.okWide, hu, Cell.ok] at hval
   have h2 := hty; unfold Ty at h2; rw [hu] at h2
   obtain ⟨x, rfl, _⟩ := h2
   refine ⟨m + 1, _, cells_one hc (fun cs he => by subst he; simp at hval), by rw [hu]; exact hty, rfl, by simp only [bL] at hbk; omega⟩
  ·rename_i hu
   rw [hu] at hval
   simp only [Cell.okWide, hu, Cell.ok] at hval
   have h2 := hty; unfold Ty at h2; rw [hu] at h2
   obtain ⟨x, rfl⟩ := h2
   refine ⟨m + 1, _, cells_one hc (fun cs he => by subst he; simp at hval), by rw [hu]; exact hty, rfl, by simp only [bL] at hbk; omega⟩
  ·rename_i hu
   rw [hu] at hval
   simp only [Cell.okWide, hu, Cell.ok] at hval
   have h2 := hty; unfold Ty at h2; rw [hu] at h2
   obtain ⟨x, rfl, _⟩ := h2
   refine ⟨m + 1, _, cells_one hc (fun cs he => by subst he; simp at hval), by rw [hu]; exact hty, rfl, by simp only [bL] at hbk; omega⟩
  ·rename_i e hu
   rw [hu] at hval
   simp only [Cell.okWide, hu, Cell.ok] at hval
   have h2 := hty; unfold Ty at h2; rw [hu] at h2
   obtain ⟨x, rfl, _⟩ := h2
   refine ⟨m + 1, _, cells_one hc (fun cs he => by subst he; simp at hval), by rw [hu]; exact hty, by simpa [plainL] using hpl, by simp only [bL] at hbk; omega⟩
  ·rename_i fs hu
   rw [hu] at hval
   obtain ⟨cs, rfl, _⟩ := hval
   exact ⟨m + 1, .agg avs, cells_agg hc, by rw [hu]; exact ⟨avs, rfl, hty⟩, hpl, by simp only [bA]; have : uptoBulk (d, p).1 = uptoBulk d := rfl; omega⟩
  ·rename_i k e hu
   rw [hu] at hval
   obtain ⟨cs, rfl, _⟩ := hval
   exact ⟨m + 1, .agg avs, cells_agg hc, by rw [hu]; exact ⟨avs, rfl, hty⟩, hpl, by simp only [bA]; have : uptoBulk (d, p).1 = uptoBulk d := rfl; omega⟩
  ·cases hok
end
end
end Go.Proofs.YtdpomombdeccpaaGreatDoor.Lift
