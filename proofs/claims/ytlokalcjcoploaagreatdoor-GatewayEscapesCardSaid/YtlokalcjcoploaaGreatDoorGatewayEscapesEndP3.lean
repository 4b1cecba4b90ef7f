/- Part 4 of the texts that prove GatewayEscapesEnd. -/
import Derived.Test.YtlokalcjcoploaaGreatDoorGatewayEscapesEndP2
import Derived.Test.YtlokalcjcoploaaGreatDoorProg
import Derived.RegionCalls
import Derived.Deep.RegionWith
import Derived.Shelf.Strings.BuilderF
namespace Go.Proofs.YtlokalcjcoploaaGreatDoor.Lift
open Go.RowKit
set_option linter.unusedVariables false
set_option linter.unusedSimpArgs false
set_option linter.unnecessarySimpa false
set_option linter.unusedSectionVars false
set_option maxRecDepth 100000
section
open Go.RowKit Go.ChangeShapes Go.WideShapes Go.ChangeAt
def TyV (P : Program) (n : Nat) (t : TypeId) (av : AV) : Prop :=
 match P.underlying t with
 | some (.struct _) | some (.array _ _) => ∃ avs, av = .agg avs /\ Ty P n t avs
 | _ => Ty P n t [av]
theorem cells_agg {σ : Sg} {avs : List AV} {cs : Array Value} (h : Cells σ avs cs.toList) : Rel σ (.agg avs) (.agg cs) := by
 refine .agg avs cs (by simpa using h.1) (fun i av hi => (h.2 i av hi).1) (fun i => cs.toList[i]?.getD (.bool false)) (fun i av hi => ?_) (fun i av hi => ?_)
 ·obtain ⟨_, x, hx, _⟩ := h.2 i av hi
  rw [hx]; simpa using hx
 ·obtain ⟨_, x, hx, hr⟩ := h.2 i av hi
  rw [hx]; exact hr
theorem cells_one {σ : Sg} {av : AV} {v : Value} (h : Cells σ [av] v.cells.toList) (hv : ∀ cs, v ≠ .agg cs) : Rel σ av v := by
 obtain ⟨_, x, hx, hr⟩ := h.2 0 av rfl
 cases v with
 | agg cs => exact absurd rfl (hv cs)
 | _ => simp [Value.cells] at hx; subst hx; exact hr
section
variable {H : Type} {enc : TypeId × Value -> H} {P : Program} {W : World} {base b0 : Nat} {spare : Nat -> Bool} {held : Bool}
theorem open_argV {ts : List TypeId} (ok : okTypes P ts = true) {t : TypeId} (ht : t ∈ ts) {v : Value} {d : DataW H} {p : List MemPlace} (hval : Value.okWide P W .any b0 t v) (h : DataW.Trod enc P W base spare held t v d p) (hw : Lightly P t d) :
  ∃ n av, Rel (bare W nowhere) av v /\ TyV P n t av /\ plain av = true := by
 obtain ⟨m, hm⟩ := h
 obtain ⟨avs, hc, hty, hpl⟩ := open_cells ok m t _ _ ht hm hw
 cases m with
 | zero => simp [DataW.trod] at hm
 | succ m =>
  have hok := List.all_eq_true.1 ok t ht
  unfold okT at hok
  unfold TyV
  unfold Value.okWide at hval
  split at hok
  ·rename_i k hu
   rw [hu] at hval
   simp only [Cell.okWide, hu, Cell.ok] at hval
   have h2 := hty; unfold Ty at h2; rw [hu] at h2
   obtain ⟨x, rfl, _⟩ := h2
   refine ⟨m + 1, _, cells_one hc (fun cs he => by subst he; simp at hval), by rw [hu]; exact hty, rfl⟩
  ·rename_i hu
   rw [hu] at hval
   simp only [Cell.okWide, hu, Cell.ok] at hval
   have h2 := hty; unfold Ty at h2; rw [hu] at h2
   obtain ⟨x, rfl⟩ := h2
   refine ⟨m + 1, _, cells_one hc (fun cs he => by subst he; simp at hval), by rw [hu]; exact hty, rfl⟩
  ·rename_i hu
   rw [hu] at hval
   simp only [Cell.okWide, hu, Cell.ok] at hval
   have h2 := hty; unfold Ty at h2; rw [hu] at h2
   obtain ⟨x, rfl, _⟩ := h2
   refine ⟨m + 1, _, cells_one hc (fun cs he => by subst he; simp at hval), by rw [hu]; exact hty, rfl⟩
  ·rename_i e hu
   rw [hu] at hval
   simp only [Cell.okWide, hu, Cell.ok] at hval
   have h2 := hty; unfold Ty at h2; rw [hu] at h2
   obtain ⟨x, rfl, _⟩ := h2
   refine ⟨m + 1, _, cells_one hc (fun cs he => by subst he; simp at hval), by rw [hu]; exact hty, by simpa [plainL] using hpl⟩
  ·rename_i fs hu
   rw [hu] at hval
   obtain ⟨cs, rfl, _⟩ := hval
   exact ⟨m + 1, .agg avs, cells_agg hc, by rw [hu]; exact ⟨avs, rfl, hty⟩, hpl⟩
  ·rename_i k e hu
   rw [hu] at hval
   obtain ⟨cs, rfl, _⟩ := hval
   exact ⟨m + 1, .agg avs, cells_agg hc, by rw [hu]; exact ⟨avs, rfl, hty⟩, hpl⟩
  ·cases hok
end
def typesIn (P : Program) (t : TypeId) : List TypeId :=
 match P.underlying t with
 | some (.slice e) => [e]
 | some (.struct fs) => fs.toList.map (·.type)
 | some (.array _ e) => [e]
 | _ => []
def typesAdd : List TypeId -> List TypeId -> List TypeId
 | l, [] => l
 | l, t :: r => typesAdd (if l.contains t then l else l ++ [t]) r
def typesFrom (P : Program) : Nat -> List TypeId -> List TypeId
 | 0, l => l
 | n + 1, l => typesFrom P n (typesAdd l (l.flatMap (typesIn P)))
theorem rels_nil' (σ : Sg) : Rels σ [] [] := ⟨rfl, fun i av h => by simp at h⟩
theorem rels_cons' {σ : Sg} {a : AV} {v : Value} {l : List AV} {xs : List Value} (h : Rel σ a v) (hr : Rels σ l xs) : Rels σ (a :: l) (v :: xs) := by
 refine ⟨by simp [hr.1], fun i av hi => ?_⟩
 cases i with
 | zero => simp at hi; subst hi; exact ⟨v, rfl, h⟩
 | succ i => obtain ⟨x, h1, h2⟩ := hr.2 i av (by simpa using hi); exact ⟨x, by simpa using h1, h2⟩
theorem nz_true {av : AV} (h : nz av = .v (.bool true)) : av = .v (.bool true) := by
 cases av with
 | v x => simpa [nz, nzA, nz1] using h
 | _ => simp [nz, nzA, nz1] at h
end
def GLm (mg : Int) : List (Nat × List AV) := [(2, [.v (.int .i64 mg)]), (1, [.v (.string ⟨#[111, 107]⟩), .v (.string ⟨#[99, 97, 110, 99, 101, 108, 108, 101, 100]⟩), .v (.string ⟨#[105, 110, 118, 97, 108, 105, 100]⟩), .v (.string ⟨#[100, 101, 97, 100, 108, 105, 110, 101]⟩), .v (.string ⟨#[110, 111, 116, 95, 102, 111, 117, 110, 100]⟩), .v (.string ⟨#[101, 120, 105, 115, 116, 115]⟩), .v (.string ⟨#[100, 101, 110, 105, 101, 100]⟩), .v (.string ⟨#[101, 120, 104, 97, 117, 115, 116, 101, 100]⟩), .v (.string ⟨#[102, 97, 105, 108, 101, 100]⟩), .v (.string ⟨#[97, 98, 111, 114, 116, 101, 100]⟩), .v (.string ⟨#[117, 110, 105, 109, 112, 108, 101, 109, 101, 110, 116, 101, 100]⟩), .v (.string ⟨#[105, 110, 116, 101, 114, 110, 97, 108]⟩), .v (.string ⟨#[117, 110, 97, 118, 97, 105, 108, 97, 98, 108, 101]⟩), .v (.string ⟨#[100, 97, 116, 97, 95, 108, 111, 115, 115]⟩)])]
theorem pg {P : Program} {gl : List (Nat × List AV)} {f : FuncId} {a : List AV} {r : AV} (h : PureN P [] f a r) : PureN P gl f a r := ⟨h.1, fun w outer cargs ho _ hr => h.2 w outer cargs ho (fun g cells hg => by cases hg) hr⟩
theorem pgX {P : Program} {f : FuncId} {a : List AV} {α : Type} {e : α -> AV} {W : α -> Prop} (mg : Int) (h : ∃ y, PureN P [] f a (e y) /\ W y) : ∃ y, PureN P (GLm mg) f a (e y) /\ W y := h.imp fun _ h => ⟨pg h.1, h.2⟩
def e3 (r : Bool) : AV := .v (.bool r)
def law55_GatewayEscapes (mg : Int) (s : ByteArray) (r : Bool) : Prop := PureN Tryz.prog (GLm mg) 3 [.v (.string s)] (e3 r)
def e4 (r : Bool) : AV := .v (.bool r)
def e5 (r : Bool) : AV := .v (.bool r)
def e6 (r : Bool) : AV := .v (.bool r)
def law55_awake (mg : Int)  (r : Bool) : Prop := PureN Tryz.prog (GLm mg) 6 [] (e6 r)
def e7 (r : (ByteArray × Int)) : AV := .tuple [.v (.string r.1), .v (.int .i64 r.2)]
def gateway_Unescape (x0 : ByteArray) (r : (ByteArray × Int)) : Prop := PureN Tryz.prog [] 7 [.v (.string x0)] (e7 r)
def e8 (r : (ByteArray × Int)) : AV := .tuple [.v (.string r.1), .v (.int .i64 r.2)]
def ref55_Unescape (s : ByteArray) (r : (ByteArray × Int)) : Prop := PureN Tryz.prog [] 8 [.v (.string s)] (e8 r)
def e9 (r : ByteArray) : AV := .v (.string r)
def gateway_Escape (x0 : ByteArray) (r : ByteArray) : Prop := PureN Tryz.prog [] 9 [.v (.string x0)] (e9 r)
def e10 (r : ByteArray) : AV := .v (.string r)
def ref55_Escape (s : ByteArray) (r : ByteArray) : Prop := PureN Tryz.prog [] 10 [.v (.string s)] (e10 r)
def e24 (r : Int) : AV := .v (.int .i64 r)
def ref55_digit (b : Int) (r : Int) : Prop := PureN Tryz.prog [] 24 [.v (.int .u8 b)] (e24 r)
def e25 (r : Bool) : AV := .v (.bool r)
def gateway_plain (c : Int) (r : Bool) : Prop := PureN Tryz.prog [] 25 [.v (.int .u8 c)] (e25 r)
def e27 (r : Bool) : AV := .v (.bool r)
def ref55_plain (b : Int) (r : Bool) : Prop := PureN Tryz.prog [] 27 [.v (.int .u8 b)] (e27 r)
theorem pl6  : plainL [] = true := rfl
theorem pl7 {x0 : ByteArray} : plainL [.v (.string x0)] = true := (pcons rfl rfl)
theorem pl8 {x0 : ByteArray} : plainL [.v (.string x0)] = true := (pcons rfl rfl)
theorem pl9 {x0 : ByteArray} : plainL [.v (.string x0)] = true := (pcons rfl rfl)
theorem pl10 {x0 : ByteArray} : plainL [.v (.string x0)] = true := (pcons rfl rfl)
theorem pl24 {x0 : Int} : plainL [.v (.int .u8 x0)] = true := (pcons rfl rfl)
theorem pl27 {x0 : Int} : plainL [.v (.int .u8 x0)] = true := (pcons rfl rfl)
section
attribute [local irreducible] Ok run put br jn pos dr0 So
attribute [-simp] List.map_take List.map_drop List.map_append List.map_set List.map_replicate List.map_cons List.map_map
attribute [local simp] plain plainL lowB keepB low lowL lowLL
theorem plr3 (r : Bool) : plain (e3 r) = true := rfl
theorem law55_GatewayEscapes_step (mg : Int) (s : ByteArray) (r : Bool) (hw : ((decide (3000 < (s.size : Int))) = true -> ∃ y1, law55_awake mg y1 /\ (r = y1)) /\ ((decide (3000 < (s.size : Int))) = false -> ∃ y2, gateway_Unescape s y2 /\ (∃ y3, ref55_Unescape s y3 /\ (∃ y4, gateway_Escape s y4 /\ (∃ y5, ref55_Escape s y5 /\ (((((decide (y4 = y5)) && (decide (y2.1 = y3.1))) && (y2.2 == y3.2)) = true -> ∃ y6, law55_awake mg y6 /\ (r = y6)) /\ ((((decide (y4 = y5)) && (decide (y2.1 = y3.1))) && (y2.2 == y3.2)) = false -> r = false))))))) : law55_GatewayEscapes mg s r :=
 fP (KW 13 hw (fun _ hw=>KC 2 hw pl6 fun _ hw=>KR 5 hw plr3) fun _ hw=>KC 5 (pgX mg hw) pl7 fun _ hw=>KC 10 (pgX mg hw) pl8 fun _ hw=>KC 10 (pgX mg hw) pl9 fun _ hw=>KC 1 (pgX mg hw) pl10 fun _ hw=>KT 2 4<|KT 1 4<|KW 1 hw (fun _ hw=>KC 0 hw pl6 fun _ hw=>KR 5 hw plr3) fun _ hw=>KR 6 hw plr3)
theorem plr8 (r : (ByteArray × Int)) : plain (e8 r) = true := (ptup (pcons rfl (pcons rfl rfl)))
def ref55_Unescape_j2 (ij1 : Int) (sj2 : ByteArray) (s : ByteArray) (r : (ByteArray × Int)) : Prop := JP Tryz.prog 8 (e8 r) 4 [(5, aI ij1), (4, aS sj2), (0, aS s)]
theorem ref55_Unescape_j2_step (ij1 : Int) (sj2 : ByteArray) (s : ByteArray) (r : (ByteArray × Int)) (hw : ((decide (ij1 < (s.size : Int))) = true -> (0 <= ij1 /\ ij1 < (s.size : Int)) /\ ((((byteAt s ij1.toNat) != 37) = true -> (0 <= ij1 /\ ij1 <= (wI (ij1 + 1)) /\ (wI (ij1 + 1)) <= (s.size : Int)) /\ (((sj2.size + (s.extract ij1.toNat (wI (ij1 + 1)).toNat).size : Nat) : Int) <= 9223372036854775807 /\ (ref55_Unescape_j2 (wI (ij1 + 1)) (sj2 ++ (s.extract ij1.toNat (wI (ij1 + 1)).toNat)) s r))) /\ (((byteAt s ij1.toNat) != 37) = false -> ∃ R3 : Bool -> Prop, (∀ bz3 : Bool, R3 bz3 -> (∃ R4 : Bool -> Prop, (∀ bz4 : Bool, R4 bz4 -> ((bz4 = true -> r = ((⟨#[]⟩ : ByteArray), 2)) /\ (bz4 = false -> (0 <= (wI (ij1 + 1)) /\ (wI (ij1 + 1)) < (s.size : Int)) /\ (∃ y10, ref55_digit (byteAt s (wI (ij1 + 1)).toNat) y10 /\ ((0 <= (wI (ij1 + 2)) /\ (wI (ij1 + 2)) < (s.size : Int)) /\ (∃ y11, ref55_digit (byteAt s (wI (ij1 + 2)).toNat) y11 /\ (∃ y12, ([(IntKind.u8.wrap (wI ((wI (16 * y10)) + y11)))] : List Int) = bI y12 /\ (((sj2.size + y12.size : Nat) : Int) <= 9223372036854775807 /\ (ref55_Unescape_j2 (wI (ij1 + 3)) (sj2 ++ y12) s r))))))))) /\ ((bz3 = true -> R4 true) /\ (bz3 = false -> (0 <= (wI (ij1 + 2)) /\ (wI (ij1 + 2)) < (s.size : Int)) /\ (∃ y9, ref55_digit (byteAt s (wI (ij1 + 2)).toNat) y9 /\ (R4 (decide (y9 < 0)))))))) /\ (((decide ((s.size : Int) <= (wI (ij1 + 2)))) = true -> R3 true) /\ ((decide ((s.size : Int) <= (wI (ij1 + 2)))) = false -> (0 <= (wI (ij1 + 1)) /\ (wI (ij1 + 1)) < (s.size : Int)) /\ (∃ y8, ref55_digit (byteAt s (wI (ij1 + 1)).toNat) y8 /\ (R3 (decide (y8 < 0))))))))) /\ ((decide (ij1 < (s.size : Int))) = false -> ∃ y7, ref55_Escape sj2 y7 /\ (((!(decide (y7 = s))) = true -> r = ((⟨#[]⟩ : ByteArray), 2)) /\ ((!(decide (y7 = s))) = false -> r = (sj2, 0))))) : ref55_Unescape_j2 ij1 sj2 s r :=
 KW 10 hw (fun _ hw=>KIS 8 hw fun hw=>KW 3 hw (fun _ hw=>KSS 7 hw fun hw=>KCat 0 hw fun hw=>KJ 14 [] hw) fun _ hw=>KQ 11 7 kB hw (fun _ hw=>KQ 1 7 kB hw (fun _ hw=>KW 2 hw (fun _ hw=>KR 12 hw plr8) fun _ hw=>KD 3 []<|KIS 4 hw fun hw=>KC 0 hw pl24 fun _ hw=>KIS 4 hw fun hw=>KC 0 hw pl24 fun _ hw=>KS 3 hw fun _ hw=>KCat 0 hw fun hw=>KJ 11 [] hw) (fun _ key _ hw=>KE 7 key hw) fun _ key _ hw=>KIS 3 hw fun hw=>KC 0 hw pl24 fun _ hw=>KE 2 key hw) (fun _ key _ hw=>KE 7 key hw) fun _ key _ hw=>KIS 3 hw fun hw=>KC 0 hw pl24 fun _ hw=>KE 2 key hw) fun _ hw=>KC 9 hw pl10 fun _ hw=>KW 4 hw (fun _ hw=>KR 8 hw plr8) fun _ hw=>KR 10 hw plr8
theorem ref55_Unescape_step (s : ByteArray) (r : (ByteArray × Int)) (hw : ref55_Unescape_j2 0 (⟨#[]⟩ : ByteArray) s r) : ref55_Unescape s r :=
 fP (KJ 19 [] hw)
theorem plr10 (r : ByteArray) : plain (e10 r) = true := rfl
def ref55_Escape_j2 (ij1 : Int) (sj2 : ByteArray) (s : ByteArray) (r : ByteArray) : Prop := JP Tryz.prog 10 (e10 r) 4 [(4, aI ij1), (3, aS sj2), (0, aS s)]
theorem ref55_Escape_j2_step (ij1 : Int) (sj2 : ByteArray) (s : ByteArray) (r : ByteArray) (hw : ((decide (ij1 < (s.size : Int))) = true -> (0 <= ij1 /\ ij1 < (s.size : Int)) /\ (∃ y2, ref55_plain (byteAt s ij1.toNat) y2 /\ ((y2 = true -> (0 <= ij1 /\ ij1 <= (wI (ij1 + 1)) /\ (wI (ij1 + 1)) <= (s.size : Int)) /\ (((sj2.size + (s.extract ij1.toNat (wI (ij1 + 1)).toNat).size : Nat) : Int) <= 9223372036854775807 /\ (ref55_Escape_j2 (wI (ij1 + 1)) (sj2 ++ (s.extract ij1.toNat (wI (ij1 + 1)).toNat)) s r))) /\ (y2 = false -> ((sj2.size + (⟨#[37]⟩ : ByteArray).size : Nat) : Int) <= 9223372036854775807 /\ ((0 <= (IntKind.u8.wrap ((byteAt s ij1.toNat).tdiv 16)) /\ (IntKind.u8.wrap ((byteAt s ij1.toNat).tdiv 16)) <= (IntKind.u8.wrap ((IntKind.u8.wrap ((byteAt s ij1.toNat).tdiv 16)) + 1)) /\ (IntKind.u8.wrap ((IntKind.u8.wrap ((byteAt s ij1.toNat).tdiv 16)) + 1)) <= ((⟨#[48, 49, 50, 51, 52, 53, 54, 55, 56, 57, 65, 66, 67, 68, 69, 70]⟩ : ByteArray).size : Int)) /\ ((((sj2 ++ (⟨#[37]⟩ : ByteArray)).size + ((⟨#[48, 49, 50, 51, 52, 53, 54, 55, 56, 57, 65, 66, 67, 68, 69, 70]⟩ : ByteArray).extract (IntKind.u8.wrap ((byteAt s ij1.toNat).tdiv 16)).toNat (IntKind.u8.wrap ((IntKind.u8.wrap ((byteAt s ij1.toNat).tdiv 16)) + 1)).toNat).size : Nat) : Int) <= 9223372036854775807 /\ ((0 <= ((byteAt s ij1.toNat).tmod 16) /\ ((byteAt s ij1.toNat).tmod 16) <= (IntKind.u8.wrap (((byteAt s ij1.toNat).tmod 16) + 1)) /\ (IntKind.u8.wrap (((byteAt s ij1.toNat).tmod 16) + 1)) <= ((⟨#[48, 49, 50, 51, 52, 53, 54, 55, 56, 57, 65, 66, 67, 68, 69, 70]⟩ : ByteArray).size : Int)) /\ (((((sj2 ++ (⟨#[37]⟩ : ByteArray)) ++ ((⟨#[48, 49, 50, 51, 52, 53, 54, 55, 56, 57, 65, 66, 67, 68, 69, 70]⟩ : ByteArray).extract (IntKind.u8.wrap ((byteAt s ij1.toNat).tdiv 16)).toNat (IntKind.u8.wrap ((IntKind.u8.wrap ((byteAt s ij1.toNat).tdiv 16)) + 1)).toNat)).size + ((⟨#[48, 49, 50, 51, 52, 53, 54, 55, 56, 57, 65, 66, 67, 68, 69, 70]⟩ : ByteArray).extract ((byteAt s ij1.toNat).tmod 16).toNat (IntKind.u8.wrap (((byteAt s ij1.toNat).tmod 16) + 1)).toNat).size : Nat) : Int) <= 9223372036854775807 /\ (ref55_Escape_j2 (wI (ij1 + 1)) (((sj2 ++ (⟨#[37]⟩ : ByteArray)) ++ ((⟨#[48, 49, 50, 51, 52, 53, 54, 55, 56, 57, 65, 66, 67, 68, 69, 70]⟩ : ByteArray).extract (IntKind.u8.wrap ((byteAt s ij1.toNat).tdiv 16)).toNat (IntKind.u8.wrap ((IntKind.u8.wrap ((byteAt s ij1.toNat).tdiv 16)) + 1)).toNat)) ++ ((⟨#[48, 49, 50, 51, 52, 53, 54, 55, 56, 57, 65, 66, 67, 68, 69, 70]⟩ : ByteArray).extract ((byteAt s ij1.toNat).tmod 16).toNat (IntKind.u8.wrap (((byteAt s ij1.toNat).tmod 16) + 1)).toNat)) s r))))))))) /\ ((decide (ij1 < (s.size : Int))) = false -> r = sj2)) : ref55_Escape_j2 ij1 sj2 s r :=
 KW 10 hw (fun _ hw=>KIS 8 hw fun hw=>KC 6 hw pl27 fun _ hw=>KW 2 hw (fun _ hw=>KSS 6 hw fun hw=>KCat 0 hw fun hw=>KJ 10 [] hw) fun _ hw=>KD 0 []<|KCat 1 hw fun hw=>KSS 5 hw fun hw=>KCat 0 hw fun hw=>KSS 5 hw fun hw=>KCat 0 hw fun hw=>KJ 11 [] hw) fun _ hw=>KR 12 hw plr10
theorem ref55_Escape_step (s : ByteArray) (r : ByteArray) (hw : ref55_Escape_j2 0 (⟨#[]⟩ : ByteArray) s r) : ref55_Escape s r :=
 fP (KJ 18 [] hw)
theorem plr24 (r : Int) : plain (e24 r) = true := rfl
def ref55_digit_j2 (ij1 : Int) (b : Int) (r : Int) : Prop := JP Tryz.prog 24 (e24 r) 3 [(3, aI ij1), (0, aC b)]
theorem ref55_digit_j2_step (ij1 : Int) (b : Int) (r : Int) (hw : ((decide (ij1 < 16)) = true -> (0 <= ij1 /\ ij1 < ((⟨#[48, 49, 50, 51, 52, 53, 54, 55, 56, 57, 65, 66, 67, 68, 69, 70]⟩ : ByteArray).size : Int)) /\ ((((byteAt (⟨#[48, 49, 50, 51, 52, 53, 54, 55, 56, 57, 65, 66, 67, 68, 69, 70]⟩ : ByteArray) ij1.toNat) == b) = true -> r = ij1) /\ (((byteAt (⟨#[48, 49, 50, 51, 52, 53, 54, 55, 56, 57, 65, 66, 67, 68, 69, 70]⟩ : ByteArray) ij1.toNat) == b) = false -> ref55_digit_j2 (wI (ij1 + 1)) b r))) /\ ((decide (ij1 < 16)) = false -> r = (-1))) : ref55_digit_j2 ij1 b r :=
 KW 8 hw (fun _ hw=>KIS 7 hw fun hw=>KW 4 hw (fun _ hw=>KR 12 hw plr24) fun _ hw=>KJ 9 [] hw) fun _ hw=>KR 11 hw plr24
theorem ref55_digit_step (b : Int) (r : Int) (hw : ref55_digit_j2 0 b r) : ref55_digit b r :=
 fP (KJ 13 [] hw)
theorem plr25 (r : Bool) : plain (e25 r) = true := rfl
theorem gateway_plain_step (c : Int) (r : Bool) (hw : r = (((((((decide (97 <= c)) && (decide (c <= 122))) || ((decide (65 <= c)) && (decide (c <= 90)))) || ((decide (48 <= c)) && (decide (c <= 57)))) || (c == 45)) || (c == 95)) || (c == 46))) : gateway_plain c r :=
 fP (KT 10 3<|KT2 1 7 ((decide (97 <= c)) && (decide (c <= 122))) (fun z=>aB (z || ((decide (65 <= c)) && (decide (c <= 90))))) (fun _ key=>KE2 7 key) (fun _ key=>KT 3 3<|KE2 1 key)<|KT2 1 7 (((decide (97 <= c)) && (decide (c <= 122))) || ((decide (65 <= c)) && (decide (c <= 90)))) (fun z=>aB (z || ((decide (48 <= c)) && (decide (c <= 57))))) (fun _ key=>KE2 7 key) (fun _ key=>KT 3 3<|KE2 1 key)<|KT 1 3<|KT 1 3<|KT 1 3<|KR 4 hw plr25)
theorem plr27 (r : Bool) : plain (e27 r) = true := rfl
theorem ref55_plain_step (b : Int) (r : Bool) (hw : r = (((((((decide (97 <= b)) && (decide (b <= 122))) || ((decide (65 <= b)) && (decide (b <= 90)))) || ((decide (48 <= b)) && (decide (b <= 57)))) || (b == 45)) || (b == 95)) || (b == 46))) : ref55_plain b r :=
 fP (KT 10 3<|KT2 1 7 ((decide (97 <= b)) && (decide (b <= 122))) (fun z=>aB (z || ((decide (65 <= b)) && (decide (b <= 90))))) (fun _ key=>KE2 7 key) (fun _ key=>KT 3 3<|KE2 1 key)<|KT2 1 7 (((decide (97 <= b)) && (decide (b <= 122))) || ((decide (65 <= b)) && (decide (b <= 90)))) (fun z=>aB (z || ((decide (48 <= b)) && (decide (b <= 57))))) (fun _ key=>KE2 7 key) (fun _ key=>KT 3 3<|KE2 1 key)<|KT 1 3<|KT 1 3<|KT 1 3<|KR 4 hw plr27)
end
theorem wrapI {n : Int} (h : -9223372036854775808 <= n /\ n <= 9223372036854775807) : IntKind.i64.wrap n = n := by simp [IntKind.wrap, IntKind.signed, IntKind.bits]; omega
section
theorem nz_v {av : AV} {x : Value} (h : nz av = .v x) (hx : ∀ n, x ≠ .slice none n n := by intro n h; cases h) : av = .v x := by
 cases av with
 | v y => simpa [nz, nzA, nz1] using h
 | _ => simp [nz, nzA, nz1] at h
theorem calls_v {P : Program} {f : FuncId} {args : List AV} {cargs : Array Value} {W : World} {x : Value} (hf : PureN P [] f args (.v x)) (hr : Rels (bare W nowhere) args cargs.toList) (hx : ∀ n, x ≠ .slice none n n := by intro n h; cases h) :
  Calls P f cargs W fun e W' => e = .returned x /\ Below W.heap.size W W' := by
 refine (hf.2 W nowhere cargs (fun b o h => h.elim) (fun g cells h => by cases h) hr).mono fun e W' ⟨av, y, he, hp, hrel, hav⟩ => ?_
 rw [nz_v hav hx] at hrel
 cases hrel with
 | v _ _ => exact ⟨he, hp.below⟩
open Lift
def plainI (c : Int) : Bool := ((((((decide (97 <= c)) && (decide (c <= 122))) || ((decide (65 <= c)) && (decide (c <= 90)))) || ((decide (48 <= c)) && (decide (c <= 57)))) || (c == 45)) || (c == 95)) || (c == 46)
theorem plain_is (c : Int) : gateway_plain c (plainI c) := gateway_plain_step _ _ rfl
theorem plain_c (c : Int) (w : World) : Calls Tryz.prog 25 #[.int .u8 c] w fun e w' => e = .returned (.bool (plainI c)) /\ Below w.heap.size w w' :=
 calls_v (plain_is c) (rels_cons' (.v _ rfl) (rels_nil' _)) 
def plainU (c : UInt8) : Bool := plainI (c.toNat : Int)
def hexU (n : Nat) : UInt8 := if n < 10 then UInt8.ofNat (48 + n) else UInt8.ofNat (55 + n)
def escU (c : UInt8) : List UInt8 := if plainU c = true then [c] else [37, hexU (c.toNat / 16), hexU (c.toNat % 16)]
def escL (l : List UInt8) : List UInt8 := l.flatMap escU
theorem escL_cons (c : UInt8) (l : List UInt8) : escL (c :: l) = escU c ++ escL l := rfl
theorem drop_at' (s : ByteArray) (p : Nat) (h : p < s.size) : s.data.toList.drop p = s[p] :: s.data.toList.drop (p + 1) := by
 have h' : p < s.data.toList.length := by simpa using h
 rw [List.drop_eq_getElem_cons h']
 rfl
theorem isB_keep {T e : TypeId} {B b : Nat} {bs : List Value} {w w' : World} (h : Lib.IsBuilder T e B b bs w) (hb : Below w.heap.size w w') : Lib.IsBuilder T e B b bs w' := by
 have one : ∀ p, Lib.BuilderAt T e B b p bs w -> Lib.BuilderAt T e B b p bs w' := by
  rintro p ⟨h1, v, h2, h3, h4⟩
  have hlt : b < w.heap.size := by
   rcases Nat.lt_or_ge b w.heap.size with h' | h'
   ·exact h'
   ·simp [Array.getElem?_eq_none h'] at h2
  refine ⟨h1, v, (hb.block b hlt).trans h2, ⟨h3.1, ?_⟩, h4⟩
  rcases h3.2 with h | ⟨g, cap, cur, k1, k2, k3, k4⟩
  ·exact .inl h
  ·refine .inr ⟨g, cap, cur, k1, k2, (hb.block g ?_).trans k3, k4⟩
   rcases Nat.lt_or_ge g w.heap.size with h' | h'
   ·exact h'
   ·simp [Array.getElem?_eq_none h'] at k3
 rcases h with h | h
 ·exact .inl (one _ h)
 ·exact .inr (one _ h)
set_option maxRecDepth 100000 in
theorem run_dig (a : Nat) (h : a < 16) (w : World) : Sem.run Tryz.prog (Instr.slice 9 (.string ⟨#[48, 49, 50, 51, 52, 53, 54, 55, 56, 57, 65, 66, 67, 68, 69, 70]⟩) (some (.int .u8 (a : Int))) (some (.int .u8 ((a : Int) + 1))) none) w = .ok (.string ⟨#[hexU a]⟩) w := by
 have : a = 0 ∨ a = 1 ∨ a = 2 ∨ a = 3 ∨ a = 4 ∨ a = 5 ∨ a = 6 ∨ a = 7 ∨ a = 8 ∨ a = 9 ∨ a = 10 ∨ a = 11 ∨ a = 12 ∨ a = 13 ∨ a = 14 ∨ a = 15 := by omega
 rcases this with rfl | rfl | rfl | rfl | rfl | rfl | rfl | rfl | rfl | rfl | rfl | rfl | rfl | rfl | rfl | rfl
 all_goals rfl
theorem bits15 (c : UInt8) : bits .and .u8 (c.toNat : Int) 15 = ((c.toNat % 16 : Nat) : Int) := by
 have : ∀ c : Fin 256, bits .and .u8 ((c.val : Nat) : Int) 15 = ((c.val % 16 : Nat) : Int) := by decide +kernel
 exact this ⟨c.toNat, c.toNat_lt⟩
theorem wrap16 (a : Nat) (h : a < 16) : IntKind.u8.wrap ((a : Int) + 1) = (a : Int) + 1 := by simp [IntKind.wrap, IntKind.signed, IntKind.bits]; omega
theorem isB_drew {T e : TypeId} {B b : Nat} {bs : List Value} {w : World} (h : Lib.IsBuilder T e B b bs w) : Lib.IsBuilder T e B b bs w.drew := h
theorem three (a b : UInt8) : Lib.strCells ((⟨#[37]⟩ : ByteArray) ++ ⟨#[a]⟩ ++ ⟨#[b]⟩) = Lib.byteCells [37, a, b] := by
 rw [Lib.strCells_eq]; rfl
theorem three_size (a b : UInt8) : ((⟨#[37]⟩ : ByteArray) ++ ⟨#[a]⟩ ++ ⟨#[b]⟩).size = 3 := by simp [ByteArray.size_append]; rfl
theorem hidE {p : Prop} (h : p) : Hid p := h
set_option maxHeartbeats 4000000 in
set_option maxRecDepth 100000 in
theorem esc_c (s : ByteArray) (hs : s.size <= 1048576) (w : World) :
  Calls Tryz.prog 9 #[.string s] w fun e w' => e = .returned (.string ⟨(escL s.data.toList).toArray⟩) /\ Below w.heap.size w w' := by
 obtain ⟨R, HR⟩ : ∃ R, Hid (R = escL s.data.toList) := ⟨_, hidE rfl⟩
 rw [← HR.out]
 go_enter Tryz.func9, Tryz.ntmps9
 go_wp2_with fail
 go_loopg [8] (s.size) (fun g s8 wx => ∃ (p : Nat) (acc : List UInt8), s8 = .int .i64 p /\ p + g = s.size /\ Hid (Lib.IsBuilder 72 5 w.heap.size w.heap.size (Lib.byteCells acc) wx) /\ Hid (Below w.heap.size w wx) /\ Hid (R = acc ++ escL (s.data.toList.drop p)) /\ acc.length <= 3 * p)
 case atStart => exact ⟨0, [], rfl, by omega, hidE (Lib.fresh_isBuilder _ _ _), hidE ((Below.refl w.heap.size w).alloc (Nat.le_refl _) _), hidE (by rw [HR.out]; simp), by simp⟩
 case round =>
  obtain ⟨p, acc, rfl, hpg, HB, HW, HR2, hacc⟩ := hrel
  have hBw : w.heap.size <= wr.heap.size := HW.out.size
  cases gk with
  | zero =>
   have hlt : ¬ (p : Int) < (s.size : Int) := by omega
   go_wp2_with (go_at_call 23; refine (Tryz.Builder_String_any w.heap.size w.heap.size acc _ HB.out hBw).mono ?_)
   rintro e w5 rfl hb5
   have Hb5 := hidE (HW.out.trans hb5)
   have HA : Hid (R = acc) := hidE (by rw [HR2.out, List.drop_eq_nil_of_le (by simp; show s.size <= p; omega)]; simp [escL])
   clear hb5
   go_wp2
   go_ret
   exact ⟨by rw [HA.out]; rfl, Hb5.out⟩
  | succ g =>
   have i0 : (0 : Int) <= (p : Int) := by omega
   have hlt : (p : Int) < (s.size : Int) := by omega
   have hp : p < s.size := by omega
   have HN : Hid (R = acc ++ escU s[p] ++ escL (s.data.toList.drop (p + 1))) := hidE (by rw [HR2.out, drop_at' s p hp, escL_cons, List.append_assoc])
   by_cases hpl : plainU s[p] = true
   ·have HE : Hid (R = acc ++ [s[p]] ++ escL (s.data.toList.drop (p + 1))) := hidE (by rw [HN.out, escU, if_pos hpl])
    have HPC : ∀ w, Calls Tryz.prog 25 #[.int .u8 (s[p].toNat : Int)] w fun e w' => e = .returned (.bool true) /\ Below w.heap.size w w' := fun w => by
     have := plain_c (s[p].toNat : Int) w
     rw [show plainI (s[p].toNat : Int) = true from hpl] at this
     exact this
    clear hpl
    go_wp2_with (go_at_call 25; refine (HPC _).mono ?_)
    rintro e w1 ⟨rfl, hb1⟩
    have HB1 := hidE (isB_keep HB.out hb1)
    have HW1 := hidE (HW.out.trans (hb1.mono hBw))
    have hBw1 : w.heap.size <= w1.heap.size := HW1.out.size
    clear hb1
    go_wp2_with (go_at_call 21; refine (bwb w.heap.size w.heap.size _ _ _ HB1.out (by rw [Lib.byteCells_length]; omega) hBw1).mono ?_)
    rintro e w2 ⟨rfl, h2, hb2⟩
    have HB2 : Hid (Lib.IsBuilder 72 5 w.heap.size w.heap.size (Lib.byteCells (acc ++ [s[p]])) w2) := hidE (.inr (by rw [Lib.byteCells_append]; exact h2))
    have HW2 := hidE (HW1.out.trans hb2)
    clear h2 hb2
    go_wp2
    go_roundg g
    case measure => omega
    case rel => exact ⟨p + 1, acc ++ [s[p]], by go_num, by omega, HB2, HW2, HE, by simp; omega⟩
   ·have hpl' : plainU s[p] = false := by simpa using hpl
    have HPC : ∀ w, Calls Tryz.prog 25 #[.int .u8 (s[p].toNat : Int)] w fun e w' => e = .returned (.bool false) /\ Below w.heap.size w w' := fun w => by
     have := plain_c (s[p].toNat : Int) w
     rw [show plainI (s[p].toNat : Int) = false from hpl'] at this
     exact this
    have HE : Hid (R = acc ++ [37, hexU (s[p].toNat / 16), hexU (s[p].toNat % 16)] ++ escL (s.data.toList.drop (p + 1))) := hidE (by rw [HN.out, escU, if_neg hpl])
    have q0 : (s[p].toNat : Int) / 16 = ((s[p].toNat / 16 : Nat) : Int) := by omega
    have hc := s[p].toNat_lt
    have q1 : IntKind.u8.wrap ((s[p].toNat : Int) / 16 + 1) = ((s[p].toNat / 16 : Nat) : Int) + 1 := by rw [q0]; exact wrap16 _ (by omega)
    have q2 := bits15 s[p]
    have q3 : IntKind.u8.wrap (bits .and .u8 (s[p].toNat : Int) 15 + 1) = ((s[p].toNat % 16 : Nat) : Int) + 1 := by rw [q2]; exact wrap16 _ (by omega)
    have r1 : ∀ w : World, Sem.run Tryz.prog (Instr.slice 9 (.string ⟨#[48, 49, 50, 51, 52, 53, 54, 55, 56, 57, 65, 66, 67, 68, 69, 70]⟩) (some (.int .u8 ((s[p].toNat : Int) / 16))) (some (.int .u8 (IntKind.u8.wrap ((s[p].toNat : Int) / 16 + 1)))) none) w = .ok (.string ⟨#[hexU (s[p].toNat / 16)]⟩) w := fun w => by rw [q1, q0]; exact run_dig _ (by omega) w
    have r2 : ∀ w : World, Sem.run Tryz.prog (Instr.slice 9 (.string ⟨#[48, 49, 50, 51, 52, 53, 54, 55, 56, 57, 65, 66, 67, 68, 69, 70]⟩) (some (.int .u8 (bits .and .u8 (s[p].toNat : Int) 15))) (some (.int .u8 (IntKind.u8.wrap (bits .and .u8 (s[p].toNat : Int) 15 + 1)))) none) w = .ok (.string ⟨#[hexU (s[p].toNat % 16)]⟩) w := fun w => by rw [q3, q2]; exact run_dig _ (by omega) w
    clear hpl hpl' q0 q1 q2 q3 hc
    go_wp2_with (go_at_call 25; refine (HPC _).mono ?_)
    rintro e w1 ⟨rfl, hb1⟩
    have HB1 := hidE (isB_keep HB.out hb1)
    have HW1 := hidE (HW.out.trans (hb1.mono hBw))
    have hBw1 : w.heap.size <= w1.heap.size := HW1.out.size
    clear hb1
    go_wp2
    go_region_with (go_at_call 26; refine (bws w.heap.size w.heap.size _ _ _ (isB_drew HB1.out) (by rw [Lib.byteCells_length, three_size]; omega) hBw1).mono ?_; rintro e w2 ⟨rfl, h2, hb2⟩)
    have HB2 : Hid (Lib.IsBuilder 72 5 w.heap.size w.heap.size (Lib.byteCells (acc ++ [37, hexU (s[p].toNat / 16), hexU (s[p].toNat % 16)])) w2) := hidE (.inr (by rw [Lib.byteCells_append]; rw [three] at h2; exact h2))
    have HW2 := hidE ((Below.drew HW1.out).trans hb2)
    clear h2 hb2
    go_wp2
    go_roundg g
    case measure => omega
    case rel => exact ⟨p + 1, _, by go_num, by omega, HB2, HW2, HE, by simp; omega⟩
end
section
open Go.RowKit Lift
def digI (c : UInt8) : Int := if 48 <= c /\ c <= 57 then (c.toNat : Int) - 48 else if 65 <= c /\ c <= 70 then (c.toNat : Int) - 55 else -1
def unraw : List UInt8 -> List UInt8 -> Option (List UInt8)
 | [], acc => some acc
 | c :: r, acc => if c ≠ 37 then unraw r (acc ++ [c]) else match r with
  | a :: b :: r' => if 0 <= digI a /\ 0 <= digI b then unraw r' (acc ++ [UInt8.ofNat (16 * (digI a).toNat + (digI b).toNat)]) else none
  | _ => none
 termination_by l => l.length
def unescL (l : List UInt8) : List UInt8 × Int := match unraw l [] with
 | some t => if escL t = l then (t, 0) else ([], 2)
 | none => ([], 2)
theorem dig_index (c : UInt8) : Lib.indexByte (⟨#[48, 49, 50, 51, 52, 53, 54, 55, 56, 57, 65, 66, 67, 68, 69, 70]⟩ : ByteArray).data.toList ((c.toNat : Int).toNat.toUInt8) = digI c := by
 have : ∀ c : Fin 256, Lib.indexByte (⟨#[48, 49, 50, 51, 52, 53, 54, 55, 56, 57, 65, 66, 67, 68, 69, 70]⟩ : ByteArray).data.toList (((c.val : Nat) : Int).toNat.toUInt8) = digI (UInt8.ofNat c.val) := by decide +kernel
 have h := this ⟨c.toNat, c.toNat_lt⟩
 simpa using h
theorem dig_lt (c : UInt8) (h : 0 <= digI c) : (digI c).toNat < 16 := by
 have : ∀ c : Fin 256, 0 <= digI (UInt8.ofNat c.val) -> (digI (UInt8.ofNat c.val)).toNat < 16 := by decide +kernel
 have h1 := this ⟨c.toNat, c.toNat_lt⟩
 simp only [UInt8.ofNat_toNat] at h1
 exact h1 h
theorem dig_neg (c : UInt8) (h : ¬ 0 <= digI c) : digI c = -1 := by
 have : ∀ c : Fin 256, ¬ 0 <= digI (UInt8.ofNat c.val) -> digI (UInt8.ofNat c.val) = -1 := by decide +kernel
 have h1 := this ⟨c.toNat, c.toNat_lt⟩
 simp only [UInt8.ofNat_toNat] at h1
 exact h1 h
theorem or_dig (x y : Nat) (hx : x < 16) (hy : y < 16) : bits .or .i64 ((x : Int) * 16) (y : Int) % 256 = (((UInt8.ofNat (16 * x + y)).toNat : Nat) : Int) := by
 have : ∀ x y : Fin 16, bits .or .i64 (((x.val : Nat) : Int) * 16) ((y.val : Nat) : Int) % 256 = (((UInt8.ofNat (16 * x.val + y.val)).toNat : Nat) : Int) := by decide +kernel
 exact this ⟨x, hx⟩ ⟨y, hy⟩
theorem index_c (c : UInt8) (w : World) : Calls Tryz.prog 22 #[.string ⟨#[48, 49, 50, 51, 52, 53, 54, 55, 56, 57, 65, 66, 67, 68, 69, 70]⟩, .int .u8 (c.toNat : Int)] w fun e w' => e = .returned (.int .i64 (digI c)) /\ w' = w := by
 have h := Tryz.strings_IndexByte ⟨#[48, 49, 50, 51, 52, 53, 54, 55, 56, 57, 65, 66, 67, 68, 69, 70]⟩ (c.toNat : Int) w
 rw [dig_index] at h
 exact h
theorem isBF_keep {T e : TypeId} {B b : Nat} {bs : List Value} {w w' : World} (h : Lib.IsBuilderF T e B b bs w) (hb : Below w.heap.size w w') : Lib.IsBuilderF T e B b bs w' := by
 have one : ∀ p, Lib.BuilderAtF T e B b p bs w -> Lib.BuilderAtF T e B b p bs w' := by
  rintro p ⟨h1, v, h2, h3, h4⟩
  have hlt : b < w.heap.size := by
   rcases Nat.lt_or_ge b w.heap.size with h' | h'
   ·exact h'
   ·simp [Array.getElem?_eq_none h'] at h2
  refine ⟨h1, v, (hb.block b hlt).trans h2, ⟨h3.1, ?_⟩, h4⟩
  rcases h3.2 with h | ⟨g, cap, cur, fz, k1, k2, k3, k4⟩
  ·exact .inl h
  ·refine .inr ⟨g, cap, cur, fz, k1, k2, (hb.block g ?_).trans k3, k4⟩
   rcases Nat.lt_or_ge g w.heap.size with h' | h'
   ·exact h'
   ·simp [Array.getElem?_eq_none h'] at k3
 rcases h with h | h
 ·exact .inl (one _ h)
 ·exact .inr (one _ h)
theorem bstr (B b : Nat) (l : List UInt8) (w : World) (h : Lib.IsBuilderF 72 5 B b (Lib.byteCells l) w) (hBw : B <= w.heap.size) :
  Calls Tryz.prog 23 #[.pointer (some ⟨b, 0, none⟩)] w fun e w' => e = .returned (.string ⟨l.toArray⟩) /\ (Lib.IsBuilderF 72 5 B b (Lib.byteCells l) w' /\ Below B w w') := Any.Builder_String_any_f Tryz.lays169 Tryz.Builder_Extra_169 B b l w h hBw
theorem ret2 {a b : ByteArray} {x y : Int} (h1 : a = b) (h2 : x = y) : Ending.returned (.tuple #[.string a, .int .i64 x]) = .returned (.tuple #[.string b, .int .i64 y]) := by rw [h1, h2]
set_option maxHeartbeats 4000000 in
set_option maxRecDepth 100000 in
theorem unesc_c (s : ByteArray) (hs : s.size <= 1048576) (w : World) :
  Calls Tryz.prog 7 #[.string s] w fun e w' => e = .returned (.tuple #[.string ⟨(unescL s.data.toList).1.toArray⟩, .int .i64 (unescL s.data.toList).2]) /\ Below w.heap.size w w' := by
 obtain ⟨R, HR⟩ : ∃ R, Hid (R = unescL s.data.toList) := ⟨_, hidE rfl⟩
 rw [← HR.out]
 go_enter Tryz.func7, Tryz.ntmps7
 go_wp2_with fail
 go_loopg [5] (s.size) (fun g s5 wx => ∃ (p : Nat) (acc : List UInt8), s5 = .int .i64 p /\ p + g = s.size /\ Hid (Lib.IsBuilder 72 5 w.heap.size w.heap.size (Lib.byteCells acc) wx) /\ Hid (Below w.heap.size w wx) /\ Hid (unraw s.data.toList [] = unraw (s.data.toList.drop p) acc) /\ acc.length <= p)
 case atStart => exact ⟨0, [], rfl, by omega, hidE (Lib.fresh_isBuilder _ _ _), hidE ((Below.refl w.heap.size w).alloc (Nat.le_refl _) _), hidE (by simp), by simp⟩
 case round =>
  obtain ⟨p, acc, rfl, hpg, HB, HW, HR2, hacc⟩ := hrel
  have hBw : w.heap.size <= wr.heap.size := HW.out.size
  have i0 : (0 : Int) <= (p : Int) := by omega
  cases gk with
  | zero =>
   have hlt : ¬ (p : Int) < (s.size : Int) := by omega
   have HA : Hid (R = if escL acc = s.data.toList then (acc, 0) else ([], 2)) := hidE (by
    have e : unraw s.data.toList [] = some acc := by rw [HR2.out, List.drop_eq_nil_of_le (by simp; show s.size <= p; omega)]; simp [unraw]
    rw [HR.out, unescL, e])
   have hal : acc.length <= 1048576 := by omega
   go_wp2_with (go_at_call 23; refine (bstr w.heap.size w.heap.size acc _ (.of HB.out) hBw).mono ?_)
   rintro e w3 rfl hf3 hb3
   have HF3 := hidE hf3
   have HW3 := hidE (HW.out.trans hb3)
   have hBw3 : w.heap.size <= w3.heap.size := HW3.out.size
   have hsz : (⟨acc.toArray⟩ : ByteArray).size <= 1048576 := by show acc.toArray.size <= _; simpa using hal
   clear hf3 hb3
   go_wp2_with (go_at_call 9; refine (esc_c ⟨acc.toArray⟩ hsz _).mono ?_)
   rintro e w4 rfl hb4
   have HF4 := hidE (isBF_keep HF3.out hb4)
   have HW4 := hidE (HW3.out.trans (hb4.mono hBw3))
   have hBw4 : w.heap.size <= w4.heap.size := HW4.out.size
   clear hb4
   by_cases hq : escL acc = s.data.toList
   ·have HN : Hid (R = (acc, 0)) := hidE (by rw [HA.out, if_pos hq])
    have hE : (escL acc == s.toList) = true := by rw [hq, Lib.toList_data]; simp
    go_wp2_with (go_at_call 23; refine (bstr w.heap.size w.heap.size acc _ HF4.out hBw4).mono ?_)
    first | rintro e w5 rfl hf5 hb5 | rintro e w5 ⟨rfl, hf5, hb5⟩
    have HW5 := hidE (HW4.out.trans hb5)
    clear hf5 hb5
    go_wp2_with fail
    go_ret2
    exact ⟨ret2 (by rw [HN.out]) (by rw [HN.out]), HW5.out⟩
   ·have HN : Hid (R = ([], 2)) := hidE (by rw [HA.out, if_neg hq])
    have hE : (escL acc == s.toList) = false := by rw [Lib.toList_data]; simpa using hq
    go_wp2_with fail
    go_ret2
    exact ⟨ret2 (by rw [HN.out]) (by rw [HN.out]), HW4.out⟩
  | succ g =>
   have hlt : (p : Int) < (s.size : Int) := by omega
   have hp : p < s.size := by omega
   by_cases hb : s[p] = 37
   ·have hbq : ((s[p].toNat : Int) != 37) = false := by rw [hb]; rfl
    have HB0 := hidE hb
    clear hb
    by_cases h2 : p + 2 < s.size
    ·have j0 : (0 : Int) <= (p : Int) + 1 := by omega
     have j1 : (p : Int) + 1 < (s.size : Int) := by omega
     have j2 : (0 : Int) <= (p : Int) + 2 := by omega
     have j3 : (p : Int) + 2 < (s.size : Int) := by omega
     have hp1 : p + 1 < s.size := by omega
     have jg : decide ((s.size : Int) <= (p : Int) + 2) = false := decide_eq_false (by omega)
     have HX : ∀ (c : UInt8) w, Calls Tryz.prog 22 #[.string ⟨#[48, 49, 50, 51, 52, 53, 54, 55, 56, 57, 65, 66, 67, 68, 69, 70]⟩, .int .u8 (c.toNat : Int)] w fun e w' => e = .returned (.int .i64 (digI c)) /\ w' = w := index_c
     obtain ⟨x, hxx⟩ : ∃ x : Int, digI s[p + 1] = x := ⟨_, rfl⟩
     obtain ⟨y, hyy⟩ : ∃ y : Int, digI s[p + 2] = y := ⟨_, rfl⟩
     have HX1 : ∀ w, Calls Tryz.prog 22 #[.string ⟨#[48, 49, 50, 51, 52, 53, 54, 55, 56, 57, 65, 66, 67, 68, 69, 70]⟩, .int .u8 (s[p + 1].toNat : Int)] w fun e w' => e = .returned (.int .i64 x) /\ w' = w := fun w => by rw [← hxx]; exact HX _ w
     have HX2 : ∀ w, Calls Tryz.prog 22 #[.string ⟨#[48, 49, 50, 51, 52, 53, 54, 55, 56, 57, 65, 66, 67, 68, 69, 70]⟩, .int .u8 (s[p + 2].toNat : Int)] w fun e w' => e = .returned (.int .i64 y) /\ w' = w := fun w => by rw [← hyy]; exact HX _ w
     have HS : Hid (unraw s.data.toList [] = if 0 <= x /\ 0 <= y then unraw (s.data.toList.drop (p + 3)) (acc ++ [UInt8.ofNat (16 * x.toNat + y.toNat)]) else none) := hidE (by
      rw [HR2.out, drop_at' s p hp, drop_at' s (p + 1) hp1, drop_at' s (p + 2) h2, unraw.eq_def]
      simp only [HB0.out, ne_eq, not_true_eq_false, if_false, hxx, hyy])
     have HD : Hid ((0 <= x -> x.toNat < 16) /\ (0 <= y -> y.toNat < 16)) := hidE ⟨by rw [← hxx]; exact dig_lt _, by rw [← hyy]; exact dig_lt _⟩
     have HM : Hid ((¬ 0 <= x -> x = -1) /\ (¬ 0 <= y -> y = -1)) := hidE ⟨by rw [← hxx]; exact dig_neg _, by rw [← hyy]; exact dig_neg _⟩
     clear hxx hyy HX
     have v1 : IntKind.i64.wrap ((p : Int) + 1) = (p : Int) + 1 := wrapI (by omega)
     have v2 : IntKind.i64.wrap ((p : Int) + 2) = (p : Int) + 2 := wrapI (by omega)
     go_wp2_with fail
     go_region_with ((go_at_call 22; first | (refine (HX1 _).mono ?_; rintro e w' ⟨rfl, rfl⟩) | (refine (HX2 _).mono ?_; rintro e w' ⟨rfl, rfl⟩)))
     all_goals (
      clear HX1 HX2
      by_cases hx : 0 <= x
      ·by_cases hy : 0 <= y
       ·have hx16 := HD.out.1 hx
        have hy16 := HD.out.2 hy
        have HN : Hid (unraw s.data.toList [] = unraw (s.data.toList.drop (p + 3)) (acc ++ [UInt8.ofNat (16 * x.toNat + y.toNat)])) := hidE (by rw [HS.out, if_pos ⟨hx, hy⟩])
        clear HS HD HM
        obtain ⟨x, rfl⟩ := Int.eq_ofNat_of_zero_le hx
        obtain ⟨y, rfl⟩ := Int.eq_ofNat_of_zero_le hy
        simp only [Int.toNat_natCast] at HN hx16 hy16
        have n1 : ¬ ((x : Int) < 0) := by omega
        have n2 : ¬ ((y : Int) < 0) := by omega
        clear hx hy
        go_wp2_with (go_at_call 21; refine (bwb w.heap.size w.heap.size _ _ _ (isB_drew HB.out) (by rw [Lib.byteCells_length]; omega) hBw).mono ?_)
        first | rintro e w2 rfl h3 hb2 | rintro e w2 ⟨rfl, h3, hb2⟩
        have HB2 : Hid (Lib.IsBuilder 72 5 w.heap.size w.heap.size (Lib.byteCells (acc ++ [UInt8.ofNat (16 * x + y)])) w2) := hidE (.inr (by rw [Lib.byteCells_append]; rw [or_dig x y hx16 hy16] at h3; exact h3))
        have HW2 := hidE ((Below.drew HW.out).trans hb2)
        clear h3 hb2
        go_wp2_with fail
        go_roundg (g - 2)
        case measure => omega
        case rel => exact ⟨p + 3, _, by go_num, by omega, HB2, HW2, HN, by simp; omega⟩
       ·have hm := HM.out.2 (by omega)
        have HN : Hid (R = ([], 2)) := hidE (by rw [HR.out, unescL, HS.out, if_neg (fun h => hy h.2)])
        clear HS HD HM hy
        subst hm
        have n1 : ¬ (x < 0) := by omega
        go_wp2_with fail
        go_ret2
        exact ⟨ret2 (by rw [HN.out]) (by rw [HN.out]), Below.drew HW.out⟩
      ·have hm := HM.out.1 (by omega)
       have HN : Hid (R = ([], 2)) := hidE (by rw [HR.out, unescL, HS.out, if_neg (fun h => hx h.1)])
       clear HS HD HM hx
       subst hm
       go_wp2_with fail
       go_ret2
       exact ⟨ret2 (by rw [HN.out]) (by rw [HN.out]), Below.drew HW.out⟩)
    ·have HN : Hid (R = ([], 2)) := hidE (by
      have e : unraw s.data.toList [] = none := by
       rw [HR2.out, drop_at' s p hp, unraw.eq_def]
       simp only [HB0.out, ne_eq, not_true_eq_false, if_false]
       split
       ·rename_i a b r' he
        exfalso
        have := congrArg List.length he
        simp at this
        have h3 : s.data.size = s.size := rfl
        omega
       ·rfl
      rw [HR.out, unescL, e])
     have jg : decide ((s.size : Int) <= (p : Int) + 2) = true := decide_eq_true (by omega)
     have jh : (s.size : Int) <= (p : Int) + 2 := by omega
     go_wp2_with fail
     go_ret2
     exact ⟨ret2 (by rw [HN.out]) (by rw [HN.out]), HW.out⟩
   ·have HN : Hid (unraw s.data.toList [] = unraw (s.data.toList.drop (p + 1)) (acc ++ [s[p]])) := hidE (by rw [HR2.out, drop_at' s p hp, unraw.eq_def]; simp only [ne_eq, hb, not_false_eq_true, if_true])
    have hbn : ¬ (s[p].toNat : Int) = 37 := fun h => hb (UInt8.toNat_inj.1 (by have : ((37 : UInt8).toNat) = 37 := rfl; omega))
    have hbq : ((s[p].toNat : Int) != 37) = true := by rw [bne_iff_ne]; exact hbn
    clear hb hbn
    go_wp2_with (go_at_call 21; refine (bwb w.heap.size w.heap.size _ _ _ HB.out (by rw [Lib.byteCells_length]; omega) hBw).mono ?_)
    rintro e w2 ⟨rfl, h2, hb2⟩
    have HB2 : Hid (Lib.IsBuilder 72 5 w.heap.size w.heap.size (Lib.byteCells (acc ++ [s[p]])) w2) := hidE (.inr (by rw [Lib.byteCells_append]; exact h2))
    have HW2 := hidE (HW.out.trans hb2)
    clear h2 hb2
    go_wp2
    go_roundg g
    case measure => omega
    case rel => exact ⟨p + 1, acc ++ [s[p]], by go_num, by omega, HB2, HW2, HN, by simp; omega⟩
end
def r6_0 : LO := [o 0 (mb false)]
def r6_1 : LO := [o 19 (.call (cf 15) []), o 18 (mv 19), o 20 (.extract 0 (T 18)), o 21 (.extract 1 (T 18)), o 1 (.alloc [.nil, .nil, .nil]), o 2 (.alloc [aE, aE, aE, aE, aE]), on (st 3 1 20), on (st 5 2 21)]
def r6_2 : LO := [o 22 (.build [aE, aE] [((0, 1), (.c (aS ⟨#[116, 97, 103]⟩))), ((1, 1), (.c (aS ⟨#[97, 32, 98]⟩)))]), o 23 (.sliceLit 2 1 [aE, aE] [((0, 2), (T 22))]), o 24 (.build [aE, aE, .nil, aE] [((0, 1), (.c (aS ⟨#[71, 69, 84]⟩))), ((1, 1), (.c (aS ⟨#[47, 117, 115, 101, 114, 115, 47, 55]⟩))), ((2, 1), (T 23))]), o 3 (.alloc [aE, aE, .nil, aE]), on (st 4 3 24)]
def r6_3 : LO := [o 26 (ln 3 1), o 27 (ln 5 2), o 28 (.sliceLit 5 1 [aE, aE, aE, aE, aE] [((0, 5), (T 27))]), o 29 (ln 4 3), o 30 (.call (cf 16) [(T 26), (T 28), (T 29)]), o 25 (mv 30), o 31 (.extract 0 (T 25)), o 32 (.extract 1 (T 25)), o 33 (.extract 2 (T 25)), o 5 (.alloc zV), o 4 (mv 31), on (st 7 5 32), o 6 (mv 33)]
def r6_4 : LO := [o 35 (ln 3 1), o 36 (ln 5 2), o 37 (ln 7 5), o 38 (.call (cf 17) [(T 35), (T 36), (T 37)]), o 34 (mv 38), o 39 (.extract 0 (T 34)), o 40 (.extract 1 (T 34)), o 7 (.alloc [aE, aE, .nil, aE]), on (st 4 7 39), o 8 (mv 40)]
def r6_5 : LO := [o 42 (ln 3 1), o 43 (ln 5 2), o 44 (.build zV [((0, 1), (ci 10))]), o 45 (.call (cf 17) [(T 42), (T 43), (T 44)]), o 41 (mv 45), o 46 (.extract 0 (T 41)), o 47 (.extract 1 (T 41)), o 9 (.alloc [aE, aE, .nil, aE]), on (st 4 9 46), o 10 (mv 47)]
def r6_6 : LO := [o 49 (ln 5 2), o 50 (.sliceLit 5 1 [aE, aE, aE, aE, aE] [((0, 5), (T 49))]), o 51 (.call (cf 12) [(T 50), (.c (aS ⟨#[71, 69, 84]⟩)), (.c (aS ⟨#[47, 117, 115, 101, 114, 115, 47, 37, 50, 48]⟩))]), o 48 (mv 51), o 52 (.extract 0 (T 48)), o 53 (.extract 1 (T 48)), o 54 (.extract 2 (T 48)), o 11 (mv 52), o 12 (mv 53), o 13 (mv 54)]
def r6_7 : LO := [o 56 (.call (cf 7) [(.c (aS ⟨#[37, 50, 102]⟩))]), o 55 (mv 56), o 57 (.extract 0 (T 55)), o 58 (.extract 1 (T 55)), o 14 (mv 57), o 15 (mv 58)]
def r6_8 : LO := [o 59 (ln 3 1), o 60 (mv 4), o 61 (.build [(aI 0), aE] [((0, 1), (ci 6)), ((1, 1), (.c (aS ⟨#[110, 111]⟩)))]), o 62 (ln 7 5), o 63 (.call (cf 18) [(T 59), (T 60), (T 61), (T 62)]), o 16 (.alloc [(aI 0), aE]), on (st 2 16 63)]
def r6_9 : LO := [o 64 (ln 3 1), o 65 (mv 4), o 66 (.build [(aI 0), aE] []), o 67 (ln 7 5), o 68 (.call (cf 18) [(T 64), (T 65), (T 66), (T 67)]), o 17 (.alloc [(aI 0), aE]), on (st 2 17 68)]
def r6_10 : LO := [o 69 (mv 4), o 70 (.bin .neq (T 69) (.c (aS ⟨#[83, 47, 71, 101, 116]⟩))), o 71 (mv 70), og 72 (mv 6) 71 false, og 73 (.bin .neq (T 72) (ci 0)) 71 false, o 74 (.pick (T 71) (cb true) (T 73)), o 75 (mv 74), og 76 (fa 5 5) 75 false, og 77 (ld 76) 75 false, og 78 (.len false (T 77)) 75 false, og 79 (.bin .neq (T 78) (ci 2)) 75 false, o 80 (.pick (T 75) (cb true) (T 79)), o 81 (mv 80), og 82 (fa 5 5) 81 false, og 83 (ld 82) 81 false, og 84 (.idxSl 8 (T 83) (ci 0)) 81 false, og 85 (fa 1 84) 81 false, og 86 (fa 1 85) 81 false, og 87 (ld 86) 81 false, og 88 (.bin .neq (T 87) (.c (aU 7))) 81 false, o 89 (.pick (T 81) (cb true) (T 88)), o 90 (mv 89), og 91 (fa 5 5) 90 false, og 92 (ld 91) 90 false, og 93 (.idxSl 8 (T 92) (ci 1)) 90 false, og 94 (fa 1 93) 90 false, og 95 (fa 3 94) 90 false, og 96 (ld 95) 90 false, og 97 (.len false (T 96)) 90 false, og 98 (.bin .neq (T 97) (ci 1)) 90 false, o 99 (.pick (T 90) (cb true) (T 98)), o 100 (mv 99), og 101 (mv 8) 100 false, og 102 (.bin .neq (T 101) (ci 0)) 100 false, o 103 (.pick (T 100) (cb true) (T 102)), o 104 (mv 103), og 105 (ln 4 3) 104 false, og 106 (ln 4 7) 104 false, og 107 (.call (cf 14) [(T 105), (T 106)]) 104 false, og 108 (.un .not (T 107)) 104 false, o 109 (.pick (T 104) (cb true) (T 108)), o 110 (mv 109), og 111 (mv 10) 110 false, og 112 (.bin .neq (T 111) (ci 14)) 110 false, o 113 (.pick (T 110) (cb true) (T 112))]
def r6_11 : LO := [o 0 (mb false)]
def k6_1 : ACode := .seq (.region r6_10) (.cond (T 113) (.seq (.region r6_11) .ret) .skip)
def r6_17 : LO := [o 114 (mv 11), o 115 (.bin .eql (T 114) (ci 0)), o 116 (mv 115), og 117 (mv 12) 116 true, og 118 (.len false (T 117)) 116 true, og 119 (.bin .eql (T 118) (ci 1)) 116 true, o 120 (.pick (T 116) (T 119) (cb false)), o 121 (mv 120), og 122 (mv 12) 121 true, og 123 (.idxSl 2 (T 122) (ci 0)) 121 true, og 124 (fa 0 123) 121 true, og 125 (ld 124) 121 true, og 126 (.bin .eql (T 125) (.c (aS ⟨#[105, 100]⟩))) 121 true, o 127 (.pick (T 121) (T 126) (cb false)), o 128 (mv 127), og 129 (mv 12) 128 true, og 130 (.idxSl 2 (T 129) (ci 0)) 128 true, og 131 (fa 1 130) 128 true, og 132 (ld 131) 128 true, og 133 (.bin .eql (T 132) (.c (aS ⟨#[32]⟩))) 128 true, o 134 (.pick (T 128) (T 133) (cb false)), o 135 (mv 134), og 136 (mv 13) 135 true, og 137 (.bin .eql (T 136) (ci 0)) 135 true, o 138 (.pick (T 135) (T 137) (cb false)), o 139 (mv 138), og 140 (mv 15) 139 true, og 141 (.bin .eql (T 140) (ci 2)) 139 true, o 142 (.pick (T 139) (T 141) (cb false)), o 143 (mv 142), og 144 (.call (cf 9) [(.c (aS ⟨#[97, 32, 47]⟩))]) 143 true, og 145 (.bin .eql (T 144) (.c (aS ⟨#[97, 37, 50, 48, 37, 50, 70]⟩))) 143 true, o 146 (.pick (T 143) (T 145) (cb false)), o 147 (mv 146), og 148 (fa 0 16) 147 true, og 149 (ld 148) 147 true, og 150 (.bin .eql (T 149) (ci 403)) 147 true, o 151 (.pick (T 147) (T 150) (cb false)), o 152 (mv 151), og 153 (fa 1 16) 152 true, og 154 (ld 153) 152 true, og 155 (.bin .eql (T 154) (.c (aS ⟨#[100, 101, 110, 105, 101, 100, 32, 110, 111]⟩))) 152 true, o 156 (.pick (T 152) (T 155) (cb false)), o 157 (mv 156), og 158 (fa 0 17) 157 true, og 159 (ld 158) 157 true, og 160 (.bin .eql (T 159) (ci 200)) 157 true, o 161 (.pick (T 157) (T 160) (cb false)), o 162 (mv 161), og 163 (fa 1 17) 162 true, og 164 (ld 163) 162 true, og 165 (.bin .eql (T 164) (.c (aS ⟨#[105, 100, 58, 32, 55, 32, 116, 97, 103, 58, 32, 34, 97, 32, 98, 34]⟩))) 162 true, o 166 (.pick (T 162) (T 165) (cb false)), o 167 (mv 166), og 168 (ln 3 1) 167 true, og 169 (ln 5 2) 167 true, og 170 (.sliceLit 5 1 [aE, aE, aE, aE, aE] [((0, 5), (T 169))]) 167 true, og 171 (.call (cf 19) [(T 168), (T 170)]) 167 true, og 172 (.bin .eql (T 171) (ci 0)) 167 true, o 173 (.pick (T 167) (T 172) (cb false)), o 174 (mv 173), og 175 (ln 3 1) 174 true, og 176 (ln 5 2) 174 true, og 177 (ln 5 2) 174 true, og 178 (.sliceLit 5 2 [aE, aE, aE, aE, aE, aE, aE, aE, aE, aE] [((0, 5), (T 176)), ((5, 5), (T 177))]) 174 true, og 179 (.call (cf 19) [(T 175), (T 178)]) 174 true, og 180 (.bin .eql (T 179) (ci 9)) 174 true, o 181 (.pick (T 174) (T 180) (cb false)), o 182 (mv 181), og 183 (.call (cf 20) [(ci 4)]) 182 true, og 184 (.bin .eql (T 183) (ci 404)) 182 true, o 185 (.pick (T 182) (T 184) (cb false)), o 0 (mv 185)]
def k6_2 : ACode := .seq (.region r6_8) (.seq (.region r6_9) (.seq k6_1 (.seq (.region r6_17) .ret)))
def k6_3 : ACode := .seq (.region r6_5) (.seq (.region r6_6) (.seq (.region r6_7) k6_2))
def k6_4 : ACode := .seq (.region r6_2) (.seq (.region r6_3) (.seq (.region r6_4) k6_3))
def k6_5 : ACode := .seq (.region r6_0) (.seq (.region r6_1) k6_4)
theorem fn6 : getFn Tryz.prog 6 = some (186, k6_5, [.tmp 0]) := by kernel_rfl
def r20_0 : LO := [o 2 (mi 0)]
def r20_1 : LO := [o 4 (.build [(aI 0), (aI 0), (aI 0), (aI 0), (aI 0), (aI 0), (aI 0), (aI 0), (aI 0), (aI 0), (aI 0), (aI 0), (aI 0), (aI 0)] [((0, 1), (ci 200)), ((1, 1), (ci 499)), ((2, 1), (ci 400)), ((3, 1), (ci 504)), ((4, 1), (ci 404)), ((5, 1), (ci 409)), ((6, 1), (ci 403)), ((7, 1), (ci 429)), ((8, 1), (ci 412)), ((9, 1), (ci 409)), ((10, 1), (ci 501)), ((11, 1), (ci 500)), ((12, 1), (ci 503)), ((13, 1), (ci 500))]), o 3 (.alloc [(aI 0), (aI 0), (aI 0), (aI 0), (aI 0), (aI 0), (aI 0), (aI 0), (aI 0), (aI 0), (aI 0), (aI 0), (aI 0), (aI 0)]), on (st 14 3 4)]
def r20_2 : LO := [o 5 (mv 0), o 6 (.bin .lss (T 5) (ci 0)), o 7 (mv 6), og 8 (mv 0) 7 false, og 9 (.bin .geq (T 8) (ci 14)) 7 false, o 10 (.pick (T 7) (cb true) (T 9))]
def r20_3 : LO := [o 2 (mi 500)]
def k20_1 : ACode := .seq (.region r20_2) (.cond (T 10) (.seq (.region r20_3) .ret) .skip)
def r20_9 : LO := [o 11 (mv 0), o 12 (.idxA 14 1 (T 3) (T 11)), o 13 (ld 12), o 2 (mv 13)]
def k20_2 : ACode := .seq (.region r20_1) (.seq k20_1 (.seq (.region r20_9) .ret))
def k20_3 : ACode := .seq (.region r20_0) k20_2
theorem fn20 : getFn Tryz.prog 20 = some (14, k20_3, [.tmp 2]) := by kernel_rfl
def r19_0 : LO := [o 2 (bx 0), o 4 (mi 0)]
def r19_1 : LO := [o 10 (mv 1), o 11 (.len false (T 10)), o 12 (.bin .gtr (T 11) (ci 64))]
def r19_2 : LO := [o 4 (mi 3)]
def k19_1 : ACode := .seq (.region r19_1) (.cond (T 12) (.seq (.region r19_2) .ret) .skip)
def r19_8 : LO := [o 13 (mv 1), o 14 (.len false (T 13)), o 15 (mi 0)]
def r19_9 : LO := [o 16 (.bin .lss (T 15) (T 14))]
def r19_13 : LO := [o 17 (.idxSl 5 (T 13) (T 15)), o 18 (ln 5 17), o 6 (.alloc [aE, aE, aE, aE, aE]), on (st 5 6 18)]
def r19_14 : LO := [o 19 (ln 3 2), o 20 (ln 5 6), o 21 (.call (cf 33) [(T 19), (T 20)]), o 7 (mv 21)]
def r19_15 : LO := [o 22 (mv 7), o 23 (.bin .neq (T 22) (ci 0))]
def r19_16 : LO := [o 24 (mv 7), o 4 (mv 24)]
def k19_2 : ACode := .seq (.region r19_15) (.cond (T 23) (.seq (.region r19_16) .ret) .skip)
def k19_3 : ACode := .block 1 (.seq (.region r19_13) (.seq (.region r19_14) k19_2))
def r19_25 : LO := [o 25 (.bin .add (T 15) (ci 1)), o 15 (mv 25)]
def k19_4 : ACode := .seq (.cond (T 16) .skip (.exit 0)) (.seq k19_3 (.region r19_25))
def k19_5 : ACode := .seq (.region r19_9) k19_4
def r19_32 : LO := [o 26 (mv 1), o 27 (.len false (T 26)), o 28 (mi 0)]
def r19_33 : LO := [o 29 (.bin .lss (T 28) (T 27))]
def r19_37 : LO := [o 30 (mv 28), o 31 (.idxSl 5 (T 26) (T 28)), o 32 (ln 5 31), o 9 (.alloc [aE, aE, aE, aE, aE]), o 8 (mv 30), on (st 5 9 32)]
def r19_38 : LO := [o 33 (mv 1), o 34 (mv 8), o 35 (.sliceV 5 (T 33) none (some (T 34)) none), o 36 (.func (.func 45) [] [(T 9)]), o 37 (.call (cf 44) [(T 35), (T 36)])]
def r19_39 : LO := [o 4 (mi 9)]
def k19_6 : ACode := .seq (.region r19_38) (.cond (T 37) (.seq (.region r19_39) .ret) .skip)
def r19_47 : LO := [o 38 (.bin .add (T 28) (ci 1)), o 28 (mv 38)]
def k19_7 : ACode := .seq (.block 3 (.seq (.region r19_37) k19_6)) (.region r19_47)
def k19_8 : ACode := .seq (.region r19_33) (.seq (.cond (T 29) .skip (.exit 2)) k19_7)
def r19_54 : LO := [o 4 (mi 0)]
def k19_9 : ACode := .seq (.seq (.region r19_32) (.block 2 (.loop k19_8))) (.seq (.region r19_54) .ret)
def k19_10 : ACode := .seq k19_1 (.seq (.seq (.region r19_8) (.block 0 (.loop k19_5))) k19_9)
def k19_11 : ACode := .seq (.region r19_0) k19_10
theorem fn19 : getFn Tryz.prog 19 = some (39, k19_11, [.tmp 4]) := by kernel_rfl
def r45_0 : LO := [o 2 (bx 0), o 3 (mb false)]
def r45_1 : LO := [o 4 (ln 5 2), o 5 (ln 5 1), o 6 (.call (cf 46) [(T 4), (T 5)]), o 3 (mv 6)]
def k45_1 : ACode := .seq (.region r45_0) (.seq (.region r45_1) .ret)
theorem fn45 : getFn Tryz.prog 45 = some (7, k45_1, [.tmp 3]) := by kernel_rfl
def r46_0 : LO := [o 2 (bx 0), o 3 (bx 1), o 4 (mb false)]
def r46_1 : LO := [o 11 (fa 1 2), o 12 (ld 11), o 13 (.call (cf 49) [(T 12)]), o 10 (mv 13), o 14 (.extract 0 (T 10)), o 15 (.extract 1 (T 10)), o 5 (mv 14), o 6 (mv 15)]
def r46_2 : LO := [o 17 (fa 1 3), o 18 (ld 17), o 19 (.call (cf 49) [(T 18)]), o 16 (mv 19), o 20 (.extract 0 (T 16)), o 21 (.extract 1 (T 16)), o 7 (mv 20), o 8 (mv 21)]
def r46_3 : LO := [o 22 (fa 0 2), o 23 (ld 22), o 24 (fa 0 3), o 25 (ld 24), o 26 (.bin .neq (T 23) (T 25)), o 27 (mv 26), og 28 (mv 5) 27 false, og 29 (.len false (T 28)) 27 false, og 30 (mv 7) 27 false, og 31 (.len false (T 30)) 27 false, og 32 (.bin .neq (T 29) (T 31)) 27 false, o 33 (.pick (T 27) (cb true) (T 32))]
def r46_4 : LO := [o 4 (mb false)]
def k46_1 : ACode := .seq (.region r46_3) (.cond (T 33) (.seq (.region r46_4) .ret) .skip)
def r46_10 : LO := [o 34 (mv 5), o 35 (.len false (T 34)), o 36 (mi 0)]
def r46_11 : LO := [o 37 (.bin .lss (T 36) (T 35))]
def r46_15 : LO := [o 38 (mv 36), o 9 (mv 38)]
def r46_16 : LO := [o 39 (mv 5), o 40 (mv 9), o 41 (.idxSl 1 (T 39) (T 40)), o 42 (ld 41), o 43 (.call (cf 97) [(T 42)]), o 44 (mv 43), og 45 (mv 7) 44 true, og 46 (mv 9) 44 true, og 47 (.idxSl 1 (T 45) (T 46)) 44 true, og 48 (ld 47) 44 true, og 49 (.call (cf 97) [(T 48)]) 44 true, o 50 (.pick (T 44) (T 49) (cb false)), o 51 (mv 50), og 52 (mv 5) 51 true, og 53 (mv 9) 51 true, og 54 (.idxSl 1 (T 52) (T 53)) 51 true, og 55 (ld 54) 51 true, og 56 (mv 7) 51 true, og 57 (mv 9) 51 true, og 58 (.idxSl 1 (T 56) (T 57)) 51 true, og 59 (ld 58) 51 true, og 60 (.bin .neq (T 55) (T 59)) 51 true, o 61 (.pick (T 51) (T 60) (cb false))]
def r46_16t : LO := []
def r46_16o : LN := [[], [], [0, 1], [2], [3], [4], [5], [5], [5, 6, 7], [5, 8], [5, 9], [5, 10], [10, 11], [12], [12], [12, 13, 14], [12, 15], [12], [12], [12, 17, 18], [12, 19], [12, 16, 20], [12, 21]]
def r46_17 : LO := [o 4 (mb false)]
def k46_2 : ACode := .seq (.drawn r46_16o r46_16 r46_16t) (.cond (T 61) (.seq (.region r46_17) .ret) .skip)
def r46_25 : LO := [o 62 (.bin .add (T 36) (ci 1)), o 36 (mv 62)]
def k46_3 : ACode := .seq (.block 1 (.seq (.region r46_15) k46_2)) (.region r46_25)
def k46_4 : ACode := .seq (.region r46_11) (.seq (.cond (T 37) .skip (.exit 0)) k46_3)
def r46_32 : LO := [o 4 (mb true)]
def k46_5 : ACode := .seq (.seq (.region r46_10) (.block 0 (.loop k46_4))) (.seq (.region r46_32) .ret)
def k46_6 : ACode := .seq (.region r46_1) (.seq (.region r46_2) (.seq k46_1 k46_5))
def k46_7 : ACode := .seq (.region r46_0) k46_6
theorem fn46 : getFn Tryz.prog 46 = some (63, k46_7, [.tmp 4]) := by kernel_rfl
def r97_0 : LO := [o 2 (mb false)]
def r97_1 : LO := [o 4 (mv 0), o 5 (.len true (T 4)), o 6 (mi 0)]
def r97_2 : LO := [o 7 (.bin .lss (T 6) (T 5))]
def r97_6 : LO := [o 8 (mv 6), o 3 (mv 8)]
def r97_7 : LO := [o 9 (mv 0), o 10 (mv 3), o 11 (.idxS (T 9) (T 10)), o 12 (.call (cf 25) [(T 11)]), o 13 (.un .not (T 12)), o 14 (mv 13), og 15 (mv 0) 14 false, og 16 (mv 3) 14 false, og 17 (.idxS (T 15) (T 16)) 14 false, og 18 (.bin .geq (T 17) (.c (aC 65))) 14 false, og 19 (mv 18) 14 false, og 20 (mv 0) 19 true, og 21 (mv 3) 19 true, og 22 (.idxS (T 20) (T 21)) 19 true, og 23 (.bin .leq (T 22) (.c (aC 90))) 19 true, og 24 (.pick (T 19) (T 23) (cb false)) 14 false, o 25 (.pick (T 14) (cb true) (T 24))]
def r97_8 : LO := [o 2 (mb false)]
def k97_1 : ACode := .seq (.region r97_7) (.cond (T 25) (.seq (.region r97_8) .ret) .skip)
def r97_16 : LO := [o 26 (.bin .add (T 6) (ci 1)), o 6 (mv 26)]
def k97_2 : ACode := .seq (.block 1 (.seq (.region r97_6) k97_1)) (.region r97_16)
def k97_3 : ACode := .seq (.region r97_2) (.seq (.cond (T 7) .skip (.exit 0)) k97_2)
def r97_23 : LO := [o 27 (mv 0), o 28 (.bin .neq (T 27) (.c aE)), o 2 (mv 28)]
def k97_4 : ACode := .seq (.seq (.region r97_1) (.block 0 (.loop k97_3))) (.seq (.region r97_23) .ret)
def k97_5 : ACode := .seq (.region r97_0) k97_4
theorem fn97 : getFn Tryz.prog 97 = some (29, k97_5, [.tmp 2]) := by kernel_rfl
def r25_0 : LO := [o 2 (mb false)]
def r25_1 : LO := [o 3 (mv 0), o 4 (.bin .geq (T 3) (.c (aC 97))), o 5 (mv 4), og 6 (mv 0) 5 true, og 7 (.bin .leq (T 6) (.c (aC 122))) 5 true, o 8 (.pick (T 5) (T 7) (cb false)), o 9 (mv 8), og 10 (mv 0) 9 false, og 11 (.bin .geq (T 10) (.c (aC 65))) 9 false, og 12 (mv 11) 9 false, og 13 (mv 0) 12 true, og 14 (.bin .leq (T 13) (.c (aC 90))) 12 true, og 15 (.pick (T 12) (T 14) (cb false)) 9 false, o 16 (.pick (T 9) (cb true) (T 15)), o 17 (mv 16), og 18 (mv 0) 17 false, og 19 (.bin .geq (T 18) (.c (aC 48))) 17 false, og 20 (mv 19) 17 false, og 21 (mv 0) 20 true, og 22 (.bin .leq (T 21) (.c (aC 57))) 20 true, og 23 (.pick (T 20) (T 22) (cb false)) 17 false, o 24 (.pick (T 17) (cb true) (T 23)), o 25 (mv 24), og 26 (mv 0) 25 false, og 27 (.bin .eql (T 26) (.c (aC 45))) 25 false, o 28 (.pick (T 25) (cb true) (T 27)), o 29 (mv 28), og 30 (mv 0) 29 false, og 31 (.bin .eql (T 30) (.c (aC 95))) 29 false, o 32 (.pick (T 29) (cb true) (T 31)), o 33 (mv 32), og 34 (mv 0) 33 false, og 35 (.bin .eql (T 34) (.c (aC 46))) 33 false, o 36 (.pick (T 33) (cb true) (T 35)), o 2 (mv 36)]
def k25_1 : ACode := .seq (.region r25_0) (.seq (.region r25_1) .ret)
theorem fn25 : getFn Tryz.prog 25 = some (37, k25_1, [.tmp 2]) := by kernel_rfl
def r49_0 : LO := [o 2 (.mv (.c .nil)), o 3 (mb false)]
def r49_1 : LO := [o 11 (mv 0), o 12 (.call (cf 50) [(T 11)]), o 10 (mv 12), o 13 (.extract 0 (T 10)), o 14 (.extract 1 (T 10)), o 4 (mv 13), o 5 (mv 14)]
def r49_2 : LO := [o 15 (mv 5), o 16 (.un .not (T 15)), o 17 (mv 16), og 18 (mv 4) 17 false, og 19 (.len false (T 18)) 17 false, og 20 (.bin .gtr (T 19) (ci 8)) 17 false, o 21 (.pick (T 17) (cb true) (T 20))]
def r49_3 : LO := [o 2 (.mv (.c .nil)), o 3 (mb false)]
def k49_1 : ACode := .seq (.region r49_2) (.cond (T 21) (.seq (.region r49_3) .ret) .skip)
def r49_9 : LO := [o 22 (mv 4), o 23 (.len false (T 22)), o 24 (mi 0)]
def r49_10 : LO := [o 25 (.bin .lss (T 24) (T 23))]
def r49_14 : LO := [o 26 (.idxSl 1 (T 22) (T 24)), o 27 (ld 26), o 7 (mv 27)]
def r49_15 : LO := [o 29 (mv 7), o 30 (.call (cf 51) [(T 29)]), o 28 (mv 30), o 31 (.extract 0 (T 28)), o 32 (.extract 1 (T 28)), o 8 (mv 31), o 9 (mv 32)]
def r49_16 : LO := [o 33 (mv 9), o 34 (.un .not (T 33)), o 35 (mv 34), og 36 (mv 7) 35 true, og 37 (.call (cf 97) [(T 36)]) 35 true, og 38 (.un .not (T 37)) 35 true, o 39 (.pick (T 35) (T 38) (cb false))]
def r49_17 : LO := [o 2 (.mv (.c .nil)), o 3 (mb false)]
def k49_2 : ACode := .seq (.region r49_16) (.cond (T 39) (.seq (.region r49_17) .ret) .skip)
def k49_3 : ACode := .block 1 (.seq (.region r49_14) (.seq (.region r49_15) k49_2))
def r49_26 : LO := [o 40 (.bin .add (T 24) (ci 1)), o 24 (mv 40)]
def k49_4 : ACode := .seq (.cond (T 25) .skip (.exit 0)) (.seq k49_3 (.region r49_26))
def k49_5 : ACode := .seq (.region r49_10) k49_4
def r49_33 : LO := [o 41 (mv 4), o 2 (mv 41), o 3 (mb true)]
def k49_6 : ACode := .seq (.seq (.region r49_9) (.block 0 (.loop k49_5))) (.seq (.region r49_33) .ret)
def k49_7 : ACode := .seq (.region r49_0) (.seq (.region r49_1) (.seq k49_1 k49_6))
theorem fn49 : getFn Tryz.prog 49 = some (42, k49_7, [.tmp 2, .tmp 3]) := by kernel_rfl
def r51_0 : LO := [o 2 (.mv (.c aE)), o 3 (mb false)]
def r51_1 : LO := [o 5 (mv 0), o 6 (.len true (T 5)), o 4 (mv 6)]
def r51_2 : LO := [o 7 (mv 4), o 8 (.bin .lss (T 7) (ci 2)), o 9 (mv 8), og 10 (mv 0) 9 false, og 11 (.idxS (T 10) (ci 0)) 9 false, og 12 (.bin .neq (T 11) (.c (aC 123))) 9 false, o 13 (.pick (T 9) (cb true) (T 12)), o 14 (mv 13), og 15 (mv 0) 14 false, og 16 (mv 4) 14 false, og 17 (.bin .sub (T 16) (ci 1)) 14 false, og 18 (.idxS (T 15) (T 17)) 14 false, og 19 (.bin .neq (T 18) (.c (aC 125))) 14 false, o 20 (.pick (T 14) (cb true) (T 19)), o 21 (mv 20), og 22 (mv 0) 21 false, og 23 (mv 4) 21 false, og 24 (.bin .sub (T 23) (ci 1)) 21 false, og 25 (.sliceS (T 22) (some (ci 1)) (some (T 24))) 21 false, og 26 (.call (cf 56) [(T 25)]) 21 false, og 27 (.un .not (T 26)) 21 false, o 28 (.pick (T 21) (cb true) (T 27))]
def r51_3 : LO := [o 2 (.mv (.c aE)), o 3 (mb false)]
def k51_1 : ACode := .seq (.region r51_2) (.cond (T 28) (.seq (.region r51_3) .ret) .skip)
def r51_9 : LO := [o 29 (mv 0), o 30 (mv 4), o 31 (.bin .sub (T 30) (ci 1)), o 32 (.sliceS (T 29) (some (ci 1)) (some (T 31))), o 2 (mv 32), o 3 (mb true)]
def k51_2 : ACode := .seq (.region r51_1) (.seq k51_1 (.seq (.region r51_9) .ret))
def k51_3 : ACode := .seq (.region r51_0) k51_2
theorem fn51 : getFn Tryz.prog 51 = some (33, k51_3, [.tmp 2, .tmp 3]) := by kernel_rfl
def r56_0 : LO := [o 2 (mb false)]
def r56_1 : LO := [o 5 (mv 0), o 6 (.call (cf 103) [(T 5), (.c (aS ⟨#[46]⟩))]), o 7 (.len false (T 6)), o 8 (mi 0)]
def r56_2 : LO := [o 9 (.bin .lss (T 8) (T 7))]
def r56_6 : LO := [o 10 (.idxSl 1 (T 6) (T 8)), o 11 (ld 10), o 4 (mv 11)]
def r56_7 : LO := [o 12 (mv 4), o 13 (.call (cf 57) [(T 12)]), o 14 (.un .not (T 13))]
def r56_8 : LO := [o 2 (mb false)]
def k56_1 : ACode := .seq (.region r56_7) (.cond (T 14) (.seq (.region r56_8) .ret) .skip)
def r56_16 : LO := [o 15 (.bin .add (T 8) (ci 1)), o 8 (mv 15)]
def k56_2 : ACode := .seq (.block 1 (.seq (.region r56_6) k56_1)) (.region r56_16)
def k56_3 : ACode := .seq (.region r56_2) (.seq (.cond (T 9) .skip (.exit 0)) k56_2)
def r56_23 : LO := [o 16 (mv 0), o 17 (.len true (T 16)), o 18 (.bin .leq (T 17) (ci 120)), o 2 (mv 18)]
def k56_4 : ACode := .seq (.seq (.region r56_1) (.block 0 (.loop k56_3))) (.seq (.region r56_23) .ret)
def k56_5 : ACode := .seq (.region r56_0) k56_4
theorem fn56 : getFn Tryz.prog 56 = some (19, k56_5, [.tmp 2]) := by kernel_rfl
def r103_0 : LO := [o 4 (.mv (.c .nil))]
def r103_1 : LO := [o 5 (mv 0), o 6 (mv 1), o 7 (.call (cf 158) [(T 5), (T 6), (ci 0), (ci (-1))]), o 4 (mv 7)]
def k103_1 : ACode := .seq (.region r103_0) (.seq (.region r103_1) .ret)
theorem fn103 : getFn Tryz.prog 103 = some (8, k103_1, [.tmp 4]) := by kernel_rfl
def r158_0 : LO := [o 8 (.mv (.c .nil))]
def r158_1 : LO := [o 12 (mv 3), o 13 (.bin .eql (T 12) (ci 0))]
def r158_2 : LO := [o 8 (.mv (.c .nil))]
def k158_1 : ACode := .seq (.region r158_1) (.cond (T 13) (.seq (.region r158_2) .ret) .skip)
def r158_8 : LO := [o 14 (mv 1), o 15 (.bin .eql (T 14) (.c aE))]
def r158_9 : LO := [o 16 (mv 0), o 17 (mv 3), o 18 (.call (cf 225) [(T 16), (T 17)]), o 8 (mv 18)]
def k158_2 : ACode := .seq (.region r158_8) (.cond (T 15) (.seq (.region r158_9) .ret) .skip)
def r158_15 : LO := [o 19 (mv 3), o 20 (.bin .lss (T 19) (ci 0))]
def r158_16 : LO := [o 21 (mv 0), o 22 (mv 1), o 23 (.call (cf 226) [(T 21), (T 22)]), o 24 (.bin .add (T 23) (ci 1)), o 3 (mv 24)]
def k158_3 : ACode := .seq (.region r158_15) (.cond (T 20) (.region r158_16) .skip)
def r158_20 : LO := [o 25 (mv 3), o 26 (mv 0), o 27 (.len true (T 26)), o 28 (.bin .add (T 27) (ci 1)), o 29 (.minmax false [(T 25), (T 28)]), o 3 (mv 29)]
def r158_21 : LO := [o 30 (mv 3), o 31 (.make 1 16 [aE] (T 30) (T 30)), o 9 (mv 31)]
def r158_22 : LO := [o 32 (mv 3), o 33 (.bin .sub (T 32) (ci 1)), o 3 (mv 33)]
def r158_23 : LO := [o 10 (mi 0)]
def r158_24 : LO := [o 34 (mv 10), o 35 (mv 3), o 36 (.bin .lss (T 34) (T 35))]
def r158_29 : LO := [o 37 (mv 0), o 38 (mv 1), o 39 (.call (cf 227) [(T 37), (T 38)]), o 11 (mv 39)]
def r158_30 : LO := [o 40 (mv 11), o 41 (.bin .lss (T 40) (ci 0))]
def r158_35 : LO := [o 42 (mv 9), o 43 (mv 10), o 44 (mv 0), o 45 (mv 11), o 46 (mv 2), o 47 (.bin .add (T 45) (T 46)), o 48 (.sliceS (T 44) none (some (T 47))), o 49 (.idxSl 1 (T 42) (T 43)), on (st 1 49 48)]
def r158_36 : LO := [o 50 (mv 0), o 51 (mv 11), o 52 (mv 1), o 53 (.len true (T 52)), o 54 (.bin .add (T 51) (T 53)), o 55 (.sliceS (T 50) (some (T 54)) none), o 0 (mv 55)]
def r158_37 : LO := [o 56 (mv 10), o 57 (.bin .add (T 56) (ci 1)), o 10 (mv 57)]
def k158_4 : ACode := .seq (.region r158_35) (.seq (.region r158_36) (.region r158_37))
def k158_5 : ACode := .seq (.seq (.region r158_30) (.cond (T 41) (.exit 0) .skip)) k158_4
def k158_6 : ACode := .seq (.seq (.region r158_24) (.cond (T 36) .skip (.exit 0))) (.block 1 (.seq (.region r158_29) k158_5))
def r158_46 : LO := [o 58 (mv 9), o 59 (mv 10), o 60 (mv 0), o 61 (.idxSl 1 (T 58) (T 59)), on (st 1 61 60)]
def r158_47 : LO := [o 62 (mv 9), o 63 (mv 10), o 64 (.bin .add (T 63) (ci 1)), o 65 (.sliceV 1 (T 62) none (some (T 64)) none), o 8 (mv 65)]
def k158_7 : ACode := .seq (.block 0 (.loop k158_6)) (.seq (.region r158_46) (.seq (.region r158_47) .ret))
def k158_8 : ACode := .seq (.region r158_21) (.seq (.region r158_22) (.seq (.region r158_23) k158_7))
def k158_9 : ACode := .seq k158_1 (.seq k158_2 (.seq k158_3 (.seq (.region r158_20) k158_8)))
def k158_10 : ACode := .seq (.region r158_0) k158_9
theorem fn158 : getFn Tryz.prog 158 = some (66, k158_10, [.tmp 8]) := by kernel_rfl
def r157_0 : LO := [o 4 (mi 0)]
def r157_1 : LO := [o 14 (mv 1), o 15 (.len true (T 14)), o 5 (mv 15)]
def r157_2 : LO := [o 17 (mv 5), o 18 (.bin .eql (T 17) (ci 0)), o 19 (mv 18), og 20 (mv 1) 19 false, og 21 (mv 0) 19 false, og 22 (.bin .eql (T 20) (T 21)) 19 false, o 23 (.pick (T 19) (cb true) (T 22)), o 16 (mv 23)]
def r157_3 : LO := [o 4 (mi 0)]
def r157_6 : LO := [o 25 (mv 5), o 26 (.bin .eql (T 25) (ci 1)), o 24 (mv 26)]
def r157_7 : LO := [o 27 (mv 0), o 28 (mv 1), o 29 (.idxS (T 28) (ci 0)), o 30 (.call (cf 48) [(T 27), (T 29)]), o 4 (mv 30)]
def r157_10 : LO := [o 32 (mv 5), o 33 (mv 0), o 34 (.len true (T 33)), o 35 (.bin .geq (T 32) (T 34)), o 31 (mv 35)]
def r157_11 : LO := [o 4 (mi (-1))]
def r157_14 : LO := [o 37 (mv 5), o 38 (.load none (.c (.glob 2))), o 39 (.bin .leq (T 37) (T 38)), o 40 (mv 39), og 41 (mv 0) 40 true, og 42 (.len true (T 41)) 40 true, og 43 (.bin .leq (T 42) (ci 64)) 40 true, o 44 (.pick (T 40) (T 43) (cb false)), o 36 (mv 44)]
def r157_15 : LO := [o 45 (mv 0), o 46 (mv 1), o 47 (.call (cf 222) [(T 45), (T 46)]), o 4 (mv 47)]
def k157_1 : ACode := .seq (.region r157_14) (.cond (T 36) (.seq (.region r157_15) .ret) .skip)
def k157_2 : ACode := .seq (.region r157_10) (.cond (T 31) (.seq (.region r157_11) .ret) k157_1)
def k157_3 : ACode := .seq (.region r157_6) (.cond (T 24) (.seq (.region r157_7) .ret) k157_2)
def k157_4 : ACode := .seq (.region r157_2) (.cond (T 16) (.seq (.region r157_3) .ret) k157_3)
def r157_28 : LO := [o 48 (mv 1), o 49 (.idxS (T 48) (ci 0)), o 6 (mv 49)]
def r157_29 : LO := [o 50 (mv 1), o 51 (.idxS (T 50) (ci 1)), o 7 (mv 51)]
def r157_30 : LO := [o 8 (mi 0)]
def r157_31 : LO := [o 52 (mv 0), o 53 (.len true (T 52)), o 54 (mv 5), o 55 (.bin .sub (T 53) (T 54)), o 56 (.bin .add (T 55) (ci 1)), o 9 (mv 56)]
def r157_32 : LO := [o 10 (mi 0)]
def r157_33 : LO := [o 57 (mv 8), o 58 (mv 9), o 59 (.bin .lss (T 57) (T 58))]
def r157_38 : LO := [o 60 (mv 0), o 61 (mv 8), o 62 (.idxS (T 60) (T 61)), o 63 (mv 6), o 64 (.bin .neq (T 62) (T 63))]
def r157_39 : LO := [o 65 (mv 0), o 66 (mv 8), o 67 (.bin .add (T 66) (ci 1)), o 68 (mv 9), o 69 (.sliceS (T 65) (some (T 67)) (some (T 68))), o 70 (mv 6), o 71 (.call (cf 48) [(T 69), (T 70)]), o 11 (mv 71)]
def r157_40 : LO := [o 72 (mv 11), o 73 (.bin .lss (T 72) (ci 0))]
def r157_41 : LO := [o 4 (mi (-1))]
def k157_5 : ACode := .seq (.region r157_40) (.cond (T 73) (.seq (.region r157_41) .ret) .skip)
def r157_47 : LO := [o 74 (mv 8), o 75 (mv 11), o 76 (.bin .add (T 75) (ci 1)), o 77 (.bin .add (T 74) (T 76)), o 8 (mv 77)]
def k157_6 : ACode := .cond (T 64) (.seq (.region r157_39) (.seq k157_5 (.region r157_47))) .skip
def r157_53 : LO := [o 78 (mv 0), o 79 (mv 8), o 80 (.bin .add (T 79) (ci 1)), o 81 (.idxS (T 78) (T 80)), o 82 (mv 7), o 83 (.bin .eql (T 81) (T 82)), o 84 (mv 83), og 85 (mv 0) 84 true, og 86 (mv 8) 84 true, og 87 (mv 8) 84 true, og 88 (mv 5) 84 true, og 89 (.bin .add (T 87) (T 88)) 84 true, og 90 (.sliceS (T 85) (some (T 86)) (some (T 89))) 84 true, og 91 (mv 1) 84 true, og 92 (.bin .eql (T 90) (T 91)) 84 true, o 93 (.pick (T 84) (T 92) (cb false))]
def r157_54 : LO := [o 94 (mv 8), o 4 (mv 94)]
def k157_7 : ACode := .seq (.region r157_53) (.cond (T 93) (.seq (.region r157_54) .ret) .skip)
def r157_60 : LO := [o 95 (mv 8), o 96 (.bin .add (T 95) (ci 1)), o 8 (mv 96)]
def r157_61 : LO := [o 97 (mv 10), o 98 (.bin .add (T 97) (ci 1)), o 10 (mv 98)]
def r157_62 : LO := [o 99 (mv 5), o 100 (.load none (.c (.glob 2))), o 101 (.bin .leq (T 99) (T 100)), o 102 (mv 101), og 103 (mv 10) 102 true, og 104 (mv 8) 102 true, og 105 (.call (cf 223) [(T 104)]) 102 true, og 106 (.bin .gtr (T 103) (T 105)) 102 true, o 107 (.pick (T 102) (T 106) (cb false))]
def r157_63 : LO := [o 108 (mv 0), o 109 (mv 8), o 110 (.sliceS (T 108) (some (T 109)) none), o 111 (mv 1), o 112 (.call (cf 222) [(T 110), (T 111)]), o 12 (mv 112)]
def r157_64 : LO := [o 113 (mv 12), o 114 (.bin .geq (T 113) (ci 0))]
def r157_65 : LO := [o 115 (mv 12), o 116 (mv 8), o 117 (.bin .add (T 115) (T 116)), o 4 (mv 117)]
def k157_8 : ACode := .seq (.region r157_64) (.cond (T 114) (.seq (.region r157_65) .ret) .skip)
def r157_71 : LO := [o 4 (mi (-1))]
def k157_9 : ACode := .seq (.region r157_63) (.seq k157_8 (.seq (.region r157_71) .ret))
def r157_76 : LO := [o 118 (mv 5), o 119 (.load none (.c (.glob 2))), o 120 (.bin .gtr (T 118) (T 119)), o 121 (mv 120), og 122 (mv 10) 121 true, og 123 (mv 8) 121 true, og 124 (.bin .shr (T 123) (.c (aU 4))) 121 true, og 125 (.bin .add (ci 4) (T 124)) 121 true, og 126 (.bin .geq (T 122) (T 125)) 121 true, o 127 (.pick (T 121) (T 126) (cb false)), o 128 (mv 127), og 129 (mv 8) 128 true, og 130 (mv 9) 128 true, og 131 (.bin .lss (T 129) (T 130)) 128 true, o 132 (.pick (T 128) (T 131) (cb false))]
def r157_77 : LO := [o 133 (mv 0), o 134 (mv 8), o 135 (.sliceS (T 133) (some (T 134)) none), o 136 (mv 1), o 137 (.call (cf 224) [(T 135), (T 136)]), o 13 (mv 137)]
def r157_78 : LO := [o 138 (mv 13), o 139 (.bin .lss (T 138) (ci 0))]
def r157_79 : LO := [o 4 (mi (-1))]
def k157_10 : ACode := .seq (.region r157_78) (.cond (T 139) (.seq (.region r157_79) .ret) .skip)
def r157_85 : LO := [o 140 (mv 8), o 141 (mv 13), o 142 (.bin .add (T 140) (T 141)), o 4 (mv 142)]
def k157_11 : ACode := .seq (.region r157_77) (.seq k157_10 (.seq (.region r157_85) .ret))
def k157_12 : ACode := .cond (T 107) k157_9 (.seq (.region r157_76) (.cond (T 132) k157_11 .skip))
def k157_13 : ACode := .seq (.region r157_60) (.seq (.region r157_61) (.seq (.region r157_62) k157_12))
def k157_14 : ACode := .block 2 (.seq (.seq (.region r157_38) k157_6) (.seq k157_7 k157_13))
def k157_15 : ACode := .seq (.seq (.region r157_33) (.cond (T 59) .skip (.exit 1))) k157_14
def r157_103 : LO := [o 4 (mi (-1))]
def k157_16 : ACode := .seq (.block 1 (.loop k157_15)) (.seq (.region r157_103) .ret)
def k157_17 : ACode := .seq (.region r157_30) (.seq (.region r157_31) (.seq (.region r157_32) k157_16))
def k157_18 : ACode := .seq (.block 0 k157_4) (.seq (.region r157_28) (.seq (.region r157_29) k157_17))
def k157_19 : ACode := .seq (.region r157_0) (.seq (.region r157_1) k157_18)
theorem fn157 : getFn Tryz.prog 157 = some (143, k157_19, [.tmp 4]) := by kernel_rfl
def r48_0 : LO := [o 4 (mi 0)]
def r48_1 : LO := [o 5 (mv 0), o 6 (mv 1), o 7 (.seek false (T 5) (T 6)), o 4 (mv 7)]
def k48_1 : ACode := .seq (.region r48_0) (.seq (.region r48_1) .ret)
theorem fn48 : getFn Tryz.prog 48 = some (8, k48_1, [.tmp 4]) := by kernel_rfl
def r226_0 : LO := [o 4 (mi 0)]
def r226_1 : LO := [o 7 (mv 1), o 8 (.len true (T 7)), o 9 (.bin .eql (T 8) (ci 0))]
def r226_2 : LO := [o 10 (mv 0), o 11 (.call (cf 297) [(T 10)]), o 12 (.bin .add (T 11) (ci 1)), o 4 (mv 12)]
def k226_1 : ACode := .seq (.region r226_1) (.cond (T 9) (.seq (.region r226_2) .ret) .skip)
def r226_8 : LO := [o 13 (mv 1), o 14 (.len true (T 13)), o 15 (.bin .eql (T 14) (ci 1))]
def r226_9 : LO := [o 16 (mv 0), o 17 (mv 1), o 18 (.idxS (T 17) (ci 0)), o 19 (.seek true (T 16) (T 18)), o 4 (mv 19)]
def k226_2 : ACode := .seq (.region r226_8) (.cond (T 15) (.seq (.region r226_9) .ret) .skip)
def r226_15 : LO := [o 5 (mi 0)]
def r226_16 : LO := [o 20 (mv 0), o 21 (mv 1), o 22 (.call (cf 227) [(T 20), (T 21)]), o 6 (mv 22)]
def r226_17 : LO := [o 23 (mv 6), o 24 (.bin .eql (T 23) (ci (-1)))]
def r226_18 : LO := [o 25 (mv 5), o 4 (mv 25)]
def k226_3 : ACode := .seq (.region r226_17) (.cond (T 24) (.seq (.region r226_18) .ret) .skip)
def r226_24 : LO := [o 26 (mv 5), o 27 (.bin .add (T 26) (ci 1)), o 5 (mv 27)]
def r226_25 : LO := [o 28 (mv 0), o 29 (mv 6), o 30 (mv 1), o 31 (.len true (T 30)), o 32 (.bin .add (T 29) (T 31)), o 33 (.sliceS (T 28) (some (T 32)) none), o 0 (mv 33)]
def k226_4 : ACode := .seq (.region r226_16) (.seq k226_3 (.seq (.region r226_24) (.region r226_25)))
def k226_5 : ACode := .block 1 k226_4
def k226_6 : ACode := .seq k226_2 (.seq (.region r226_15) (.block 0 (.loop k226_5)))
def k226_7 : ACode := .seq (.region r226_0) (.seq k226_1 k226_6)
theorem fn226 : getFn Tryz.prog 226 = some (34, k226_7, [.tmp 4]) := by kernel_rfl
def r57_0 : LO := [o 2 (mb false)]
def r57_1 : LO := [o 6 (mv 0), o 7 (.range (T 6))]
def r57_2 : LO := [o 8 (.next (T 7)), o 9 (.extract 0 (T 8))]
def r57_6 : LO := [o 10 (.extract 1 (T 8)), o 11 (.extract 2 (T 8)), o 3 (mv 10), o 4 (mv 11)]
def r57_7 : LO := [o 12 (mv 4), o 13 (.call (cf 104) [(T 12)]), o 5 (mv 13)]
def r57_8 : LO := [o 14 (mv 5), o 15 (.bin .eql (T 14) (ci 0)), o 16 (mv 15), og 17 (mv 3) 16 false, og 18 (.bin .eql (T 17) (ci 0)) 16 false, og 19 (mv 18) 16 false, og 20 (mv 5) 19 true, og 21 (.bin .neq (T 20) (ci 1)) 19 true, og 22 (.pick (T 19) (T 21) (cb false)) 16 false, og 23 (mv 22) 16 false, og 24 (mv 5) 23 true, og 25 (.bin .neq (T 24) (ci 2)) 23 true, og 26 (.pick (T 23) (T 25) (cb false)) 16 false, o 27 (.pick (T 16) (cb true) (T 26))]
def r57_9 : LO := [o 2 (mb false)]
def k57_1 : ACode := .seq (.region r57_8) (.cond (T 27) (.seq (.region r57_9) .ret) .skip)
def k57_2 : ACode := .seq (.cond (T 9) .skip (.exit 0)) (.block 1 (.seq (.region r57_6) (.seq (.region r57_7) k57_1)))
def k57_3 : ACode := .seq (.region r57_2) k57_2
def r57_23 : LO := [o 28 (mv 0), o 29 (.len true (T 28)), o 30 (.bin .geq (T 29) (ci 1)), o 31 (mv 30), og 32 (mv 0) 31 true, og 33 (.len true (T 32)) 31 true, og 34 (.bin .leq (T 33) (ci 40)) 31 true, o 35 (.pick (T 31) (T 34) (cb false)), o 2 (mv 35)]
def k57_4 : ACode := .seq (.seq (.region r57_1) (.block 0 (.loop k57_3))) (.seq (.region r57_23) .ret)
def k57_5 : ACode := .seq (.region r57_0) k57_4
theorem fn57 : getFn Tryz.prog 57 = some (36, k57_5, [.tmp 2]) := by kernel_rfl
def r104_0 : LO := [o 2 (mi 0)]
def r104_1 : LO := [o 4 (mv 0), o 5 (.bin .geq (T 4) (.c (.v (.int .i32 97)))), o 6 (mv 5), og 7 (mv 0) 6 true, og 8 (.bin .leq (T 7) (.c (.v (.int .i32 122)))) 6 true, o 9 (.pick (T 6) (T 8) (cb false)), o 3 (mv 9)]
def r104_2 : LO := [o 2 (mi 1)]
def r104_5 : LO := [o 11 (mv 0), o 12 (.bin .geq (T 11) (.c (.v (.int .i32 65)))), o 13 (mv 12), og 14 (mv 0) 13 true, og 15 (.bin .leq (T 14) (.c (.v (.int .i32 90)))) 13 true, o 16 (.pick (T 13) (T 15) (cb false)), o 10 (mv 16)]
def r104_6 : LO := [o 2 (mi 2)]
def r104_9 : LO := [o 18 (mv 0), o 19 (.bin .geq (T 18) (.c (.v (.int .i32 48)))), o 20 (mv 19), og 21 (mv 0) 20 true, og 22 (.bin .leq (T 21) (.c (.v (.int .i32 57)))) 20 true, o 23 (.pick (T 20) (T 22) (cb false)), o 17 (mv 23)]
def r104_10 : LO := [o 2 (mi 3)]
def r104_13 : LO := [o 25 (mv 0), o 26 (.bin .eql (T 25) (.c (.v (.int .i32 95)))), o 24 (mv 26)]
def r104_14 : LO := [o 2 (mi 4)]
def k104_1 : ACode := .seq (.region r104_13) (.cond (T 24) (.seq (.region r104_14) .ret) .skip)
def k104_2 : ACode := .seq (.region r104_9) (.cond (T 17) (.seq (.region r104_10) .ret) k104_1)
def k104_3 : ACode := .seq (.region r104_5) (.cond (T 10) (.seq (.region r104_6) .ret) k104_2)
def k104_4 : ACode := .seq (.region r104_1) (.cond (T 3) (.seq (.region r104_2) .ret) k104_3)
def r104_27 : LO := [o 2 (mi 0)]
def k104_5 : ACode := .seq (.region r104_0) (.seq (.block 0 k104_4) (.seq (.region r104_27) .ret))
theorem fn104 : getFn Tryz.prog 104 = some (27, k104_5, [.tmp 2]) := by kernel_rfl
def r50_0 : LO := [o 2 (.mv (.c .nil)), o 3 (mb false)]
def r50_1 : LO := [o 8 (mv 0), o 9 (.bin .eql (T 8) (.c aE)), o 10 (mv 9), og 11 (mv 0) 10 false, og 12 (.idxS (T 11) (ci 0)) 10 false, og 13 (.bin .neq (T 12) (.c (aC 47))) 10 false, o 14 (.pick (T 10) (cb true) (T 13))]
def r50_2 : LO := [o 2 (.mv (.c .nil)), o 3 (mb false)]
def k50_1 : ACode := .seq (.region r50_1) (.cond (T 14) (.seq (.region r50_2) .ret) .skip)
def r50_8 : LO := [o 15 (mv 0), o 16 (.bytes (T 15)), o 4 (mv 16)]
def r50_9 : LO := [o 5 (.mv (.c .nil))]
def r50_10 : LO := [o 6 (mi 1)]
def r50_11 : LO := [o 7 (mi 1)]
def r50_12 : LO := [o 17 (mv 7), o 18 (mv 4), o 19 (.len false (T 18)), o 20 (.bin .leq (T 17) (T 19))]
def r50_17 : LO := [o 23 (mv 7), o 24 (mv 4), o 25 (.len false (T 24)), o 26 (.bin .eql (T 23) (T 25)), o 27 (mv 26), og 28 (mv 4) 27 false, og 29 (mv 7) 27 false, og 30 (.idxSl 1 (T 28) (T 29)) 27 false, og 31 (ld 30) 27 false, og 32 (.bin .eql (T 31) (.c (aC 47))) 27 false, o 33 (.pick (T 27) (cb true) (T 32))]
def r50_18 : LO := [o 34 (mv 5), o 35 (mv 4), o 36 (mv 6), o 37 (mv 7), o 38 (mv 7), o 39 (.sliceV 1 (T 35) (some (T 36)) (some (T 37)) (some (T 38))), o 40 (.conv .str (T 39)), o 41 (.sliceLit 1 1 [aE] [((0, 1), (T 40))]), o 42 (.append 9 1 16 (T 34) (T 41)), o 5 (mv 42)]
def r50_19 : LO := [o 43 (mv 7), o 44 (.bin .add (T 43) (ci 1)), o 6 (mv 44)]
def k50_2 : ACode := .seq (.region r50_17) (.cond (T 33) (.seq (.region r50_18) (.region r50_19)) .skip)
def r50_25 : LO := [o 21 (mv 7), o 22 (.bin .add (T 21) (ci 1)), o 7 (mv 22)]
def k50_3 : ACode := .seq (.seq (.region r50_12) (.cond (T 20) .skip (.exit 0))) (.seq (.block 1 k50_2) (.region r50_25))
def r50_31 : LO := [o 45 (mv 5), o 2 (mv 45), o 3 (mb true)]
def k50_4 : ACode := .seq (.seq (.region r50_11) (.block 0 (.loop k50_3))) (.seq (.region r50_31) .ret)
def k50_5 : ACode := .seq (.region r50_8) (.seq (.region r50_9) (.seq (.region r50_10) k50_4))
def k50_6 : ACode := .seq (.region r50_0) (.seq k50_1 k50_5)
theorem fn50 : getFn Tryz.prog 50 = some (46, k50_6, [.tmp 2, .tmp 3]) := by kernel_rfl
def r44_0 : LO := [o 4 (mb false)]
def r44_1 : LO := [o 5 (mv 0), o 6 (mv 1), o 7 (.call (cf 96) [(T 5), (T 6)]), o 8 (.bin .geq (T 7) (ci 0)), o 4 (mv 8)]
def k44_1 : ACode := .seq (.region r44_0) (.seq (.region r44_1) .ret)
theorem fn44 : getFn Tryz.prog 44 = some (9, k44_1, [.tmp 4]) := by kernel_rfl
def r96_0 : LO := [o 4 (mi 0)]
def r96_1 : LO := [o 6 (mv 0), o 7 (.len false (T 6)), o 8 (mi 0)]
def r96_2 : LO := [o 9 (.bin .lss (T 8) (T 7))]
def r96_6 : LO := [o 10 (mv 8), o 5 (mv 10)]
def r96_7 : LO := [o 11 (mv 1), o 12 (mv 0), o 13 (mv 5), o 14 (.idxSl 5 (T 12) (T 13)), o 15 (ln 5 14), o 16 (.call (T 11) [(T 15)])]
def r96_8 : LO := [o 17 (mv 5), o 4 (mv 17)]
def k96_1 : ACode := .seq (.region r96_7) (.cond (T 16) (.seq (.region r96_8) .ret) .skip)
def r96_16 : LO := [o 18 (.bin .add (T 8) (ci 1)), o 8 (mv 18)]
def k96_2 : ACode := .seq (.block 1 (.seq (.region r96_6) k96_1)) (.region r96_16)
def k96_3 : ACode := .seq (.region r96_2) (.seq (.cond (T 9) .skip (.exit 0)) k96_2)
def r96_23 : LO := [o 4 (mi (-1))]
def k96_4 : ACode := .seq (.seq (.region r96_1) (.block 0 (.loop k96_3))) (.seq (.region r96_23) .ret)
def k96_5 : ACode := .seq (.region r96_0) k96_4
theorem fn96 : getFn Tryz.prog 96 = some (19, k96_5, [.tmp 4]) := by kernel_rfl
def r33_0 : LO := [o 2 (bx 0), o 3 (bx 1), o 4 (mi 0)]
def r33_1 : LO := [o 13 (fa 1 3), o 14 (ld 13), o 15 (.call (cf 49) [(T 14)]), o 12 (mv 15), o 16 (.extract 0 (T 12)), o 17 (.extract 1 (T 12)), o 5 (mv 16), o 6 (mv 17)]
def r33_2 : LO := [o 18 (mv 6), o 19 (.un .not (T 18)), o 20 (mv 19), og 21 (.sliceLit 1 5 [aE, aE, aE, aE, aE] [((0, 1), (.c (aS ⟨#[71, 69, 84]⟩))), ((1, 1), (.c (aS ⟨#[80, 85, 84]⟩))), ((2, 1), (.c (aS ⟨#[80, 79, 83, 84]⟩))), ((3, 1), (.c (aS ⟨#[80, 65, 84, 67, 72]⟩))), ((4, 1), (.c (aS ⟨#[68, 69, 76, 69, 84, 69]⟩)))]) 20 false, og 22 (fa 0 3) 20 false, og 23 (ld 22) 20 false, og 24 (.call (cf 59) [(T 21), (T 23)]) 20 false, og 25 (.un .not (T 24)) 20 false, o 26 (.pick (T 20) (cb true) (T 25))]
def r33_3 : LO := [o 4 (mi 2)]
def k33_1 : ACode := .seq (.region r33_2) (.cond (T 26) (.seq (.region r33_3) .ret) .skip)
def r33_10 : LO := [o 28 (ln 3 2), o 29 (fa 2 3), o 30 (ld 29), o 31 (fa 3 3), o 32 (ld 31), o 33 (.call (cf 31) [(T 30), (T 32)]), o 34 (.call (cf 32) [(T 28), (T 33)]), o 27 (mv 34), o 35 (.extract 0 (T 27)), o 36 (.extract 1 (T 27)), o 7 (.alloc [aE, aE, aE, (aI 0), .nil]), on (st 5 7 35)]
def r33_10t : LO := [o 8 (mv 36)]
def r33_10o : LN := [[], [], [1], [], [3], [2, 4], [0, 5], [6], [7], [7], [], [0, 1, 2, 3, 4, 5, 6, 7, 8, 10]]
def r33_11 : LO := [o 37 (mv 8), o 38 (.bin .neq (T 37) (ci 0))]
def r33_12 : LO := [o 39 (mv 8), o 4 (mv 39)]
def k33_2 : ACode := .seq (.region r33_11) (.cond (T 38) (.seq (.region r33_12) .ret) .skip)
def r33_18 : LO := [o 40 (fa 3 7), o 41 (ld 40), o 42 (.bin .neq (T 41) (ci 1))]
def r33_19 : LO := [o 4 (mi 12)]
def k33_3 : ACode := .seq (.region r33_18) (.cond (T 42) (.seq (.region r33_19) .ret) .skip)
def r33_25 : LO := [o 44 (ln 3 2), o 45 (fa 1 7), o 46 (ld 45), o 47 (ln 5 3), o 48 (.call (cf 60) [(T 44), (T 46), (T 47)]), o 43 (mv 48), o 49 (.extract 0 (T 43)), o 50 (.extract 1 (T 43)), o 9 (mv 49), o 8 (mv 50)]
def r33_26 : LO := [o 51 (mv 8), o 52 (.bin .neq (T 51) (ci 0))]
def r33_27 : LO := [o 53 (mv 8), o 4 (mv 53)]
def k33_4 : ACode := .seq (.region r33_26) (.cond (T 52) (.seq (.region r33_27) .ret) .skip)
def r33_33 : LO := [o 55 (ln 3 2), o 56 (fa 1 7), o 57 (ld 56), o 58 (ln 5 3), o 59 (.call (cf 61) [(T 55), (T 57), (T 58)]), o 54 (mv 59), o 60 (.extract 0 (T 54)), o 61 (.extract 1 (T 54)), o 10 (.alloc [(aI 0), aE, (aI 0), (aI 0), (aI 0), aE, aE, (aB false), (aI 0), (aU 0), aE, .nil, .nil, .nil, .nil, .nil]), on (st 16 10 60), o 11 (mv 61)]
def r33_34 : LO := [o 62 (mv 11), o 63 (.un .not (T 62)), o 64 (mv 63), og 65 (fa 4 3) 64 true, og 66 (ld 65) 64 true, og 67 (.bin .neq (T 66) (.c aE)) 64 true, o 68 (.pick (T 64) (T 67) (cb false)), o 69 (mv 68), og 70 (fa 4 3) 69 true, og 71 (ld 70) 69 true, og 72 (.bin .neq (T 71) (.c (aS ⟨#[42]⟩))) 69 true, o 73 (.pick (T 69) (T 72) (cb false))]
def r33_35 : LO := [o 4 (mi 8)]
def k33_5 : ACode := .seq (.region r33_34) (.cond (T 73) (.seq (.region r33_35) .ret) .skip)
def r33_41 : LO := [o 74 (mv 11), o 75 (mv 74), og 76 (mv 9) 75 true, og 77 (.func (.func 63) [] [(T 10)]) 75 true, og 78 (.call (cf 62) [(T 76), (T 77)]) 75 true, o 79 (.pick (T 75) (T 78) (cb false))]
def r33_42 : LO := [o 4 (mi 9)]
def k33_6 : ACode := .seq (.region r33_41) (.cond (T 79) (.seq (.region r33_42) .ret) .skip)
def r33_48 : LO := [o 4 (mi 0)]
def k33_7 : ACode := .seq (.region r33_33) (.seq k33_5 (.seq k33_6 (.seq (.region r33_48) .ret)))
def k33_8 : ACode := .seq k33_2 (.seq k33_3 (.seq (.region r33_25) (.seq k33_4 k33_7)))
def k33_9 : ACode := .seq (.seq (.region r33_1) k33_1) (.seq (.drawn r33_10o r33_10 r33_10t) k33_8)
def k33_10 : ACode := .seq (.region r33_0) k33_9
theorem fn33 : getFn Tryz.prog 33 = some (80, k33_10, [.tmp 4]) := by kernel_rfl
def r62_0 : LO := [o 4 (mb false)]
def r62_1 : LO := [o 5 (mv 0), o 6 (mv 1), o 7 (.call (cf 114) [(T 5), (T 6)]), o 8 (.bin .geq (T 7) (ci 0)), o 4 (mv 8)]
def k62_1 : ACode := .seq (.region r62_0) (.seq (.region r62_1) .ret)
theorem fn62 : getFn Tryz.prog 62 = some (9, k62_1, [.tmp 4]) := by kernel_rfl
def r114_0 : LO := [o 4 (mi 0)]
def r114_1 : LO := [o 6 (mv 0), o 7 (.len false (T 6)), o 8 (mi 0)]
def r114_2 : LO := [o 9 (.bin .lss (T 8) (T 7))]
def r114_6 : LO := [o 10 (mv 8), o 5 (mv 10)]
def r114_7 : LO := [o 11 (mv 1), o 12 (mv 0), o 13 (mv 5), o 14 (.idxSl 1 (T 12) (T 13)), o 15 (ld 14), o 16 (.call (T 11) [(T 15)])]
def r114_8 : LO := [o 17 (mv 5), o 4 (mv 17)]
def k114_1 : ACode := .seq (.region r114_7) (.cond (T 16) (.seq (.region r114_8) .ret) .skip)
def r114_16 : LO := [o 18 (.bin .add (T 8) (ci 1)), o 8 (mv 18)]
def k114_2 : ACode := .seq (.block 1 (.seq (.region r114_6) k114_1)) (.region r114_16)
def k114_3 : ACode := .seq (.region r114_2) (.seq (.cond (T 9) .skip (.exit 0)) k114_2)
def r114_23 : LO := [o 4 (mi (-1))]
def k114_4 : ACode := .seq (.seq (.region r114_1) (.block 0 (.loop k114_3))) (.seq (.region r114_23) .ret)
def k114_5 : ACode := .seq (.region r114_0) k114_4
theorem fn114 : getFn Tryz.prog 114 = some (19, k114_5, [.tmp 4]) := by kernel_rfl
def r61_0 : LO := [o 3 (bx 0), o 5 (bx 2), o 6 (.alloc [(aI 0), aE, (aI 0), (aI 0), (aI 0), aE, aE, (aB false), (aI 0), (aU 0), aE, .nil, .nil, .nil, .nil, .nil]), o 7 (mb false)]
def r61_1 : LO := [o 12 (fa 4 5), o 13 (ld 12), o 14 (.bin .eql (T 13) (.c aE)), o 15 (mv 14), og 16 (fa 4 5) 15 false, og 17 (ld 16) 15 false, og 18 (.bin .eql (T 17) (.c (aS ⟨#[42]⟩))) 15 false, o 19 (.pick (T 15) (cb true) (T 18))]
def r61_2 : LO := [o 20 (.build [(aI 0), aE, (aI 0), (aI 0), (aI 0), aE, aE, (aB false), (aI 0), (aU 0), aE, .nil, .nil, .nil, .nil, .nil] []), on (st 16 6 20), o 7 (mb false)]
def k61_1 : ACode := .seq (.region r61_1) (.cond (T 19) (.seq (.region r61_2) .ret) .skip)
def r61_8 : LO := [o 22 (ln 3 3), o 23 (mv 1), o 24 (.call (cf 74) [(T 22), (T 23)]), o 21 (mv 24), o 25 (.extract 0 (T 21)), o 26 (.extract 1 (T 21)), o 8 (.alloc [aE, .nil, .nil, .nil, .nil]), on (st 5 8 25), o 9 (mv 26)]
def r61_9 : LO := [o 28 (ln 5 8), o 29 (fa 4 5), o 30 (ld 29), o 31 (.call (cf 113) [(T 28), (T 30)]), o 27 (mv 31), o 32 (.extract 0 (T 27)), o 33 (.extract 1 (T 27)), o 10 (.alloc [(aI 0), aE, (aI 0), (aI 0), (aI 0), aE, aE, (aB false), (aI 0), (aU 0), aE, .nil, .nil, .nil, .nil, .nil]), on (st 16 10 32), o 11 (mv 33)]
def r61_10 : LO := [o 34 (ln 16 10), o 35 (mv 11), o 36 (mv 35), og 37 (fa 4 10) 36 true, og 38 (fa 0 37) 36 true, og 39 (ld 38) 36 true, og 40 (.bin .eql (T 39) (ci 10)) 36 true, o 41 (.pick (T 36) (T 40) (cb false)), o 42 (mv 41), og 43 (fa 2 10) 42 true, og 44 (ld 43) 42 true, og 45 (.bin .eql (T 44) (ci 1)) 42 true, og 46 (mv 45) 42 true, og 47 (fa 2 10) 46 false, og 48 (ld 47) 46 false, og 49 (.bin .eql (T 48) (ci 2)) 46 false, og 50 (.pick (T 46) (cb true) (T 49)) 42 true, o 51 (.pick (T 42) (T 50) (cb false)), on (st 16 6 34)]
def r61_10t : LO := [o 7 (mv 51)]
def r61_10o : LN := [[], [], [1], [2], [2, 3], [2, 4], [2, 5], [2, 6], [2, 7], [8], [8, 9], [8, 10], [8, 11], [12], [12, 13], [12, 14], [8, 12, 15], [8, 16], [0, 12]]
def k61_2 : ACode := .seq (.region r61_9) (.seq (.drawn r61_10o r61_10 r61_10t) .ret)
def k61_3 : ACode := .seq (.region r61_0) (.seq k61_1 (.seq (.region r61_8) k61_2))
theorem fn61 : getFn Tryz.prog 61 = some (52, k61_3, [.cell 6 (some 16), .tmp 7]) := by kernel_rfl
def r113_0 : LO := [o 2 (bx 0), o 3 (bx 1), o 4 (.alloc [(aI 0), aE, (aI 0), (aI 0), (aI 0), aE, aE, (aB false), (aI 0), (aU 0), aE, .nil, .nil, .nil, .nil, .nil]), o 5 (mb false)]
def r113_1 : LO := [o 9 (fa 1 2), o 10 (ld 9), o 11 (.func (.func 161) [] [(T 3)]), o 12 (.call (cf 135) [(T 10), (T 11)]), o 8 (mv 12), o 13 (.extract 0 (T 8)), o 14 (.extract 1 (T 8)), o 6 (.alloc [(aI 0), aE, (aI 0), (aI 0), (aI 0), aE, aE, (aB false), (aI 0), (aU 0), aE, .nil, .nil, .nil, .nil, .nil]), on (st 16 6 13), o 7 (mv 14)]
def r113_2 : LO := [o 15 (mv 7)]
def r113_3 : LO := [o 16 (ln 16 6), on (st 16 4 16), o 5 (mb true)]
def k113_1 : ACode := .seq (.region r113_2) (.cond (T 15) (.seq (.region r113_3) .ret) .skip)
def r113_10 : LO := [o 17 (fa 1 2), o 18 (ld 17), o 19 (.func (.func 162) [] [(T 3)]), o 20 (.call (cf 135) [(T 18), (T 19)]), o 21 (.extract 0 (T 20)), o 22 (.extract 1 (T 20)), on (st 16 4 21), o 5 (mv 22)]
def k113_2 : ACode := .seq (.seq (.region r113_1) k113_1) (.seq (.region r113_10) .ret)
def k113_3 : ACode := .seq (.region r113_0) k113_2
theorem fn113 : getFn Tryz.prog 113 = some (23, k113_3, [.cell 4 (some 16), .tmp 5]) := by kernel_rfl
def r150_0 : LO := [o 4 (.alloc zV), o 5 (mb false)]
def r150_1 : LO := [o 7 (mv 0), o 8 (mv 1), o 9 (.call (cf 212) [(T 7), (T 8)]), o 6 (mv 9)]
def r150_2 : LO := [o 10 (mv 6), o 11 (.bin .lss (T 10) (ci 0))]
def r150_3 : LO := [o 12 (.build zV []), on (st 7 4 12), o 5 (mb false)]
def k150_1 : ACode := .seq (.region r150_2) (.cond (T 11) (.seq (.region r150_3) .ret) .skip)
def r150_9 : LO := [o 13 (mv 0), o 14 (mv 6), o 15 (.idxSl 8 (T 13) (T 14)), o 16 (fa 1 15), o 17 (ln 7 16), on (st 7 4 17), o 5 (mb true)]
def k150_2 : ACode := .seq (.region r150_1) (.seq k150_1 (.seq (.region r150_9) .ret))
def k150_3 : ACode := .seq (.region r150_0) k150_2
theorem fn150 : getFn Tryz.prog 150 = some (18, k150_3, [.cell 4 (some 7), .tmp 5]) := by kernel_rfl
def r212_0 : LO := [o 3 (bx 1), o 4 (mi 0)]
def r212_1 : LO := [o 5 (mv 0), o 6 (.func (.func 283) [] [(T 3)]), o 7 (.call (cf 282) [(T 5), (T 6)]), o 4 (mv 7)]
def k212_1 : ACode := .seq (.region r212_0) (.seq (.region r212_1) .ret)
theorem fn212 : getFn Tryz.prog 212 = some (8, k212_1, [.tmp 4]) := by kernel_rfl
def r282_0 : LO := [o 4 (mi 0)]
def r282_1 : LO := [o 6 (mv 0), o 7 (.len false (T 6)), o 8 (mi 0)]
def r282_2 : LO := [o 9 (.bin .lss (T 8) (T 7))]
def r282_6 : LO := [o 10 (mv 8), o 5 (mv 10)]
def r282_7 : LO := [o 11 (mv 1), o 12 (mv 0), o 13 (mv 5), o 14 (.idxSl 8 (T 12) (T 13)), o 15 (ln 8 14), o 16 (.call (T 11) [(T 15)])]
def r282_8 : LO := [o 17 (mv 5), o 4 (mv 17)]
def k282_1 : ACode := .seq (.region r282_7) (.cond (T 16) (.seq (.region r282_8) .ret) .skip)
def r282_16 : LO := [o 18 (.bin .add (T 8) (ci 1)), o 8 (mv 18)]
def k282_2 : ACode := .seq (.block 1 (.seq (.region r282_6) k282_1)) (.region r282_16)
def k282_3 : ACode := .seq (.region r282_2) (.seq (.cond (T 9) .skip (.exit 0)) k282_2)
def r282_23 : LO := [o 4 (mi (-1))]
def k282_4 : ACode := .seq (.seq (.region r282_1) (.block 0 (.loop k282_3))) (.seq (.region r282_23) .ret)
def k282_5 : ACode := .seq (.region r282_0) k282_4
theorem fn282 : getFn Tryz.prog 282 = some (19, k282_5, [.tmp 4]) := by kernel_rfl
def r161_0 : LO := [o 2 (bx 0), o 3 (mb false)]
def r161_1 : LO := [o 4 (fa 1 2), o 5 (ld 4), o 6 (ld 1), o 7 (.bin .eql (T 5) (T 6)), o 3 (mv 7)]
def k161_1 : ACode := .seq (.region r161_0) (.seq (.region r161_1) .ret)
theorem fn161 : getFn Tryz.prog 161 = some (8, k161_1, [.tmp 3]) := by kernel_rfl
def r135_0 : LO := [o 4 (.alloc [(aI 0), aE, (aI 0), (aI 0), (aI 0), aE, aE, (aB false), (aI 0), (aU 0), aE, .nil, .nil, .nil, .nil, .nil]), o 5 (mb false)]
def r135_1 : LO := [o 9 (mv 0), o 10 (.len false (T 9)), o 11 (mi 0)]
def r135_2 : LO := [o 12 (.bin .lss (T 11) (T 10))]
def r135_6 : LO := [o 13 (.idxSl 16 (T 9) (T 11)), o 14 (ln 16 13), o 7 (.alloc [(aI 0), aE, (aI 0), (aI 0), (aI 0), aE, aE, (aB false), (aI 0), (aU 0), aE, .nil, .nil, .nil, .nil, .nil]), on (st 16 7 14)]
def r135_7 : LO := [o 15 (mv 1), o 16 (ln 16 7), o 17 (.call (T 15) [(T 16)])]
def r135_8 : LO := [o 18 (ln 16 7), on (st 16 4 18), o 5 (mb true)]
def k135_1 : ACode := .seq (.region r135_7) (.cond (T 17) (.seq (.region r135_8) .ret) .skip)
def r135_16 : LO := [o 19 (.bin .add (T 11) (ci 1)), o 11 (mv 19)]
def k135_2 : ACode := .seq (.block 1 (.seq (.region r135_6) k135_1)) (.region r135_16)
def k135_3 : ACode := .seq (.region r135_2) (.seq (.cond (T 12) .skip (.exit 0)) k135_2)
def r135_23 : LO := [o 8 (.alloc [(aI 0), aE, (aI 0), (aI 0), (aI 0), aE, aE, (aB false), (aI 0), (aU 0), aE, .nil, .nil, .nil, .nil, .nil])]
def r135_24 : LO := [o 20 (ln 16 8), on (st 16 4 20), o 5 (mb false)]
def k135_4 : ACode := .seq (.seq (.region r135_1) (.block 0 (.loop k135_3))) (.seq (.region r135_23) (.seq (.region r135_24) .ret))
def k135_5 : ACode := .seq (.region r135_0) k135_4
theorem fn135 : getFn Tryz.prog 135 = some (21, k135_5, [.cell 4 (some 16), .tmp 5]) := by kernel_rfl
def r74_0 : LO := [o 2 (bx 0), o 3 (bx 1), o 4 (.alloc [aE, .nil, .nil, .nil, .nil]), o 5 (mb false)]
def r74_1 : LO := [o 6 (fa 0 2), o 7 (ld 6), o 8 (.func (.func 126) [] [(T 3)]), o 9 (.call (cf 125) [(T 7), (T 8)]), o 10 (.extract 0 (T 9)), o 11 (.extract 1 (T 9)), on (st 5 4 10), o 5 (mv 11)]
def k74_1 : ACode := .seq (.region r74_0) (.seq (.region r74_1) .ret)
theorem fn74 : getFn Tryz.prog 74 = some (12, k74_1, [.cell 4 (some 5), .tmp 5]) := by kernel_rfl
def r126_0 : LO := [o 2 (bx 0), o 3 (mb false)]
def r126_1 : LO := [o 4 (fa 0 2), o 5 (ld 4), o 6 (ld 1), o 7 (.bin .eql (T 5) (T 6)), o 3 (mv 7)]
def k126_1 : ACode := .seq (.region r126_0) (.seq (.region r126_1) .ret)
theorem fn126 : getFn Tryz.prog 126 = some (8, k126_1, [.tmp 3]) := by kernel_rfl
def r125_0 : LO := [o 4 (.alloc [aE, .nil, .nil, .nil, .nil]), o 5 (mb false)]
def r125_1 : LO := [o 9 (mv 0), o 10 (.len false (T 9)), o 11 (mi 0)]
def r125_2 : LO := [o 12 (.bin .lss (T 11) (T 10))]
def r125_6 : LO := [o 13 (.idxSl 5 (T 9) (T 11)), o 14 (ln 5 13), o 7 (.alloc [aE, .nil, .nil, .nil, .nil]), on (st 5 7 14)]
def r125_7 : LO := [o 15 (mv 1), o 16 (ln 5 7), o 17 (.call (T 15) [(T 16)])]
def r125_8 : LO := [o 18 (ln 5 7), on (st 5 4 18), o 5 (mb true)]
def k125_1 : ACode := .seq (.region r125_7) (.cond (T 17) (.seq (.region r125_8) .ret) .skip)
def r125_16 : LO := [o 19 (.bin .add (T 11) (ci 1)), o 11 (mv 19)]
def k125_2 : ACode := .seq (.block 1 (.seq (.region r125_6) k125_1)) (.region r125_16)
def k125_3 : ACode := .seq (.region r125_2) (.seq (.cond (T 12) .skip (.exit 0)) k125_2)
def r125_23 : LO := [o 8 (.alloc [aE, .nil, .nil, .nil, .nil])]
def r125_24 : LO := [o 20 (ln 5 8), on (st 5 4 20), o 5 (mb false)]
def k125_4 : ACode := .seq (.seq (.region r125_1) (.block 0 (.loop k125_3))) (.seq (.region r125_23) (.seq (.region r125_24) .ret))
def k125_5 : ACode := .seq (.region r125_0) k125_4
theorem fn125 : getFn Tryz.prog 125 = some (21, k125_5, [.cell 4 (some 5), .tmp 5]) := by kernel_rfl
def r60_0 : LO := [o 3 (bx 0), o 5 (bx 2), o 6 (.mv (.c .nil)), o 7 (mi 0)]
def r60_1 : LO := [o 8 (.mv (.c .nil))]
def r60_2 : LO := [o 15 (fa 1 5), o 16 (ld 15), o 17 (.call (cf 109) [(T 16)]), o 18 (.len false (T 17)), o 19 (mi 0)]
def r60_3 : LO := [o 20 (.bin .lss (T 19) (T 18))]
def r60_7 : LO := [o 21 (.idxSl 1 (T 17) (T 19)), o 22 (ld 21), o 10 (mv 22)]
def r60_8 : LO := [o 24 (ln 3 3), o 25 (mv 1), o 26 (mv 10), o 27 (.call (cf 67) [(T 24), (T 25), (T 26)]), o 23 (mv 27), o 28 (.extract 0 (T 23)), o 29 (.extract 1 (T 23)), o 11 (mv 28), o 12 (mv 29)]
def r60_9 : LO := [o 30 (mv 12), o 31 (.bin .neq (T 30) (ci 0))]
def r60_10 : LO := [o 32 (mv 12), o 6 (.mv (.c .nil)), o 7 (mv 32)]
def k60_1 : ACode := .seq (.region r60_9) (.cond (T 31) (.seq (.region r60_10) .ret) .skip)
def r60_16 : LO := [o 33 (mv 11), o 34 (mv 11), o 35 (.len false (T 34)), o 36 (.bin .sub (T 35) (ci 1)), o 37 (.idxSl 16 (T 33) (T 36)), o 38 (ln 16 37), o 13 (.alloc [(aI 0), aE, (aI 0), (aI 0), (aI 0), aE, aE, (aB false), (aI 0), (aU 0), aE, .nil, .nil, .nil, .nil, .nil]), on (st 16 13 38)]
def r60_17 : LO := [o 39 (ln 16 13), o 40 (.call (cf 110) [(T 39)]), o 41 (.un .not (T 40)), o 42 (mv 41), og 43 (ln 16 13) 42 false, og 44 (.call (cf 72) [(T 43)]) 42 false, og 45 (.un .not (T 44)) 42 false, o 46 (.pick (T 42) (cb true) (T 45)), o 47 (mv 46), og 48 (fa 4 5) 47 false, og 49 (ld 48) 47 false, og 50 (.bin .eql (T 49) (.c (aS ⟨#[42]⟩))) 47 false, og 51 (mv 50) 47 false, og 52 (fa 2 13) 51 true, og 53 (ld 52) 51 true, og 54 (.bin .eql (T 53) (ci 1)) 51 true, og 55 (.pick (T 51) (T 54) (cb false)) 47 false, o 56 (.pick (T 47) (cb true) (T 55))]
def r60_18 : LO := [o 6 (.mv (.c .nil)), o 7 (mi 12)]
def k60_2 : ACode := .seq (.region r60_17) (.cond (T 56) (.seq (.region r60_18) .ret) .skip)
def r60_24 : LO := [o 57 (mv 11), o 58 (.call (cf 68) [(T 57)]), o 14 (.alloc [.nil]), on (st 1 14 58)]
def r60_25 : LO := [o 59 (mv 8), o 60 (.func (.func 111) [] [(T 14)]), o 61 (.call (cf 62) [(T 59), (T 60)])]
def r60_26 : LO := [o 6 (.mv (.c .nil)), o 7 (mi 9)]
def k60_3 : ACode := .seq (.region r60_25) (.cond (T 61) (.seq (.region r60_26) .ret) .skip)
def r60_32 : LO := [o 62 (mv 8), o 63 (ld 14), o 64 (.sliceLit 1 1 [.nil] [((0, 1), (T 63))]), o 65 (.append 144 1 24 (T 62) (T 64)), o 8 (mv 65)]
def k60_4 : ACode := .seq k60_2 (.seq (.region r60_24) (.seq k60_3 (.region r60_32)))
def k60_5 : ACode := .seq (.region r60_8) (.seq k60_1 (.seq (.region r60_16) k60_4))
def r60_41 : LO := [o 66 (.bin .add (T 19) (ci 1)), o 19 (mv 66)]
def k60_6 : ACode := .seq (.block 1 (.seq (.region r60_7) k60_5)) (.region r60_41)
def k60_7 : ACode := .seq (.region r60_3) (.seq (.cond (T 20) .skip (.exit 0)) k60_6)
def r60_48 : LO := [o 67 (mv 8), o 6 (mv 67), o 7 (mi 0)]
def k60_8 : ACode := .seq (.seq (.region r60_2) (.block 0 (.loop k60_7))) (.seq (.region r60_48) .ret)
def k60_9 : ACode := .seq (.region r60_0) (.seq (.region r60_1) k60_8)
theorem fn60 : getFn Tryz.prog 60 = some (68, k60_9, [.tmp 6, .tmp 7]) := by kernel_rfl
def r110_0 : LO := [o 1 (bx 0), o 2 (mb false)]
def r110_1 : LO := [o 3 (fa 2 1), o 4 (ld 3), o 5 (.bin .geq (T 4) (ci 1)), o 6 (mv 5), og 7 (fa 2 1) 6 true, og 8 (ld 7) 6 true, og 9 (.bin .leq (T 8) (ci 3)) 6 true, o 10 (.pick (T 6) (T 9) (cb false)), o 2 (mv 10)]
def k110_1 : ACode := .seq (.region r110_0) (.seq (.region r110_1) .ret)
theorem fn110 : getFn Tryz.prog 110 = some (11, k110_1, [.tmp 2]) := by kernel_rfl
def r109_0 : LO := [o 2 (.mv (.c .nil))]
def r109_1 : LO := [o 11 (mv 0), o 12 (.call (cf 49) [(T 11)]), o 10 (mv 12), o 13 (.extract 0 (T 10)), o 14 (.extract 1 (T 10)), o 3 (mv 13), o 4 (mv 14)]
def r109_2 : LO := [o 5 (.mv (.c .nil))]
def r109_3 : LO := [o 15 (mv 3), o 16 (.len false (T 15)), o 17 (mi 0)]
def r109_4 : LO := [o 18 (.bin .lss (T 17) (T 16))]
def r109_8 : LO := [o 19 (.idxSl 1 (T 15) (T 17)), o 20 (ld 19), o 7 (mv 20)]
def r109_9 : LO := [o 22 (mv 7), o 23 (.call (cf 51) [(T 22)]), o 21 (mv 23), o 24 (.extract 0 (T 21)), o 25 (.extract 1 (T 21)), o 8 (mv 24), o 9 (mv 25)]
def r109_10 : LO := [o 26 (mv 9)]
def r109_11 : LO := [o 27 (mv 5), o 28 (mv 8), o 29 (.sliceLit 1 1 [aE] [((0, 1), (T 28))]), o 30 (.append 9 1 16 (T 27) (T 29)), o 5 (mv 30)]
def k109_1 : ACode := .seq (.region r109_10) (.cond (T 26) (.region r109_11) .skip)
def k109_2 : ACode := .block 1 (.seq (.region r109_8) (.seq (.region r109_9) k109_1))
def r109_18 : LO := [o 31 (.bin .add (T 17) (ci 1)), o 17 (mv 31)]
def k109_3 : ACode := .seq (.cond (T 18) .skip (.exit 0)) (.seq k109_2 (.region r109_18))
def k109_4 : ACode := .seq (.region r109_4) k109_3
def r109_25 : LO := [o 32 (mv 5), o 2 (mv 32)]
def k109_5 : ACode := .seq (.seq (.region r109_3) (.block 0 (.loop k109_4))) (.seq (.region r109_25) .ret)
def k109_6 : ACode := .seq (.region r109_0) (.seq (.region r109_1) (.seq (.region r109_2) k109_5))
theorem fn109 : getFn Tryz.prog 109 = some (33, k109_6, [.tmp 2]) := by kernel_rfl
def r72_0 : LO := [o 1 (bx 0), o 2 (mb false)]
def r72_1 : LO := [o 3 (fa 4 1), o 4 (fa 0 3), o 5 (ld 4), o 6 (.call (cf 124) [(T 5)]), o 7 (mv 6), og 8 (fa 4 1) 7 true, og 9 (fa 0 8) 7 true, og 10 (ld 9) 7 true, og 11 (.bin .neq (T 10) (ci 6)) 7 true, o 12 (.pick (T 7) (T 11) (cb false)), o 2 (mv 12)]
def k72_1 : ACode := .seq (.region r72_0) (.seq (.region r72_1) .ret)
theorem fn72 : getFn Tryz.prog 72 = some (13, k72_1, [.tmp 2]) := by kernel_rfl
def r124_0 : LO := [o 2 (mb false)]
def r124_1 : LO := [o 3 (mv 0), o 4 (.bin .geq (T 3) (ci 1)), o 5 (mv 4), og 6 (mv 0) 5 true, og 7 (.bin .leq (T 6) (ci 9)) 5 true, o 8 (.pick (T 5) (T 7) (cb false)), o 2 (mv 8)]
def k124_1 : ACode := .seq (.region r124_0) (.seq (.region r124_1) .ret)
theorem fn124 : getFn Tryz.prog 124 = some (9, k124_1, [.tmp 2]) := by kernel_rfl
def r68_0 : LO := [o 2 (.mv (.c .nil))]
def r68_1 : LO := [o 3 (.mv (.c .nil))]
def r68_2 : LO := [o 6 (mv 0), o 7 (.len false (T 6)), o 8 (mi 0)]
def r68_3 : LO := [o 9 (.bin .lss (T 8) (T 7))]
def r68_7 : LO := [o 10 (.idxSl 16 (T 6) (T 8)), o 11 (ln 16 10), o 5 (.alloc [(aI 0), aE, (aI 0), (aI 0), (aI 0), aE, aE, (aB false), (aI 0), (aU 0), aE, .nil, .nil, .nil, .nil, .nil]), on (st 16 5 11)]
def r68_8 : LO := [o 12 (mv 3), o 13 (fa 0 5), o 14 (ld 13), o 15 (.sliceLit 1 1 [(aI 0)] [((0, 1), (T 14))]), o 16 (.append 3 1 8 (T 12) (T 15)), o 3 (mv 16)]
def r68_11 : LO := [o 17 (.bin .add (T 8) (ci 1)), o 8 (mv 17)]
def k68_1 : ACode := .seq (.block 1 (.seq (.region r68_7) (.region r68_8))) (.region r68_11)
def k68_2 : ACode := .seq (.region r68_3) (.seq (.cond (T 9) .skip (.exit 0)) k68_1)
def r68_18 : LO := [o 18 (mv 3), o 2 (mv 18)]
def k68_3 : ACode := .seq (.seq (.region r68_2) (.block 0 (.loop k68_2))) (.seq (.region r68_18) .ret)
def k68_4 : ACode := .seq (.region r68_0) (.seq (.region r68_1) k68_3)
theorem fn68 : getFn Tryz.prog 68 = some (19, k68_4, [.tmp 2]) := by kernel_rfl
def r67_0 : LO := [o 3 (bx 0), o 6 (.mv (.c .nil)), o 7 (mi 0)]
def r67_1 : LO := [o 16 (mv 2), o 17 (.bin .eql (T 16) (.c aE))]
def r67_2 : LO := [o 6 (.mv (.c .nil)), o 7 (mi 1)]
def k67_1 : ACode := .seq (.region r67_1) (.cond (T 17) (.seq (.region r67_2) .ret) .skip)
def r67_8 : LO := [o 19 (ln 3 3), o 20 (mv 1), o 21 (.call (cf 74) [(T 19), (T 20)]), o 18 (mv 21), o 22 (.extract 0 (T 18)), o 23 (.extract 1 (T 18)), o 8 (.alloc [aE, .nil, .nil, .nil, .nil]), on (st 5 8 22), o 9 (mv 23)]
def r67_9 : LO := [o 24 (mv 9), o 25 (.un .not (T 24))]
def r67_10 : LO := [o 6 (.mv (.c .nil)), o 7 (mi 10)]
def k67_2 : ACode := .seq (.region r67_9) (.cond (T 25) (.seq (.region r67_10) .ret) .skip)
def r67_16 : LO := [o 10 (.mv (.c .nil))]
def r67_17 : LO := [o 26 (mv 2), o 27 (.call (cf 103) [(T 26), (.c (aS ⟨#[46]⟩))]), o 28 (.len false (T 27)), o 29 (mi 0)]
def r67_18 : LO := [o 30 (.bin .lss (T 29) (T 28))]
def r67_22 : LO := [o 31 (mv 29), o 32 (.idxSl 1 (T 27) (T 29)), o 33 (ld 32), o 11 (mv 31), o 12 (mv 33)]
def r67_23 : LO := [o 34 (mv 11), o 35 (.bin .gtr (T 34) (ci 0))]
def r67_24 : LO := [o 36 (mv 10), o 37 (mv 11), o 38 (.bin .sub (T 37) (ci 1)), o 39 (.idxSl 16 (T 36) (T 38)), o 40 (ln 16 39), o 13 (.alloc [(aI 0), aE, (aI 0), (aI 0), (aI 0), aE, aE, (aB false), (aI 0), (aU 0), aE, .nil, .nil, .nil, .nil, .nil]), on (st 16 13 40)]
def r67_25 : LO := [o 42 (ln 3 3), o 43 (fa 4 13), o 44 (fa 1 43), o 45 (ld 44), o 46 (.call (cf 74) [(T 42), (T 45)]), o 41 (mv 46), o 47 (.extract 0 (T 41)), o 48 (.extract 1 (T 41)), on (st 5 8 47), o 9 (mv 48)]
def r67_26 : LO := [o 49 (fa 4 13), o 50 (fa 0 49), o 51 (ld 50), o 52 (.bin .neq (T 51) (ci 10)), o 53 (mv 52), og 54 (fa 2 13) 53 false, og 55 (ld 54) 53 false, og 56 (.bin .eql (T 55) (ci 4)) 53 false, o 57 (.pick (T 53) (cb true) (T 56)), o 58 (mv 57), og 59 (fa 2 13) 58 false, og 60 (ld 59) 58 false, og 61 (.bin .eql (T 60) (ci 5)) 58 false, o 62 (.pick (T 58) (cb true) (T 61)), o 63 (mv 62), og 64 (mv 9) 63 false, og 65 (.un .not (T 64)) 63 false, o 66 (.pick (T 63) (cb true) (T 65))]
def r67_27 : LO := [o 6 (.mv (.c .nil)), o 7 (mi 12)]
def k67_3 : ACode := .seq (.region r67_26) (.cond (T 66) (.seq (.region r67_27) .ret) .skip)
def k67_4 : ACode := .cond (T 35) (.seq (.region r67_24) (.seq (.region r67_25) k67_3)) .skip
def r67_38 : LO := [o 68 (ln 5 8), o 69 (mv 12), o 70 (.call (cf 113) [(T 68), (T 69)]), o 67 (mv 70), o 71 (.extract 0 (T 67)), o 72 (.extract 1 (T 67)), o 14 (.alloc [(aI 0), aE, (aI 0), (aI 0), (aI 0), aE, aE, (aB false), (aI 0), (aU 0), aE, .nil, .nil, .nil, .nil, .nil]), on (st 16 14 71), o 15 (mv 72)]
def r67_39 : LO := [o 73 (mv 15), o 74 (.un .not (T 73))]
def r67_40 : LO := [o 6 (.mv (.c .nil)), o 7 (mi 8)]
def k67_5 : ACode := .seq (.region r67_39) (.cond (T 74) (.seq (.region r67_40) .ret) .skip)
def r67_46 : LO := [o 75 (mv 10), o 76 (ln 16 14), o 77 (.sliceLit 16 1 [(aI 0), aE, (aI 0), (aI 0), (aI 0), aE, aE, (aB false), (aI 0), (aU 0), aE, .nil, .nil, .nil, .nil, .nil] [((0, 16), (T 76))]), o 78 (.append 90 16 240 (T 75) (T 77)), o 10 (mv 78)]
def k67_6 : ACode := .seq (.seq (.region r67_23) k67_4) (.seq (.region r67_38) (.seq k67_5 (.region r67_46)))
def r67_52 : LO := [o 79 (.bin .add (T 29) (ci 1)), o 29 (mv 79)]
def k67_7 : ACode := .seq (.block 1 (.seq (.region r67_22) k67_6)) (.region r67_52)
def k67_8 : ACode := .seq (.region r67_18) (.seq (.cond (T 30) .skip (.exit 0)) k67_7)
def r67_59 : LO := [o 80 (mv 10), o 6 (mv 80), o 7 (mi 0)]
def k67_9 : ACode := .seq (.seq (.region r67_17) (.block 0 (.loop k67_8))) (.seq (.region r67_59) .ret)
def k67_10 : ACode := .seq (.region r67_8) (.seq k67_2 (.seq (.region r67_16) k67_9))
def k67_11 : ACode := .seq (.region r67_0) (.seq k67_1 k67_10)
theorem fn67 : getFn Tryz.prog 67 = some (81, k67_11, [.tmp 6, .tmp 7]) := by kernel_rfl
def r59_0 : LO := [o 4 (mb false)]
def r59_1 : LO := [o 5 (mv 0), o 6 (mv 1), o 7 (.call (cf 108) [(T 5), (T 6)]), o 8 (.bin .geq (T 7) (ci 0)), o 4 (mv 8)]
def k59_1 : ACode := .seq (.region r59_0) (.seq (.region r59_1) .ret)
theorem fn59 : getFn Tryz.prog 59 = some (9, k59_1, [.tmp 4]) := by kernel_rfl
def r108_0 : LO := [o 4 (mi 0)]
def r108_1 : LO := [o 6 (mv 0), o 7 (.len false (T 6)), o 8 (mi 0)]
def r108_2 : LO := [o 9 (.bin .lss (T 8) (T 7))]
def r108_6 : LO := [o 10 (mv 8), o 5 (mv 10)]
def r108_7 : LO := [o 11 (mv 1), o 12 (mv 0), o 13 (mv 5), o 14 (.idxSl 1 (T 12) (T 13)), o 15 (ld 14), o 16 (.bin .eql (T 11) (T 15))]
def r108_8 : LO := [o 17 (mv 5), o 4 (mv 17)]
def k108_1 : ACode := .seq (.region r108_7) (.cond (T 16) (.seq (.region r108_8) .ret) .skip)
def r108_16 : LO := [o 18 (.bin .add (T 8) (ci 1)), o 8 (mv 18)]
def k108_2 : ACode := .seq (.block 1 (.seq (.region r108_6) k108_1)) (.region r108_16)
def k108_3 : ACode := .seq (.region r108_2) (.seq (.cond (T 9) .skip (.exit 0)) k108_2)
def r108_23 : LO := [o 4 (mi (-1))]
def k108_4 : ACode := .seq (.seq (.region r108_1) (.block 0 (.loop k108_3))) (.seq (.region r108_23) .ret)
def k108_5 : ACode := .seq (.region r108_0) k108_4
theorem fn108 : getFn Tryz.prog 108 = some (19, k108_5, [.tmp 4]) := by kernel_rfl
def r32_0 : LO := [o 2 (bx 0), o 4 (.alloc [aE, aE, aE, (aI 0), .nil]), o 5 (mi 0)]
def r32_1 : LO := [o 11 (mv 1), o 12 (.call (cf 55) [(T 11), (.c (aS ⟨#[47]⟩))]), o 10 (mv 12), o 13 (.extract 0 (T 10)), o 14 (.extract 1 (T 10)), o 15 (.extract 2 (T 10)), o 6 (mv 13), o 7 (mv 14), o 8 (mv 15)]
def r32_2 : LO := [o 16 (mv 8), o 17 (.un .not (T 16)), o 18 (mv 17), og 19 (mv 6) 18 false, og 20 (.call (cf 56) [(T 19)]) 18 false, og 21 (.un .not (T 20)) 18 false, o 22 (.pick (T 18) (cb true) (T 21)), o 23 (mv 22), og 24 (mv 7) 23 false, og 25 (.call (cf 57) [(T 24)]) 23 false, og 26 (.un .not (T 25)) 23 false, o 27 (.pick (T 23) (cb true) (T 26))]
def r32_3 : LO := [o 28 (.build [aE, aE, aE, (aI 0), .nil] []), on (st 5 4 28), o 5 (mi 2)]
def k32_1 : ACode := .seq (.region r32_2) (.cond (T 27) (.seq (.region r32_3) .ret) .skip)
def r32_9 : LO := [o 30 (ln 3 2), o 31 (mv 1), o 32 (.call (cf 58) [(T 30), (T 31)]), o 29 (mv 32), o 33 (.extract 0 (T 29)), o 34 (.extract 1 (T 29)), o 9 (.alloc [aE, aE, aE, (aI 0), .nil]), on (st 5 9 33), o 8 (mv 34)]
def r32_10 : LO := [o 35 (mv 8), o 36 (.un .not (T 35))]
def r32_11 : LO := [o 37 (.build [aE, aE, aE, (aI 0), .nil] []), on (st 5 4 37), o 5 (mi 10)]
def k32_2 : ACode := .seq (.region r32_10) (.cond (T 36) (.seq (.region r32_11) .ret) .skip)
def r32_17 : LO := [o 38 (ln 5 9), on (st 5 4 38), o 5 (mi 0)]
def k32_3 : ACode := .seq (.region r32_9) (.seq k32_2 (.seq (.region r32_17) .ret))
def k32_4 : ACode := .seq (.region r32_0) (.seq (.region r32_1) (.seq k32_1 k32_3))
theorem fn32 : getFn Tryz.prog 32 = some (39, k32_4, [.cell 4 (some 5), .tmp 5]) := by kernel_rfl
def r58_0 : LO := [o 2 (bx 0), o 4 (.alloc [aE, aE, aE, (aI 0), .nil]), o 5 (mb false)]
def r58_1 : LO := [o 12 (mv 1), o 13 (.call (cf 55) [(T 12), (.c (aS ⟨#[47]⟩))]), o 11 (mv 13), o 14 (.extract 0 (T 11)), o 15 (.extract 1 (T 11)), o 16 (.extract 2 (T 11)), o 7 (.alloc [aE]), o 6 (mv 14), on (st 1 7 15), o 8 (mv 16)]
def r58_2 : LO := [o 18 (ln 3 2), o 19 (mv 6), o 20 (.call (cf 105) [(T 18), (T 19)]), o 17 (mv 20), o 21 (.extract 0 (T 17)), o 22 (.extract 1 (T 17)), o 9 (.alloc [aE, .nil, .nil]), on (st 3 9 21), o 10 (mv 22)]
def r58_3 : LO := [o 23 (mv 8), o 24 (.un .not (T 23)), o 25 (mv 24), og 26 (mv 10) 25 false, og 27 (.un .not (T 26)) 25 false, o 28 (.pick (T 25) (cb true) (T 27))]
def r58_4 : LO := [o 29 (.build [aE, aE, aE, (aI 0), .nil] []), on (st 5 4 29), o 5 (mb false)]
def k58_1 : ACode := .seq (.region r58_3) (.cond (T 28) (.seq (.region r58_4) .ret) .skip)
def r58_10 : LO := [o 30 (fa 1 9), o 31 (ld 30), o 32 (.func (.func 107) [] [(T 7)]), o 33 (.call (cf 106) [(T 31), (T 32)]), o 34 (.extract 0 (T 33)), o 35 (.extract 1 (T 33)), on (st 5 4 34), o 5 (mv 35)]
def k58_2 : ACode := .seq (.region r58_2) (.seq k58_1 (.seq (.region r58_10) .ret))
def k58_3 : ACode := .seq (.region r58_0) (.seq (.region r58_1) k58_2)
theorem fn58 : getFn Tryz.prog 58 = some (36, k58_3, [.cell 4 (some 5), .tmp 5]) := by kernel_rfl
def r107_0 : LO := [o 2 (bx 0), o 3 (mb false)]
def r107_1 : LO := [o 4 (fa 0 2), o 5 (ld 4), o 6 (ld 1), o 7 (.bin .eql (T 5) (T 6)), o 3 (mv 7)]
def k107_1 : ACode := .seq (.region r107_0) (.seq (.region r107_1) .ret)
theorem fn107 : getFn Tryz.prog 107 = some (8, k107_1, [.tmp 3]) := by kernel_rfl
def r106_0 : LO := [o 4 (.alloc [aE, aE, aE, (aI 0), .nil]), o 5 (mb false)]
def r106_1 : LO := [o 9 (mv 0), o 10 (.len false (T 9)), o 11 (mi 0)]
def r106_2 : LO := [o 12 (.bin .lss (T 11) (T 10))]
def r106_6 : LO := [o 13 (.idxSl 5 (T 9) (T 11)), o 14 (ln 5 13), o 7 (.alloc [aE, aE, aE, (aI 0), .nil]), on (st 5 7 14)]
def r106_7 : LO := [o 15 (mv 1), o 16 (ln 5 7), o 17 (.call (T 15) [(T 16)])]
def r106_8 : LO := [o 18 (ln 5 7), on (st 5 4 18), o 5 (mb true)]
def k106_1 : ACode := .seq (.region r106_7) (.cond (T 17) (.seq (.region r106_8) .ret) .skip)
def r106_16 : LO := [o 19 (.bin .add (T 11) (ci 1)), o 11 (mv 19)]
def k106_2 : ACode := .seq (.block 1 (.seq (.region r106_6) k106_1)) (.region r106_16)
def k106_3 : ACode := .seq (.region r106_2) (.seq (.cond (T 12) .skip (.exit 0)) k106_2)
def r106_23 : LO := [o 8 (.alloc [aE, aE, aE, (aI 0), .nil])]
def r106_24 : LO := [o 20 (ln 5 8), on (st 5 4 20), o 5 (mb false)]
def k106_4 : ACode := .seq (.seq (.region r106_1) (.block 0 (.loop k106_3))) (.seq (.region r106_23) (.seq (.region r106_24) .ret))
def k106_5 : ACode := .seq (.region r106_0) k106_4
theorem fn106 : getFn Tryz.prog 106 = some (21, k106_5, [.cell 4 (some 5), .tmp 5]) := by kernel_rfl
def r105_0 : LO := [o 2 (bx 0), o 3 (bx 1), o 4 (.alloc [aE, .nil, .nil]), o 5 (mb false)]
def r105_1 : LO := [o 6 (fa 2 2), o 7 (ld 6), o 8 (.func (.func 160) [] [(T 3)]), o 9 (.call (cf 159) [(T 7), (T 8)]), o 10 (.extract 0 (T 9)), o 11 (.extract 1 (T 9)), on (st 3 4 10), o 5 (mv 11)]
def k105_1 : ACode := .seq (.region r105_0) (.seq (.region r105_1) .ret)
theorem fn105 : getFn Tryz.prog 105 = some (12, k105_1, [.cell 4 (some 3), .tmp 5]) := by kernel_rfl
def r160_0 : LO := [o 2 (bx 0), o 3 (mb false)]
def r160_1 : LO := [o 4 (fa 0 2), o 5 (ld 4), o 6 (ld 1), o 7 (.bin .eql (T 5) (T 6)), o 3 (mv 7)]
def k160_1 : ACode := .seq (.region r160_0) (.seq (.region r160_1) .ret)
theorem fn160 : getFn Tryz.prog 160 = some (8, k160_1, [.tmp 3]) := by kernel_rfl
def r159_0 : LO := [o 4 (.alloc [aE, .nil, .nil]), o 5 (mb false)]
def r159_1 : LO := [o 9 (mv 0), o 10 (.len false (T 9)), o 11 (mi 0)]
def r159_2 : LO := [o 12 (.bin .lss (T 11) (T 10))]
def r159_6 : LO := [o 13 (.idxSl 3 (T 9) (T 11)), o 14 (ln 3 13), o 7 (.alloc [aE, .nil, .nil]), on (st 3 7 14)]
def r159_7 : LO := [o 15 (mv 1), o 16 (ln 3 7), o 17 (.call (T 15) [(T 16)])]
def r159_8 : LO := [o 18 (ln 3 7), on (st 3 4 18), o 5 (mb true)]
def k159_1 : ACode := .seq (.region r159_7) (.cond (T 17) (.seq (.region r159_8) .ret) .skip)
def r159_16 : LO := [o 19 (.bin .add (T 11) (ci 1)), o 11 (mv 19)]
def k159_2 : ACode := .seq (.block 1 (.seq (.region r159_6) k159_1)) (.region r159_16)
def k159_3 : ACode := .seq (.region r159_2) (.seq (.cond (T 12) .skip (.exit 0)) k159_2)
def r159_23 : LO := [o 8 (.alloc [aE, .nil, .nil])]
def r159_24 : LO := [o 20 (ln 3 8), on (st 3 4 20), o 5 (mb false)]
def k159_4 : ACode := .seq (.seq (.region r159_1) (.block 0 (.loop k159_3))) (.seq (.region r159_23) (.seq (.region r159_24) .ret))
def k159_5 : ACode := .seq (.region r159_0) k159_4
theorem fn159 : getFn Tryz.prog 159 = some (21, k159_5, [.cell 4 (some 3), .tmp 5]) := by kernel_rfl
def r55_0 : LO := [o 4 (.mv (.c aE)), o 5 (.mv (.c aE)), o 6 (mb false)]
def r55_1 : LO := [o 7 (mv 0), o 8 (mv 1), o 9 (.call (cf 102) [(T 7), (T 8)]), o 10 (.extract 0 (T 9)), o 11 (.extract 1 (T 9)), o 12 (.extract 2 (T 9)), o 4 (mv 10), o 5 (mv 11), o 6 (mv 12)]
def k55_1 : ACode := .seq (.region r55_0) (.seq (.region r55_1) .ret)
theorem fn55 : getFn Tryz.prog 55 = some (13, k55_1, [.tmp 4, .tmp 5, .tmp 6]) := by kernel_rfl
def r102_0 : LO := [o 4 (.mv (.c aE)), o 5 (.mv (.c aE)), o 6 (mb false)]
def r102_1 : LO := [o 8 (mv 0), o 9 (mv 1), o 10 (.call (cf 157) [(T 8), (T 9)]), o 7 (mv 10)]
def r102_2 : LO := [o 11 (mv 7), o 12 (.bin .geq (T 11) (ci 0))]
def r102_3 : LO := [o 13 (mv 0), o 14 (mv 7), o 15 (.sliceS (T 13) none (some (T 14))), o 16 (mv 0), o 17 (mv 7), o 18 (mv 1), o 19 (.len true (T 18)), o 20 (.bin .add (T 17) (T 19)), o 21 (.sliceS (T 16) (some (T 20)) none), o 4 (mv 15)]
def r102_3t : LO := [o 5 (mv 21), o 6 (mb true)]
def r102_3o : LN := [[], [], [0, 1], [], [], [], [5], [4, 6], [3, 7], [0, 1, 2]]
def k102_1 : ACode := .cond (T 12) (.seq (.drawn r102_3o r102_3 r102_3t) .ret) .skip
def r102_10 : LO := [o 22 (mv 0), o 4 (mv 22), o 5 (.mv (.c aE)), o 6 (mb false)]
def k102_2 : ACode := .seq (.seq (.region r102_1) (.seq (.region r102_2) k102_1)) (.seq (.region r102_10) .ret)
def k102_3 : ACode := .seq (.region r102_0) k102_2
theorem fn102 : getFn Tryz.prog 102 = some (23, k102_3, [.tmp 4, .tmp 5, .tmp 6]) := by kernel_rfl
def r31_0 : LO := [o 4 (.mv (.c aE))]
def r31_1 : LO := [o 5 (mv 0), o 6 (.bin .add (T 5) (.c (aS ⟨#[47]⟩))), o 7 (mv 1), o 8 (.bin .add (T 6) (T 7)), o 4 (mv 8)]
def k31_1 : ACode := .seq (.region r31_0) (.seq (.region r31_1) .ret)
theorem fn31 : getFn Tryz.prog 31 = some (9, k31_1, [.tmp 4]) := by kernel_rfl
def r18_0 : LO := [o 4 (bx 0), o 6 (bx 2), o 7 (bx 3), o 8 (.alloc [(aI 0), aE])]
def r18_1 : LO := [o 14 (fa 0 6), o 15 (ld 14), o 16 (.bin .neq (T 15) (ci 0))]
def r18_2 : LO := [o 17 (ln 2 6), o 18 (.call (cf 40) [(T 17)]), on (st 2 8 18)]
def k18_1 : ACode := .seq (.region r18_1) (.cond (T 16) (.seq (.region r18_2) .ret) .skip)
def r18_8 : LO := [o 20 (ln 3 4), o 21 (mv 1), o 22 (.call (cf 32) [(T 20), (T 21)]), o 19 (mv 22), o 23 (.extract 0 (T 19)), o 24 (.extract 1 (T 19)), o 9 (.alloc [aE, aE, aE, (aI 0), .nil]), on (st 5 9 23), o 10 (mv 24)]
def r18_9 : LO := [o 25 (mv 10), o 26 (.bin .neq (T 25) (ci 0))]
def r18_10 : LO := [o 27 (mv 10), o 28 (.call (cf 41) [(T 27)]), o 29 (.call (cf 40) [(T 28)]), on (st 2 8 29)]
def k18_2 : ACode := .seq (.region r18_9) (.cond (T 26) (.seq (.region r18_10) .ret) .skip)
def r18_16 : LO := [o 31 (ln 3 4), o 32 (.call (cf 42) [(T 31)]), o 30 (mv 32), o 33 (.extract 0 (T 30)), o 34 (.extract 1 (T 30)), o 11 (.alloc [.nil, .nil]), on (st 2 11 33), o 12 (mv 34)]
def r18_17 : LO := [o 36 (ln 2 11), o 37 (fa 2 9), o 38 (ld 37), o 39 (ln 7 7), o 40 (.call (cf 43) [(T 36), (T 38), (T 39)]), o 35 (mv 40), o 41 (.extract 0 (T 35)), o 42 (.extract 1 (T 35)), o 13 (mv 41), o 10 (mv 42)]
def r18_18 : LO := [o 43 (mv 10), o 44 (.bin .neq (T 43) (ci 0))]
def r18_19 : LO := [o 45 (mv 10), o 46 (.call (cf 41) [(T 45)]), o 47 (.call (cf 40) [(T 46)]), on (st 2 8 47)]
def k18_3 : ACode := .seq (.region r18_18) (.cond (T 44) (.seq (.region r18_19) .ret) .skip)
def r18_25 : LO := [o 48 (fa 0 6), o 49 (ld 48), o 50 (.call (cf 20) [(T 49)]), o 51 (mv 13), o 52 (.build [(aI 0), aE] [((0, 1), (T 50)), ((1, 1), (T 51))]), on (st 2 8 52)]
def k18_4 : ACode := .seq (.region r18_17) (.seq k18_3 (.seq (.region r18_25) .ret))
def k18_5 : ACode := .seq (.region r18_8) (.seq k18_2 (.seq (.region r18_16) k18_4))
def k18_6 : ACode := .seq (.region r18_0) (.seq k18_1 k18_5)
theorem fn18 : getFn Tryz.prog 18 = some (53, k18_6, [.cell 8 (some 2)]) := by kernel_rfl
def r43_0 : LO := [o 3 (bx 0), o 5 (bx 2), o 6 (.mv (.c aE)), o 7 (mi 0)]
def r43_1 : LO := [o 13 (ln 2 3), o 14 (mv 1), o 15 (ln 7 5), o 16 (.call (cf 92) [(T 13), (T 14), (T 15)]), o 12 (mv 16), o 17 (.extract 0 (T 12)), o 18 (.extract 1 (T 12)), o 8 (mv 17), o 9 (mv 18)]
def r43_2 : LO := [o 19 (mv 9), o 20 (.bin .neq (T 19) (ci 0))]
def r43_3 : LO := [o 21 (mv 9), o 6 (.mv (.c aE)), o 7 (mv 21)]
def k43_1 : ACode := .seq (.region r43_2) (.cond (T 20) (.seq (.region r43_3) .ret) .skip)
def r43_9 : LO := [o 23 (mv 8), o 24 (.call (cf 93) [(T 23)]), o 22 (mv 24), o 25 (.extract 0 (T 22)), o 26 (.extract 1 (T 22)), o 10 (mv 25), o 11 (mv 26)]
def r43_10 : LO := [o 27 (mv 10), o 28 (.call (cf 95) [(T 27), (.c (aS ⟨#[32]⟩))]), o 29 (.call (cf 94) [(T 28)]), o 30 (.extract 0 (T 29)), o 31 (.extract 1 (T 29)), o 6 (mv 30), o 7 (mv 31)]
def k43_2 : ACode := .seq k43_1 (.seq (.region r43_9) (.seq (.region r43_10) .ret))
def k43_3 : ACode := .seq (.region r43_0) (.seq (.region r43_1) k43_2)
theorem fn43 : getFn Tryz.prog 43 = some (32, k43_3, [.tmp 6, .tmp 7]) := by kernel_rfl
def r95_0 : LO := [o 4 (.mv (.c aE))]
def r95_1 : LO := [o 11 (mv 0), o 12 (.len false (T 11))]
def r95_2 : LO := [o 14 (.bin .eql (T 12) (ci 0)), o 13 (mv 14)]
def r95_3 : LO := [o 4 (.mv (.c aE))]
def r95_6 : LO := [o 16 (.bin .eql (T 12) (ci 1)), o 15 (mv 16)]
def r95_7 : LO := [o 17 (mv 0), o 18 (.idxSl 1 (T 17) (ci 0)), o 19 (ld 18), o 4 (mv 19)]
def k95_1 : ACode := .seq (.region r95_6) (.cond (T 15) (.seq (.region r95_7) .ret) .skip)
def k95_2 : ACode := .seq (.region r95_2) (.cond (T 13) (.seq (.region r95_3) .ret) k95_1)
def r95_17 : LO := [o 5 (mi 0)]
def r95_18 : LO := [o 20 (mv 1), o 21 (.len true (T 20)), o 22 (.bin .gtr (T 21) (ci 0))]
def r95_19 : LO := [o 23 (mv 1), o 24 (.len true (T 23)), o 25 (mv 0), o 26 (.len false (T 25)), o 27 (.bin .sub (T 26) (ci 1)), o 28 (.bin .quo (ci 9223372036854775807) (T 27)), o 29 (.bin .geq (T 24) (T 28))]
def r95_20 : LO := [o 30 (.iface 9 (.c (aS ⟨#[115, 116, 114, 105, 110, 103, 115, 58, 32, 74, 111, 105, 110, 32, 111, 117, 116, 112, 117, 116, 32, 108, 101, 110, 103, 116, 104, 32, 111, 118, 101, 114, 102, 108, 111, 119]⟩))), on (.bad)]
def r95_24 : LO := [o 31 (mv 5), o 32 (mv 1), o 33 (.len true (T 32)), o 34 (mv 0), o 35 (.len false (T 34)), o 36 (.bin .sub (T 35) (ci 1)), o 37 (.bin .mul (T 33) (T 36)), o 38 (.bin .add (T 31) (T 37)), o 5 (mv 38)]
def k95_3 : ACode := .seq (.seq (.region r95_19) (.cond (T 29) (.region r95_20) .skip)) (.region r95_24)
def r95_29 : LO := [o 39 (mv 0), o 40 (.len false (T 39)), o 41 (mi 0)]
def r95_30 : LO := [o 42 (.bin .lss (T 41) (T 40))]
def r95_34 : LO := [o 43 (.idxSl 1 (T 39) (T 41)), o 44 (ld 43), o 7 (mv 44)]
def r95_35 : LO := [o 45 (mv 7), o 46 (.len true (T 45)), o 47 (mv 5), o 48 (.bin .sub (ci 9223372036854775807) (T 47)), o 49 (.bin .gtr (T 46) (T 48))]
def r95_36 : LO := [o 50 (.iface 9 (.c (aS ⟨#[115, 116, 114, 105, 110, 103, 115, 58, 32, 74, 111, 105, 110, 32, 111, 117, 116, 112, 117, 116, 32, 108, 101, 110, 103, 116, 104, 32, 111, 118, 101, 114, 102, 108, 111, 119]⟩))), on (.bad)]
def r95_40 : LO := [o 51 (mv 5), o 52 (mv 7), o 53 (.len true (T 52)), o 54 (.bin .add (T 51) (T 53)), o 5 (mv 54)]
def k95_4 : ACode := .seq (.seq (.region r95_35) (.cond (T 49) (.region r95_36) .skip)) (.region r95_40)
def r95_44 : LO := [o 55 (.bin .add (T 41) (ci 1)), o 41 (mv 55)]
def k95_5 : ACode := .seq (.block 2 (.seq (.region r95_34) k95_4)) (.region r95_44)
def k95_6 : ACode := .seq (.region r95_30) (.seq (.cond (T 42) .skip (.exit 1)) k95_5)
def r95_51 : LO := [o 8 (.allocB 72 5)]
def r95_52 : LO := [o 56 (mv 5), o 57 (.call (cf 155) [(T 8), (T 56)])]
def r95_53 : LO := [o 58 (mv 0), o 59 (.idxSl 1 (T 58) (ci 0)), o 60 (ld 59), o 61 (.call (cf 26) [(T 8), (T 60)])]
def r95_54 : LO := [o 62 (mv 0), o 63 (.sliceV 1 (T 62) (some (ci 1)) none none), o 64 (.len false (T 63)), o 65 (mi 0)]
def r95_55 : LO := [o 66 (.bin .lss (T 65) (T 64))]
def r95_59 : LO := [o 67 (.idxSl 1 (T 63) (T 65)), o 68 (ld 67), o 10 (mv 68)]
def r95_60 : LO := [o 69 (mv 1), o 70 (.call (cf 26) [(T 8), (T 69)])]
def r95_61 : LO := [o 71 (mv 10), o 72 (.call (cf 26) [(T 8), (T 71)])]
def k95_7 : ACode := .seq (.region r95_59) (.seq (.region r95_60) (.region r95_61))
def r95_65 : LO := [o 73 (.bin .add (T 65) (ci 1)), o 65 (mv 73)]
def k95_8 : ACode := .seq (.cond (T 66) .skip (.exit 3)) (.seq (.block 4 k95_7) (.region r95_65))
def k95_9 : ACode := .seq (.region r95_55) k95_8
def r95_72 : LO := [o 74 (.call (cf 23) [(T 8)]), o 4 (mv 74)]
def k95_10 : ACode := .seq (.seq (.region r95_54) (.block 3 (.loop k95_9))) (.seq (.region r95_72) .ret)
def k95_11 : ACode := .seq (.region r95_51) (.seq (.region r95_52) (.seq (.region r95_53) k95_10))
def k95_12 : ACode := .seq (.seq (.region r95_18) (.cond (T 22) k95_3 .skip)) (.seq (.seq (.region r95_29) (.block 1 (.loop k95_6))) k95_11)
def k95_13 : ACode := .seq (.seq (.region r95_1) (.block 0 k95_2)) (.seq (.region r95_17) k95_12)
def k95_14 : ACode := .seq (.region r95_0) k95_13
theorem fn95 : getFn Tryz.prog 95 = some (75, k95_14, [.tmp 4]) := by kernel_rfl
def r155_0 : LO := [o 4 (mv 0), o 5 (.call (cf 47) [(T 4)])]
def r155_1 : LO := [o 6 (mv 1), o 7 (.bin .lss (T 6) (ci 0))]
def r155_2 : LO := [o 8 (.iface 9 (.c (aS ⟨#[115, 116, 114, 105, 110, 103, 115, 46, 66, 117, 105, 108, 100, 101, 114, 46, 71, 114, 111, 119, 58, 32, 110, 101, 103, 97, 116, 105, 118, 101, 32, 99, 111, 117, 110, 116]⟩))), on (.bad)]
def r155_6 : LO := [o 9 (mv 0), o 10 (.nilCheck (T 9)), o 11 (fa 1 10), o 12 (ld 11), o 13 (.cap0 (T 12)), o 14 (mv 0), o 15 (.nilCheck (T 14)), o 16 (fa 1 15), o 17 (ld 16), o 18 (.len false (T 17)), o 19 (.bin .sub (T 13) (T 18)), o 20 (mv 1), o 21 (.bin .lss (T 19) (T 20))]
def r155_6t : LO := []
def r155_6o : LN := [[], [0], [1], [2], [3], [], [5], [6], [7], [8], [4, 9], [], [10, 11]]
def r155_7 : LO := [o 22 (mv 0), o 23 (mv 1), o 24 (.call (cf 219) [(T 22), (T 23)])]
def k155_1 : ACode := .seq (.drawn r155_6o r155_6 r155_6t) (.cond (T 21) (.region r155_7) .skip)
def k155_2 : ACode := .seq (.seq (.region r155_1) (.cond (T 7) (.region r155_2) .skip)) k155_1
def k155_3 : ACode := .seq (.region r155_0) k155_2
theorem fn155 : getFn Tryz.prog 155 = some (25, k155_3, []) := by kernel_rfl
def r219_0 : LO := [o 5 (mv 0), o 6 (.nilCheck (T 5)), o 7 (fa 1 6), o 8 (ld 7), o 9 (.cap0 (T 8)), o 10 (.bin .mul (ci 2) (T 9)), o 11 (mv 1), o 12 (.bin .add (T 10) (T 11)), o 13 (.mknz 5 (T 12)), o 14 (mv 0), o 15 (.nilCheck (T 14)), o 16 (fa 1 15), o 17 (ld 16), o 18 (.len false (T 17)), o 19 (.sliceV 1 (T 13) none (some (T 18)) none)]
def r219_0t : LO := [o 4 (mv 19)]
def r219_0o : LN := [[], [0], [1], [2], [3], [4], [], [5, 6], [7], [], [9], [10], [11], [12], [8, 13]]
def r219_1 : LO := [o 20 (mv 4), o 21 (mv 0), o 22 (.nilCheck (T 21)), o 23 (fa 1 22), o 24 (ld 23), o 25 (.copy0 (T 20) (T 24))]
def r219_2 : LO := [o 26 (mv 0), o 27 (mv 4), o 28 (.nilCheck (T 26)), o 29 (fa 1 28), on (st 1 29 27)]
def k219_1 : ACode := .seq (.drawn r219_0o r219_0 r219_0t) (.seq (.region r219_1) (.region r219_2))
theorem fn219 : getFn Tryz.prog 219 = some (30, k219_1, []) := by kernel_rfl
def r26_0 : LO := [o 4 (mi 0), o 5 (.mv (.c (.v .nilIface)))]
def r26_1 : LO := [o 6 (mv 0), o 7 (.call (cf 47) [(T 6)])]
def r26_2 : LO := [o 8 (mv 0), o 9 (mv 0), o 10 (.nilCheck (T 9)), o 11 (fa 1 10), o 12 (ld 11), o 13 (mv 1), o 14 (.append 5 1 1 (T 12) (T 13)), o 15 (.nilCheck (T 8)), o 16 (fa 1 15), on (st 1 16 14)]
def r26_3 : LO := [o 17 (mv 1), o 18 (.len true (T 17)), o 4 (mv 18), o 5 (.mv (.c (.v .nilIface)))]
def k26_1 : ACode := .seq (.region r26_1) (.seq (.region r26_2) (.seq (.region r26_3) .ret))
def k26_2 : ACode := .seq (.region r26_0) k26_1
theorem fn26 : getFn Tryz.prog 26 = some (19, k26_2, [.tmp 4, .tmp 5]) := by kernel_rfl
def r23_0 : LO := [o 2 (.mv (.c aE))]
def r23_1 : LO := [o 3 (mv 0), o 4 (.nilCheck (T 3)), o 5 (fa 1 4), o 6 (ld 5), o 7 (.udata (T 6)), o 8 (mv 0), o 9 (.nilCheck (T 8)), o 10 (fa 1 9), o 11 (ld 10), o 12 (.len false (T 11)), o 13 (.ustr 5 (T 7) (T 12))]
def r23_1t : LO := [o 2 (mv 13)]
def r23_1o : LN := [[], [0], [1], [2], [3], [], [5], [6], [7], [8], [4, 9]]
def k23_1 : ACode := .seq (.region r23_0) (.seq (.drawn r23_1o r23_1 r23_1t) .ret)
theorem fn23 : getFn Tryz.prog 23 = some (14, k23_1, [.tmp 2]) := by kernel_rfl
def r94_0 : LO := [o 2 (.mv (.c aE)), o 3 (mi 0)]
def r94_1 : LO := [o 4 (mv 0), o 5 (.len true (T 4)), o 6 (.bin .gtr (T 5) (ci 262144))]
def r94_2 : LO := [o 2 (.mv (.c aE)), o 3 (mi 3)]
def k94_1 : ACode := .seq (.region r94_1) (.cond (T 6) (.seq (.region r94_2) .ret) .skip)
def r94_8 : LO := [o 7 (mv 0), o 2 (mv 7), o 3 (mi 0)]
def k94_2 : ACode := .seq (.region r94_0) (.seq k94_1 (.seq (.region r94_8) .ret))
theorem fn94 : getFn Tryz.prog 94 = some (8, k94_2, [.tmp 2, .tmp 3]) := by kernel_rfl
def r93_0 : LO := [o 2 (.mv (.c .nil)), o 3 (.mv (.c .nil))]
def r93_1 : LO := [o 4 (.mv (.c .nil))]
def r93_2 : LO := [o 5 (.mv (.c .nil))]
def r93_3 : LO := [o 6 (mi 0)]
def r93_4 : LO := [o 14 (mv 0), o 15 (.nilCheck (T 14)), o 16 (fa 2 15), o 17 (ld 16), o 18 (.len false (T 17)), o 19 (mi 0)]
def r93_5 : LO := [o 20 (.bin .lss (T 19) (T 18))]
def r93_9 : LO := [o 21 (.idxSl 1 (T 17) (T 19)), o 22 (ld 21), o 8 (mv 22)]
def r93_10 : LO := [o 23 (mv 6), o 9 (mv 23)]
def r93_11 : LO := [o 10 (.mv (.c (aS ⟨#[125]⟩)))]
def r93_12 : LO := [o 24 (mv 8)]
def r93_13 : LO := [o 25 (.assertT 264 true (.agg [aE, aE]) (T 24)), o 26 (.extract 1 (T 25)), o 27 (.extract 0 (T 25))]
def r93_14 : LO := [o 11 (.alloc [aE, aE]), on (st 2 11 27)]
def r93_15 : LO := [o 28 (fa 0 11), o 29 (ld 28), o 30 (.bin .add (T 29) (.c (aS ⟨#[58, 32]⟩))), o 31 (fa 1 11), o 32 (ld 31), o 33 (.bin .add (T 30) (T 32)), o 10 (mv 33)]
def r93_17 : LO := [o 34 (.assertT 266 true (.agg [aE]) (T 24)), o 35 (.extract 1 (T 34)), o 36 (.extract 0 (T 34))]
def r93_18 : LO := [o 12 (.alloc [aE]), on (st 1 12 36)]
def r93_19 : LO := [o 37 (fa 0 12), o 38 (ld 37), o 39 (.bin .add (T 38) (.c (aS ⟨#[32, 123]⟩))), o 10 (mv 39)]
def r93_20 : LO := [o 40 (mv 6), o 41 (.bin .add (T 40) (ci 1)), o 6 (mv 41)]
def k93_1 : ACode := .seq (.region r93_18) (.seq (.region r93_19) (.region r93_20))
def r93_23 : LO := [o 42 (.assertT 268 true (.agg []) (T 24)), o 43 (.extract 1 (T 42)), o 44 (.extract 0 (T 42))]
def r93_24 : LO := [o 13 (.alloc []), on (st 0 13 44)]
def r93_25 : LO := [o 45 (mv 6), o 46 (.bin .sub (T 45) (ci 1)), o 6 (mv 46)]
def r93_26 : LO := [o 47 (mv 6), o 9 (mv 47)]
def k93_2 : ACode := .seq (.region r93_24) (.seq (.region r93_25) (.region r93_26))
def k93_3 : ACode := .cond (T 35) k93_1 (.seq (.region r93_23) (.cond (T 43) k93_2 .skip))
def k93_4 : ACode := .cond (T 26) (.seq (.region r93_14) (.region r93_15)) (.seq (.region r93_17) k93_3)
def k93_5 : ACode := .seq (.region r93_12) (.block 2 (.seq (.region r93_13) k93_4))
def r93_38 : LO := [o 48 (mv 4), o 49 (mv 10), o 50 (.sliceLit 1 1 [aE] [((0, 1), (T 49))]), o 51 (.append 9 1 16 (T 48) (T 50)), o 52 (mv 5), o 53 (mv 9), o 54 (.sliceLit 1 1 [(aI 0)] [((0, 1), (T 53))]), o 55 (.append 3 1 8 (T 52) (T 54)), o 4 (mv 51), o 5 (mv 55)]
def k93_6 : ACode := .seq (.region r93_10) (.seq (.region r93_11) (.seq k93_5 (.region r93_38)))
def r93_44 : LO := [o 56 (.bin .add (T 19) (ci 1)), o 19 (mv 56)]
def k93_7 : ACode := .seq (.block 1 (.seq (.region r93_9) k93_6)) (.region r93_44)
def k93_8 : ACode := .seq (.region r93_5) (.seq (.cond (T 20) .skip (.exit 0)) k93_7)
def r93_51 : LO := [o 57 (mv 4), o 58 (mv 5), o 2 (mv 57), o 3 (mv 58)]
def k93_9 : ACode := .seq (.seq (.region r93_4) (.block 0 (.loop k93_8))) (.seq (.region r93_51) .ret)
def k93_10 : ACode := .seq (.region r93_1) (.seq (.region r93_2) (.seq (.region r93_3) k93_9))
def k93_11 : ACode := .seq (.region r93_0) k93_10
theorem fn93 : getFn Tryz.prog 93 = some (59, k93_11, [.tmp 2, .tmp 3]) := by kernel_rfl
def r92_0 : LO := [o 3 (bx 0), o 5 (bx 2), o 6 (.mv (.c (.v (.pointer none)))), o 7 (mi 0)]
def r92_1 : LO := [o 13 (ln 2 3), o 14 (mv 1), o 15 (.call (cf 122) [(T 13), (T 14)]), o 12 (mv 15), o 16 (.extract 0 (T 12)), o 17 (.extract 1 (T 12)), o 8 (mv 16), o 9 (mv 17)]
def r92_2 : LO := [o 18 (mv 9), o 19 (.un .not (T 18))]
def r92_3 : LO := [o 6 (.mv (.c (.v (.pointer none)))), o 7 (mi 10)]
def k92_1 : ACode := .seq (.region r92_2) (.cond (T 19) (.seq (.region r92_3) .ret) .skip)
def r92_9 : LO := [o 20 (ln 2 3), o 21 (mv 8), o 22 (ln 7 5), o 23 (.call (cf 151) [(T 20), (T 21), (T 22)]), o 10 (mv 23)]
def r92_10 : LO := [o 24 (mv 10), o 25 (.bin .neq (T 24) (ci 0))]
def r92_11 : LO := [o 26 (mv 10), o 6 (.mv (.c (.v (.pointer none)))), o 7 (mv 26)]
def k92_2 : ACode := .seq (.region r92_10) (.cond (T 25) (.seq (.region r92_11) .ret) .skip)
def r92_18 : LO := [o 27 (ln 7 5), o 28 (.call (cf 152) [(T 27)])]
def r92_19 : LO := [o 6 (.mv (.c (.v (.pointer none)))), o 7 (mi 18)]
def k92_3 : ACode := .seq (.region r92_18) (.cond (T 28) (.seq (.region r92_19) .ret) .skip)
def r92_25 : LO := [o 29 (ln 2 3), o 30 (.build [.nil, .nil, .nil] [((0, 2), (T 29))]), o 31 (bx 30), o 11 (mv 31)]
def r92_26 : LO := [o 32 (mv 11), o 33 (mv 8), o 34 (ln 2 3), o 35 (mv 8), o 36 (ln 7 5), o 37 (.call (cf 154) [(T 34), (T 35), (T 36)]), o 38 (.call (cf 153) [(T 32), (T 33), (T 37)])]
def r92_27 : LO := [o 39 (mv 11), o 6 (mv 39), o 7 (mi 0)]
def k92_4 : ACode := .seq (.region r92_25) (.seq (.region r92_26) (.seq (.region r92_27) .ret))
def k92_5 : ACode := .seq k92_1 (.seq (.seq (.region r92_9) k92_2) (.seq k92_3 k92_4))
def k92_6 : ACode := .seq (.region r92_0) (.seq (.region r92_1) k92_5)
theorem fn92 : getFn Tryz.prog 92 = some (40, k92_6, [.tmp 6, .tmp 7]) := by kernel_rfl
def r154_0 : LO := [o 3 (bx 0), o 5 (bx 2), o 6 (.alloc zV)]
def r154_1 : LO := [o 14 (fa 6 5), o 15 (ld 14), o 16 (.call (cf 77) [(T 15)]), o 17 (.build zV [((0, 1), (ci 10)), ((6, 1), (T 16))]), o 7 (.alloc zV), on (st 7 7 17)]
def r154_2 : LO := [o 18 (mv 1), o 19 (.bin .lss (T 18) (ci 0)), o 20 (mv 19), og 21 (mv 1) 20 false, og 22 (fa 0 3) 20 false, og 23 (ld 22) 20 false, og 24 (.len false (T 23)) 20 false, og 25 (.bin .geq (T 21) (T 24)) 20 false, o 26 (.pick (T 20) (cb true) (T 25))]
def r154_3 : LO := [o 27 (ln 7 7), on (st 7 6 27)]
def k154_1 : ACode := .seq (.region r154_2) (.cond (T 26) (.seq (.region r154_3) .ret) .skip)
def r154_9 : LO := [o 28 (fa 5 5), o 29 (ld 28), o 30 (.call (cf 78) [(T 29)]), o 31 (.len false (T 30)), o 32 (mi 0)]
def r154_10 : LO := [o 33 (.bin .lss (T 32) (T 31))]
def r154_14 : LO := [o 34 (.idxSl 8 (T 30) (T 32)), o 35 (ln 8 34), o 9 (.alloc [(aI 0), (aI 0), (aU 0), aE, .nil, .nil, .nil, .nil]), on (st 8 9 35)]
def r154_15 : LO := [o 37 (fa 0 3), o 38 (ld 37), o 39 (mv 1), o 40 (.idxSl 3 (T 38) (T 39)), o 41 (ln 3 40), o 42 (fa 0 9), o 43 (ld 42), o 44 (.call (cf 123) [(T 41), (T 43)]), o 36 (mv 44), o 45 (.extract 0 (T 36)), o 46 (.extract 1 (T 36)), o 10 (.alloc [(aI 0), aE, aE, (aI 0), (aI 0), (aI 0), (aI 0), (aI 0)]), on (st 8 10 45)]
def r154_15t : LO := [o 11 (mv 46)]
def r154_15o : LN := [[], [0], [], [1, 2], [3], [], [5], [4, 6], [7], [8], [8], [], [0, 1, 2, 3, 4, 5, 6, 7, 8, 9, 11]]
def r154_16 : LO := [o 47 (fa 3 10), o 48 (ld 47), o 49 (.bin .eql (T 48) (ci 3)), o 50 (mv 49), og 51 (fa 3 10) 50 false, og 52 (ld 51) 50 false, og 53 (.bin .eql (T 52) (ci 4)) 50 false, o 54 (.pick (T 50) (cb true) (T 53)), o 55 (mv 54), og 56 (fa 3 10) 55 false, og 57 (ld 56) 55 false, og 58 (.bin .eql (T 57) (ci 5)) 55 false, o 59 (.pick (T 55) (cb true) (T 58)), o 12 (mv 59)]
def r154_17 : LO := [o 60 (ln 2 3), o 61 (ln 8 10), o 62 (fa 1 9), o 63 (ln 7 62), o 64 (.call (cf 216) [(T 60), (T 61), (T 63)]), o 13 (.alloc zV), on (st 7 13 64)]
def r154_18 : LO := [o 65 (mv 12), o 66 (.un .not (T 65)), o 67 (mv 66), og 68 (ln 7 13) 67 false, og 69 (.call (cf 217) [(T 68)]) 67 false, og 70 (.un .not (T 69)) 67 false, o 71 (.pick (T 67) (cb true) (T 70))]
def r154_19 : LO := [o 72 (fa 5 7), o 73 (ld 72), o 74 (fa 0 9), o 75 (ld 74), o 76 (ln 7 13), o 77 (.build [(aI 0), (aI 0), (aU 0), aE, .nil, .nil, .nil, .nil] [((0, 1), (T 75)), ((1, 7), (T 76))]), o 78 (.sliceLit 8 1 [(aI 0), (aI 0), (aU 0), aE, .nil, .nil, .nil, .nil] [((0, 8), (T 77))]), o 79 (.append 66 8 136 (T 73) (T 78)), o 80 (fa 5 7), on (st 1 80 79)]
def k154_2 : ACode := .seq (.region r154_18) (.cond (T 71) (.region r154_19) .skip)
def k154_3 : ACode := .seq (.drawn r154_15o r154_15 r154_15t) (.seq (.region r154_16) (.seq (.region r154_17) k154_2))
def r154_28 : LO := [o 81 (.bin .add (T 32) (ci 1)), o 32 (mv 81)]
def k154_4 : ACode := .seq (.block 1 (.seq (.region r154_14) k154_3)) (.region r154_28)
def k154_5 : ACode := .seq (.region r154_10) (.seq (.cond (T 33) .skip (.exit 0)) k154_4)
def r154_35 : LO := [o 82 (fa 6 7), o 83 (ld 82), o 84 (.call (cf 81) [(T 83), (cf 218)])]
def r154_36 : LO := [o 85 (ln 7 7), on (st 7 6 85)]
def k154_6 : ACode := .seq (.seq (.region r154_9) (.block 0 (.loop k154_5))) (.seq (.region r154_35) (.seq (.region r154_36) .ret))
def k154_7 : ACode := .seq (.region r154_0) (.seq (.region r154_1) (.seq k154_1 k154_6))
theorem fn154 : getFn Tryz.prog 154 = some (86, k154_7, [.cell 6 (some 7)]) := by kernel_rfl
def r83_0 : LO := [o 4 (mi 0)]
def r83_1 : LO := [o 7 (mv 0), o 8 (.call (cf 142) [(T 7)]), o 5 (mv 8)]
def r83_2 : LO := [o 9 (mv 1), o 10 (.call (cf 142) [(T 9)]), o 6 (mv 10)]
def r83_3 : LO := [o 11 (mv 5)]
def r83_4 : LO := [o 12 (mv 6)]
def r83_5 : LO := [o 4 (mi 0)]
def k83_1 : ACode := .seq (.region r83_4) (.cond (T 12) (.seq (.region r83_5) .ret) .skip)
def r83_11 : LO := [o 4 (mi (-1))]
def k83_2 : ACode := .seq (.region r83_3) (.cond (T 11) (.seq k83_1 (.seq (.region r83_11) .ret)) .skip)
def r83_18 : LO := [o 13 (mv 6)]
def r83_19 : LO := [o 4 (mi 1)]
def k83_3 : ACode := .seq (.region r83_18) (.cond (T 13) (.seq (.region r83_19) .ret) .skip)
def r83_25 : LO := [o 14 (mv 0), o 15 (mv 1), o 16 (.bin .lss (T 14) (T 15))]
def r83_26 : LO := [o 4 (mi (-1))]
def k83_4 : ACode := .seq (.region r83_25) (.cond (T 16) (.seq (.region r83_26) .ret) .skip)
def r83_32 : LO := [o 17 (mv 0), o 18 (mv 1), o 19 (.bin .gtr (T 17) (T 18))]
def r83_33 : LO := [o 4 (mi 1)]
def k83_5 : ACode := .seq (.region r83_32) (.cond (T 19) (.seq (.region r83_33) .ret) .skip)
def r83_39 : LO := [o 4 (mi 0)]
def k83_6 : ACode := .seq k83_3 (.seq k83_4 (.seq k83_5 (.seq (.region r83_39) .ret)))
def k83_7 : ACode := .seq (.region r83_1) (.seq (.region r83_2) (.seq k83_2 k83_6))
def k83_8 : ACode := .seq (.region r83_0) k83_7
theorem fn83 : getFn Tryz.prog 83 = some (20, k83_8, [.tmp 4]) := by kernel_rfl
def r142_0 : LO := [o 2 (mb false)]
def r142_1 : LO := [o 3 (mv 0), o 4 (mv 0), o 5 (.bin .neq (T 3) (T 4)), o 2 (mv 5)]
def k142_1 : ACode := .seq (.region r142_0) (.seq (.region r142_1) .ret)
theorem fn142 : getFn Tryz.prog 142 = some (6, k142_1, [.tmp 2]) := by kernel_rfl
def r217_0 : LO := [o 1 (bx 0), o 2 (mb false)]
def r217_1 : LO := [o 3 (fa 0 1), o 4 (ld 3), o 5 (.bin .eql (T 4) (ci 11)), o 6 (mv 5), og 7 (fa 3 1) 6 true, og 8 (ld 7) 6 true, og 9 (.len false (T 8)) 6 true, og 10 (.bin .eql (T 9) (ci 0)) 6 true, o 11 (.pick (T 6) (T 10) (cb false)), o 12 (mv 11), og 13 (fa 0 1) 12 false, og 14 (ld 13) 12 false, og 15 (.bin .eql (T 14) (ci 12)) 12 false, og 16 (mv 15) 12 false, og 17 (fa 4 1) 16 true, og 18 (ld 17) 16 true, og 19 (.len false (T 18)) 16 true, og 20 (.bin .eql (T 19) (ci 0)) 16 true, og 21 (.pick (T 16) (T 20) (cb false)) 12 false, o 22 (.pick (T 12) (cb true) (T 21)), o 23 (mv 22), og 24 (ln 7 1) 23 false, og 25 (.call (cf 140) [(T 24)]) 23 false, o 26 (.pick (T 23) (cb true) (T 25)), o 2 (mv 26)]
def k217_1 : ACode := .seq (.region r217_0) (.seq (.region r217_1) .ret)
theorem fn217 : getFn Tryz.prog 217 = some (27, k217_1, [.tmp 2]) := by kernel_rfl
def r140_0 : LO := [o 1 (bx 0), o 2 (mb false)]
def r140_1 : LO := [o 3 (fa 0 1), o 4 (ld 3), o 5 (.call (cf 124) [(T 4)]), o 6 (mv 5), og 7 (ln 7 1) 6 true, og 8 (.call (cf 196) [(T 7)]) 6 true, o 9 (.pick (T 6) (T 8) (cb false)), o 10 (mv 9), og 11 (fa 1 1) 10 true, og 12 (ld 11) 10 true, og 13 (.bin .eql (T 12) (.c (aU 0))) 10 true, o 14 (.pick (T 10) (T 13) (cb false)), o 15 (mv 14), og 16 (fa 2 1) 15 true, og 17 (ld 16) 15 true, og 18 (.bin .eql (T 17) (.c aE)) 15 true, o 19 (.pick (T 15) (T 18) (cb false)), o 2 (mv 19)]
def k140_1 : ACode := .seq (.region r140_0) (.seq (.region r140_1) .ret)
theorem fn140 : getFn Tryz.prog 140 = some (20, k140_1, [.tmp 2]) := by kernel_rfl
def r196_0 : LO := [o 1 (bx 0), o 2 (mb false)]
def r196_1 : LO := [o 3 (fa 3 1), o 4 (ld 3), o 5 (.len false (T 4)), o 6 (fa 4 1), o 7 (ld 6), o 8 (.len false (T 7)), o 9 (.bin .add (T 5) (T 8)), o 10 (fa 5 1), o 11 (ld 10), o 12 (.len false (T 11)), o 13 (.bin .add (T 9) (T 12)), o 14 (fa 6 1), o 15 (ld 14), o 16 (.len false (T 15)), o 17 (.bin .add (T 13) (T 16)), o 18 (.bin .gtr (T 17) (ci 0))]
def r196_2 : LO := [o 2 (mb false)]
def k196_1 : ACode := .seq (.region r196_1) (.cond (T 18) (.seq (.region r196_2) .ret) .skip)
def r196_8 : LO := [o 19 (fa 0 1), o 20 (ld 19), o 21 (.call (cf 237) [(T 20)])]
def r196_9 : LO := [o 22 (fa 1 1), o 23 (ld 22), o 24 (.bin .eql (T 23) (.c (aU 0))), o 2 (mv 24)]
def k196_2 : ACode := .seq (.region r196_8) (.cond (T 21) (.seq (.region r196_9) .ret) .skip)
def r196_15 : LO := [o 25 (fa 2 1), o 26 (ld 25), o 27 (.bin .eql (T 26) (.c aE)), o 2 (mv 27)]
def k196_3 : ACode := .seq (.region r196_0) (.seq k196_1 (.seq k196_2 (.seq (.region r196_15) .ret)))
theorem fn196 : getFn Tryz.prog 196 = some (28, k196_3, [.tmp 2]) := by kernel_rfl
def r237_0 : LO := [o 2 (mb false)]
def r237_1 : LO := [o 3 (mv 0), o 4 (.bin .eql (T 3) (ci 7)), o 5 (mv 4), og 6 (mv 0) 5 false, og 7 (.bin .eql (T 6) (ci 8)) 5 false, o 8 (.pick (T 5) (cb true) (T 7)), o 2 (mv 8)]
def k237_1 : ACode := .seq (.region r237_0) (.seq (.region r237_1) .ret)
theorem fn237 : getFn Tryz.prog 237 = some (9, k237_1, [.tmp 2]) := by kernel_rfl
def r216_0 : LO := [o 3 (bx 0), o 4 (bx 1), o 5 (bx 2), o 6 (.alloc zV)]
def r216_1 : LO := [o 13 (fa 3 4), o 14 (ld 13)]
def r216_2 : LO := [o 16 (.bin .eql (T 14) (ci 4)), o 15 (mv 16)]
def r216_3 : LO := [o 17 (.build zV [((0, 1), (ci 11))]), o 7 (.alloc zV), on (st 7 7 17)]
def r216_4 : LO := [o 18 (fa 3 5), o 19 (ld 18), o 20 (.len false (T 19)), o 21 (mi 0)]
def r216_5 : LO := [o 22 (.bin .lss (T 21) (T 20))]
def r216_9 : LO := [o 23 (.idxSl 7 (T 19) (T 21)), o 24 (ln 7 23), o 9 (.alloc zV), on (st 7 9 24)]
def r216_10 : LO := [o 25 (fa 3 7), o 26 (ld 25), o 27 (ln 2 3), o 28 (ln 8 4), o 29 (ln 7 9), o 30 (.call (cf 294) [(T 27), (T 28), (T 29)]), o 31 (.sliceLit 7 1 zV [((0, 7), (T 30))]), o 32 (.append 55 7 128 (T 26) (T 31))]
def r216_10t : LO := [o 33 (fa 3 7), on (st 1 33 32)]
def r216_10o : LN := [[], [0], [], [], [], [2, 3, 4], [5], [1, 5, 6]]
def k216_1 : ACode := .block 2 (.seq (.region r216_9) (.drawn r216_10o r216_10 r216_10t))
def r216_13 : LO := [o 34 (.bin .add (T 21) (ci 1)), o 21 (mv 34)]
def k216_2 : ACode := .seq (.cond (T 22) .skip (.exit 1)) (.seq k216_1 (.region r216_13))
def k216_3 : ACode := .seq (.region r216_5) k216_2
def r216_20 : LO := [o 35 (ln 7 7), on (st 7 6 35)]
def k216_4 : ACode := .seq (.seq (.region r216_4) (.block 1 (.loop k216_3))) (.seq (.region r216_20) .ret)
def r216_25 : LO := [o 37 (.bin .eql (T 14) (ci 5)), o 36 (mv 37)]
def r216_26 : LO := [o 38 (.build zV [((0, 1), (ci 12))]), o 10 (.alloc zV), on (st 7 10 38)]
def r216_27 : LO := [o 39 (fa 4 5), o 40 (ld 39), o 41 (.call (cf 138) [(T 40)]), o 42 (.len false (T 41)), o 43 (mi 0)]
def r216_28 : LO := [o 44 (.bin .lss (T 43) (T 42))]
def r216_32 : LO := [o 45 (.idxSl 14 (T 41) (T 43)), o 46 (ln 14 45), o 12 (.alloc [(aI 0), (aU 0), aE, .nil, .nil, .nil, .nil, (aI 0), (aU 0), aE, .nil, .nil, .nil, .nil]), on (st 14 12 46)]
def r216_33 : LO := [o 47 (fa 4 10), o 48 (ld 47), o 49 (fa 0 12), o 50 (ln 7 49), o 51 (.call (cf 139) [(T 50)]), o 52 (ln 2 3), o 53 (ln 8 4), o 54 (fa 7 12), o 55 (ln 7 54), o 56 (.call (cf 294) [(T 52), (T 53), (T 55)]), o 57 (.build [(aI 0), (aU 0), aE, .nil, .nil, .nil, .nil, (aI 0), (aU 0), aE, .nil, .nil, .nil, .nil] [((0, 7), (T 51)), ((7, 7), (T 56))]), o 58 (.sliceLit 14 1 [(aI 0), (aU 0), aE, .nil, .nil, .nil, .nil, (aI 0), (aU 0), aE, .nil, .nil, .nil, .nil] [((0, 14), (T 57))]), o 59 (.append 237 14 256 (T 48) (T 58))]
def r216_33t : LO := [o 60 (fa 4 10), on (st 1 60 59)]
def r216_33o : LN := [[], [0], [], [2], [3], [], [], [], [7], [4, 5, 6, 8], [4, 9], [10], [1, 9, 11]]
def k216_5 : ACode := .block 4 (.seq (.region r216_32) (.drawn r216_33o r216_33 r216_33t))
def r216_36 : LO := [o 61 (.bin .add (T 43) (ci 1)), o 43 (mv 61)]
def k216_6 : ACode := .seq (.cond (T 44) .skip (.exit 3)) (.seq k216_5 (.region r216_36))
def k216_7 : ACode := .seq (.region r216_28) k216_6
def r216_43 : LO := [o 62 (ln 7 10), on (st 7 6 62)]
def k216_8 : ACode := .seq (.seq (.region r216_27) (.block 3 (.loop k216_7))) (.seq (.region r216_43) .ret)
def k216_9 : ACode := .seq (.region r216_25) (.cond (T 36) (.seq (.region r216_26) k216_8) .skip)
def k216_10 : ACode := .seq (.region r216_2) (.cond (T 15) (.seq (.region r216_3) k216_4) k216_9)
def r216_55 : LO := [o 63 (ln 2 3), o 64 (ln 8 4), o 65 (ln 7 5), o 66 (.call (cf 294) [(T 63), (T 64), (T 65)]), on (st 7 6 66)]
def k216_11 : ACode := .seq (.seq (.region r216_1) (.block 0 k216_10)) (.seq (.region r216_55) .ret)
def k216_12 : ACode := .seq (.region r216_0) k216_11
theorem fn216 : getFn Tryz.prog 216 = some (67, k216_12, [.cell 6 (some 7)]) := by kernel_rfl
def r294_0 : LO := [o 3 (bx 0), o 4 (bx 1), o 5 (bx 2), o 6 (.alloc zV)]
def r294_1 : LO := [o 7 (fa 5 4), o 8 (ld 7), o 9 (.bin .eql (T 8) (ci 10))]
def r294_2 : LO := [o 10 (ln 2 3), o 11 (fa 6 4), o 12 (ld 11), o 13 (ln 7 5), o 14 (.call (cf 154) [(T 10), (T 12), (T 13)]), on (st 7 6 14)]
def k294_1 : ACode := .seq (.region r294_1) (.cond (T 9) (.seq (.region r294_2) .ret) .skip)
def r294_8 : LO := [o 15 (ln 7 5), o 16 (.call (cf 139) [(T 15)]), on (st 7 6 16)]
def k294_2 : ACode := .seq (.region r294_0) (.seq k294_1 (.seq (.region r294_8) .ret))
theorem fn294 : getFn Tryz.prog 294 = some (17, k294_2, [.cell 6 (some 7)]) := by kernel_rfl
def r139_0 : LO := [o 1 (bx 0), o 2 (.alloc zV)]
def r139_1 : LO := [o 3 (fa 0 1), o 4 (ld 3), o 5 (.bin .eql (T 4) (ci 6)), o 6 (mv 5), og 7 (fa 1 1) 6 true, og 8 (ld 7) 6 true, og 9 (.call (cf 195) [(T 8)]) 6 true, og 10 (.bin .eql (T 9) (ci 0)) 6 true, o 11 (.pick (T 6) (T 10) (cb false))]
def r139_2 : LO := [o 12 (fa 1 1), on (.store 1 (T 12) (.c (aU 9221120237041090560)))]
def r139_6 : LO := [o 13 (ln 7 1), on (st 7 2 13)]
def k139_1 : ACode := .seq (.seq (.region r139_1) (.cond (T 11) (.region r139_2) .skip)) (.seq (.region r139_6) .ret)
def k139_2 : ACode := .seq (.region r139_0) k139_1
theorem fn139 : getFn Tryz.prog 139 = some (14, k139_2, [.cell 2 (some 7)]) := by kernel_rfl
def r123_0 : LO := [o 2 (bx 0), o 3 (bx 1), o 4 (.alloc [(aI 0), aE, aE, (aI 0), (aI 0), (aI 0), (aI 0), (aI 0)]), o 5 (mb false)]
def r123_1 : LO := [o 6 (.func (.func 180) [] [(T 3)]), o 7 (.build [(.v .nilFunc)] [((0, 1), (T 6))]), o 8 (ln 3 2), o 9 (.call (cf 181) [(T 7), (T 8)]), o 10 (.extract 0 (T 9)), o 11 (.extract 1 (T 9)), on (st 8 4 10), o 5 (mv 11)]
def k123_1 : ACode := .seq (.region r123_0) (.seq (.region r123_1) .ret)
theorem fn123 : getFn Tryz.prog 123 = some (12, k123_1, [.cell 4 (some 8), .tmp 5]) := by kernel_rfl
def r181_0 : LO := [o 2 (bx 0), o 3 (bx 1), o 4 (.alloc [(aI 0), aE, aE, (aI 0), (aI 0), (aI 0), (aI 0), (aI 0)]), o 5 (mb false)]
def r181_1 : LO := [o 7 (fa 1 3), o 8 (ld 7), o 9 (fa 0 2), o 10 (ld 9), o 11 (.call (cf 243) [(T 8), (T 10)]), o 6 (mv 11)]
def r181_2 : LO := [o 12 (mv 6), o 13 (.bin .lss (T 12) (ci 0))]
def r181_3 : LO := [o 14 (.build [(aI 0), aE, aE, (aI 0), (aI 0), (aI 0), (aI 0), (aI 0)] []), on (st 8 4 14), o 5 (mb false)]
def k181_1 : ACode := .seq (.region r181_2) (.cond (T 13) (.seq (.region r181_3) .ret) .skip)
def r181_9 : LO := [o 15 (fa 1 3), o 16 (ld 15), o 17 (mv 6), o 18 (.idxSl 8 (T 16) (T 17)), o 19 (ln 8 18), on (st 8 4 19), o 5 (mb true)]
def k181_2 : ACode := .seq (.region r181_1) (.seq k181_1 (.seq (.region r181_9) .ret))
def k181_3 : ACode := .seq (.region r181_0) k181_2
theorem fn181 : getFn Tryz.prog 181 = some (20, k181_3, [.cell 4 (some 8), .tmp 5]) := by kernel_rfl
def r243_0 : LO := [o 4 (mi 0)]
def r243_1 : LO := [o 6 (mv 0), o 7 (.len false (T 6)), o 8 (mi 0)]
def r243_2 : LO := [o 9 (.bin .lss (T 8) (T 7))]
def r243_6 : LO := [o 10 (mv 8), o 5 (mv 10)]
def r243_7 : LO := [o 11 (mv 1), o 12 (mv 0), o 13 (mv 5), o 14 (.idxSl 8 (T 12) (T 13)), o 15 (ln 8 14), o 16 (.call (T 11) [(T 15)])]
def r243_8 : LO := [o 17 (mv 5), o 4 (mv 17)]
def k243_1 : ACode := .seq (.region r243_7) (.cond (T 16) (.seq (.region r243_8) .ret) .skip)
def r243_16 : LO := [o 18 (.bin .add (T 8) (ci 1)), o 8 (mv 18)]
def k243_2 : ACode := .seq (.block 1 (.seq (.region r243_6) k243_1)) (.region r243_16)
def k243_3 : ACode := .seq (.region r243_2) (.seq (.cond (T 9) .skip (.exit 0)) k243_2)
def r243_23 : LO := [o 4 (mi (-1))]
def k243_4 : ACode := .seq (.seq (.region r243_1) (.block 0 (.loop k243_3))) (.seq (.region r243_23) .ret)
def k243_5 : ACode := .seq (.region r243_0) k243_4
theorem fn243 : getFn Tryz.prog 243 = some (19, k243_5, [.tmp 4]) := by kernel_rfl
def r180_0 : LO := [o 2 (bx 0), o 3 (mb false)]
def r180_1 : LO := [o 4 (fa 0 2), o 5 (ld 4), o 6 (ld 1), o 7 (.bin .eql (T 5) (T 6)), o 3 (mv 7)]
def k180_1 : ACode := .seq (.region r180_0) (.seq (.region r180_1) .ret)
theorem fn180 : getFn Tryz.prog 180 = some (8, k180_1, [.tmp 3]) := by kernel_rfl
def r81_0 : LO := [o 4 (mv 0), o 5 (mv 0), o 6 (.len false (T 5)), o 7 (mv 1), o 8 (.call (cf 141) [(T 4), (T 6), (T 7)])]
theorem fn81 : getFn Tryz.prog 81 = some (9, .region r81_0, []) := by kernel_rfl
def r141_0 : LO := [o 6 (mi 20)]
def r141_1 : LO := [o 10 (mv 6), o 7 (mi 0), o 8 (mv 10)]
def r141_2 : LO := [o 11 (mv 8), o 12 (mv 1), o 13 (.bin .leq (T 11) (T 12))]
def r141_7 : LO := [o 14 (mv 0), o 15 (mv 7), o 16 (mv 8), o 17 (mv 2), o 18 (.call (cf 197) [(T 14), (T 15), (T 16), (T 17)])]
def r141_8 : LO := [o 19 (mv 8), o 7 (mv 19)]
def r141_9 : LO := [o 20 (mv 8), o 21 (mv 6), o 22 (.bin .add (T 20) (T 21)), o 8 (mv 22)]
def k141_1 : ACode := .seq (.region r141_7) (.seq (.region r141_8) (.region r141_9))
def k141_2 : ACode := .seq (.seq (.region r141_2) (.cond (T 13) .skip (.exit 0))) (.block 1 k141_1)
def r141_16 : LO := [o 23 (mv 0), o 24 (mv 7), o 25 (mv 1), o 26 (mv 2), o 27 (.call (cf 197) [(T 23), (T 24), (T 25), (T 26)])]
def r141_17 : LO := [o 28 (mv 6), o 29 (mv 1), o 30 (.bin .lss (T 28) (T 29))]
def r141_22 : LO := [o 31 (mv 6), o 32 (.bin .mul (ci 2) (T 31)), o 7 (mi 0), o 8 (mv 32)]
def r141_23 : LO := [o 33 (mv 8), o 34 (mv 1), o 35 (.bin .leq (T 33) (T 34))]
def r141_28 : LO := [o 36 (mv 0), o 37 (mv 7), o 38 (mv 7), o 39 (mv 6), o 40 (.bin .add (T 38) (T 39)), o 41 (mv 8), o 42 (mv 2), o 43 (.call (cf 198) [(T 36), (T 37), (T 40), (T 41), (T 42)])]
def r141_29 : LO := [o 44 (mv 8), o 7 (mv 44)]
def r141_30 : LO := [o 45 (mv 8), o 46 (mv 6), o 47 (.bin .mul (ci 2) (T 46)), o 48 (.bin .add (T 45) (T 47)), o 8 (mv 48)]
def k141_3 : ACode := .seq (.region r141_28) (.seq (.region r141_29) (.region r141_30))
def k141_4 : ACode := .seq (.seq (.region r141_23) (.cond (T 35) .skip (.exit 4))) (.block 5 k141_3)
def r141_37 : LO := [o 49 (mv 7), o 50 (mv 6), o 51 (.bin .add (T 49) (T 50)), o 9 (mv 51)]
def r141_38 : LO := [o 52 (mv 9), o 53 (mv 1), o 54 (.bin .lss (T 52) (T 53))]
def r141_39 : LO := [o 55 (mv 0), o 56 (mv 7), o 57 (mv 9), o 58 (mv 1), o 59 (mv 2), o 60 (.call (cf 198) [(T 55), (T 56), (T 57), (T 58), (T 59)])]
def k141_5 : ACode := .seq (.region r141_38) (.cond (T 54) (.region r141_39) .skip)
def r141_44 : LO := [o 61 (mv 6), o 62 (.bin .mul (T 61) (ci 2)), o 6 (mv 62)]
def k141_6 : ACode := .seq (.block 4 (.loop k141_4)) (.seq (.seq (.region r141_37) k141_5) (.region r141_44))
def k141_7 : ACode := .seq (.seq (.region r141_17) (.cond (T 30) .skip (.exit 2))) (.block 3 (.seq (.region r141_22) k141_6))
def k141_8 : ACode := .seq (.block 0 (.loop k141_2)) (.seq (.region r141_16) (.block 2 (.loop k141_7)))
def k141_9 : ACode := .seq (.region r141_0) (.seq (.region r141_1) k141_8)
theorem fn141 : getFn Tryz.prog 141 = some (63, k141_9, []) := by kernel_rfl
def r197_0 : LO := [o 10 (mv 1), o 11 (.bin .add (T 10) (ci 1)), o 8 (mv 11)]
def r197_1 : LO := [o 12 (mv 8), o 13 (mv 2), o 14 (.bin .lss (T 12) (T 13))]
def r197_6 : LO := [o 17 (mv 8), o 9 (mv 17)]
def r197_7 : LO := [o 18 (mv 9), o 19 (mv 1), o 20 (.bin .gtr (T 18) (T 19)), o 21 (mv 20), og 22 (mv 3) 21 true, og 23 (mv 0) 21 true, og 24 (mv 9) 21 true, og 25 (.idxSl 4 (T 23) (T 24)) 21 true, og 26 (ln 4 25) 21 true, og 27 (mv 0) 21 true, og 28 (mv 9) 21 true, og 29 (.bin .sub (T 28) (ci 1)) 21 true, og 30 (.idxSl 4 (T 27) (T 29)) 21 true, og 31 (ln 4 30) 21 true, og 32 (.call (T 22) [(T 26), (T 31)]) 21 true, og 33 (.bin .lss (T 32) (ci 0)) 21 true, o 34 (.pick (T 21) (T 33) (cb false))]
def r197_7t : LO := []
def r197_7o : LN := [[], [], [0, 1], [2], [3], [3], [3], [3, 5, 6], [3, 7], [3], [3], [3, 10], [3, 9, 11], [3, 12], [3, 4, 8, 13], [3, 14], [3, 15]]
def k197_1 : ACode := .seq (.drawn r197_7o r197_7 r197_7t) (.cond (T 34) .skip (.exit 2))
def r197_12 : LO := [o 37 (mv 0), o 38 (mv 9), o 39 (mv 0), o 40 (mv 9), o 41 (.bin .sub (T 40) (ci 1)), o 42 (mv 0), o 43 (mv 9), o 44 (.bin .sub (T 43) (ci 1)), o 45 (.idxSl 4 (T 42) (T 44)), o 46 (ln 4 45), o 47 (mv 0), o 48 (mv 9), o 49 (.idxSl 4 (T 47) (T 48)), o 50 (ln 4 49), o 51 (.idxSl 4 (T 37) (T 38)), on (st 4 51 46)]
def r197_12t : LO := [o 52 (.idxSl 4 (T 39) (T 41)), on (st 4 52 50)]
def r197_12o : LN := [[], [], [], [], [3], [], [], [6], [5, 7], [8], [], [], [10, 11], [12], [0, 1, 5, 6, 7, 8, 9, 13], [0, 1, 5, 6, 7, 8, 9, 13, 14]]
def r197_14 : LO := [o 35 (mv 9), o 36 (.bin .sub (T 35) (ci 1)), o 9 (mv 36)]
def k197_2 : ACode := .seq (.block 3 (.drawn r197_12o r197_12 r197_12t)) (.region r197_14)
def k197_3 : ACode := .seq k197_1 k197_2
def r197_21 : LO := [o 15 (mv 8), o 16 (.bin .add (T 15) (ci 1)), o 8 (mv 16)]
def k197_4 : ACode := .seq (.block 1 (.seq (.region r197_6) (.block 2 (.loop k197_3)))) (.region r197_21)
def k197_5 : ACode := .seq (.seq (.region r197_1) (.cond (T 14) .skip (.exit 0))) k197_4
def k197_6 : ACode := .seq (.region r197_0) (.block 0 (.loop k197_5))
theorem fn197 : getFn Tryz.prog 197 = some (53, k197_6, []) := by kernel_rfl
def r78_0 : LO := [o 2 (.mv (.c .nil))]
def r78_1 : LO := [o 7 (mv 0), o 8 (.call (cf 119) [(T 7)]), o 3 (mv 8)]
def r78_2 : LO := [o 9 (mv 3), o 10 (.call (cf 133) [(T 9), (cf 134)])]
def r78_3 : LO := [o 4 (.mv (.c .nil))]
def r78_4 : LO := [o 11 (mv 3), o 12 (.len false (T 11)), o 13 (mi 0)]
def r78_5 : LO := [o 14 (.bin .lss (T 13) (T 12))]
def r78_9 : LO := [o 15 (mv 13), o 16 (.idxSl 8 (T 11) (T 13)), o 17 (ln 8 16), o 6 (.alloc [(aI 0), (aI 0), (aU 0), aE, .nil, .nil, .nil, .nil]), o 5 (mv 15), on (st 8 6 17)]
def r78_10 : LO := [o 18 (mv 5), o 19 (.bin .add (T 18) (ci 1)), o 20 (mv 3), o 21 (.len false (T 20)), o 22 (.bin .eql (T 19) (T 21)), o 23 (mv 22), og 24 (fa 0 6) 23 false, og 25 (ld 24) 23 false, og 26 (mv 3) 23 false, og 27 (mv 5) 23 false, og 28 (.bin .add (T 27) (ci 1)) 23 false, og 29 (.idxSl 8 (T 26) (T 28)) 23 false, og 30 (fa 0 29) 23 false, og 31 (ld 30) 23 false, og 32 (.bin .neq (T 25) (T 31)) 23 false, o 33 (.pick (T 23) (cb true) (T 32))]
def r78_10t : LO := []
def r78_10o : LN := [[], [0], [], [2], [1, 3], [4], [5], [5, 6], [5], [5], [5, 9], [5, 8, 10], [5, 11], [5, 12], [5, 7, 13], [5, 14]]
def r78_11 : LO := [o 34 (mv 4), o 35 (ln 8 6), o 36 (.sliceLit 8 1 [(aI 0), (aI 0), (aU 0), aE, .nil, .nil, .nil, .nil] [((0, 8), (T 35))]), o 37 (.append 66 8 136 (T 34) (T 36)), o 4 (mv 37)]
def k78_1 : ACode := .seq (.drawn r78_10o r78_10 r78_10t) (.cond (T 33) (.region r78_11) .skip)
def r78_17 : LO := [o 38 (.bin .add (T 13) (ci 1)), o 13 (mv 38)]
def k78_2 : ACode := .seq (.block 1 (.seq (.region r78_9) k78_1)) (.region r78_17)
def k78_3 : ACode := .seq (.region r78_5) (.seq (.cond (T 14) .skip (.exit 0)) k78_2)
def r78_24 : LO := [o 39 (mv 4), o 2 (mv 39)]
def k78_4 : ACode := .seq (.seq (.region r78_4) (.block 0 (.loop k78_3))) (.seq (.region r78_24) .ret)
def k78_5 : ACode := .seq (.region r78_1) (.seq (.region r78_2) (.seq (.region r78_3) k78_4))
def k78_6 : ACode := .seq (.region r78_0) k78_5
theorem fn78 : getFn Tryz.prog 78 = some (40, k78_6, [.tmp 2]) := by kernel_rfl
def r134_0 : LO := [o 2 (bx 0), o 3 (bx 1), o 4 (mi 0)]
def r134_1 : LO := [o 5 (fa 0 2), o 6 (ld 5), o 7 (fa 0 3), o 8 (ld 7), o 9 (.call (cf 83) [(T 6), (T 8)]), o 4 (mv 9)]
def k134_1 : ACode := .seq (.region r134_0) (.seq (.region r134_1) .ret)
theorem fn134 : getFn Tryz.prog 134 = some (10, k134_1, [.tmp 4]) := by kernel_rfl
def r133_0 : LO := [o 4 (mv 0), o 5 (mv 0), o 6 (.len false (T 5)), o 7 (mv 1), o 8 (.call (cf 189) [(T 4), (T 6), (T 7)])]
theorem fn133 : getFn Tryz.prog 133 = some (9, .region r133_0, []) := by kernel_rfl
def r189_0 : LO := [o 6 (mi 20)]
def r189_1 : LO := [o 10 (mv 6), o 7 (mi 0), o 8 (mv 10)]
def r189_2 : LO := [o 11 (mv 8), o 12 (mv 1), o 13 (.bin .leq (T 11) (T 12))]
def r189_7 : LO := [o 14 (mv 0), o 15 (mv 7), o 16 (mv 8), o 17 (mv 2), o 18 (.call (cf 252) [(T 14), (T 15), (T 16), (T 17)])]
def r189_8 : LO := [o 19 (mv 8), o 7 (mv 19)]
def r189_9 : LO := [o 20 (mv 8), o 21 (mv 6), o 22 (.bin .add (T 20) (T 21)), o 8 (mv 22)]
def k189_1 : ACode := .seq (.region r189_7) (.seq (.region r189_8) (.region r189_9))
def k189_2 : ACode := .seq (.seq (.region r189_2) (.cond (T 13) .skip (.exit 0))) (.block 1 k189_1)
def r189_16 : LO := [o 23 (mv 0), o 24 (mv 7), o 25 (mv 1), o 26 (mv 2), o 27 (.call (cf 252) [(T 23), (T 24), (T 25), (T 26)])]
def r189_17 : LO := [o 28 (mv 6), o 29 (mv 1), o 30 (.bin .lss (T 28) (T 29))]
def r189_22 : LO := [o 31 (mv 6), o 32 (.bin .mul (ci 2) (T 31)), o 7 (mi 0), o 8 (mv 32)]
def r189_23 : LO := [o 33 (mv 8), o 34 (mv 1), o 35 (.bin .leq (T 33) (T 34))]
def r189_28 : LO := [o 36 (mv 0), o 37 (mv 7), o 38 (mv 7), o 39 (mv 6), o 40 (.bin .add (T 38) (T 39)), o 41 (mv 8), o 42 (mv 2), o 43 (.call (cf 253) [(T 36), (T 37), (T 40), (T 41), (T 42)])]
def r189_29 : LO := [o 44 (mv 8), o 7 (mv 44)]
def r189_30 : LO := [o 45 (mv 8), o 46 (mv 6), o 47 (.bin .mul (ci 2) (T 46)), o 48 (.bin .add (T 45) (T 47)), o 8 (mv 48)]
def k189_3 : ACode := .seq (.region r189_28) (.seq (.region r189_29) (.region r189_30))
def k189_4 : ACode := .seq (.seq (.region r189_23) (.cond (T 35) .skip (.exit 4))) (.block 5 k189_3)
def r189_37 : LO := [o 49 (mv 7), o 50 (mv 6), o 51 (.bin .add (T 49) (T 50)), o 9 (mv 51)]
def r189_38 : LO := [o 52 (mv 9), o 53 (mv 1), o 54 (.bin .lss (T 52) (T 53))]
def r189_39 : LO := [o 55 (mv 0), o 56 (mv 7), o 57 (mv 9), o 58 (mv 1), o 59 (mv 2), o 60 (.call (cf 253) [(T 55), (T 56), (T 57), (T 58), (T 59)])]
def k189_5 : ACode := .seq (.region r189_38) (.cond (T 54) (.region r189_39) .skip)
def r189_44 : LO := [o 61 (mv 6), o 62 (.bin .mul (T 61) (ci 2)), o 6 (mv 62)]
def k189_6 : ACode := .seq (.block 4 (.loop k189_4)) (.seq (.seq (.region r189_37) k189_5) (.region r189_44))
def k189_7 : ACode := .seq (.seq (.region r189_17) (.cond (T 30) .skip (.exit 2))) (.block 3 (.seq (.region r189_22) k189_6))
def k189_8 : ACode := .seq (.block 0 (.loop k189_2)) (.seq (.region r189_16) (.block 2 (.loop k189_7)))
def k189_9 : ACode := .seq (.region r189_0) (.seq (.region r189_1) k189_8)
theorem fn189 : getFn Tryz.prog 189 = some (63, k189_9, []) := by kernel_rfl
def r252_0 : LO := [o 10 (mv 1), o 11 (.bin .add (T 10) (ci 1)), o 8 (mv 11)]
def r252_1 : LO := [o 12 (mv 8), o 13 (mv 2), o 14 (.bin .lss (T 12) (T 13))]
def r252_6 : LO := [o 17 (mv 8), o 9 (mv 17)]
def r252_7 : LO := [o 18 (mv 9), o 19 (mv 1), o 20 (.bin .gtr (T 18) (T 19)), o 21 (mv 20), og 22 (mv 3) 21 true, og 23 (mv 0) 21 true, og 24 (mv 9) 21 true, og 25 (.idxSl 8 (T 23) (T 24)) 21 true, og 26 (ln 8 25) 21 true, og 27 (mv 0) 21 true, og 28 (mv 9) 21 true, og 29 (.bin .sub (T 28) (ci 1)) 21 true, og 30 (.idxSl 8 (T 27) (T 29)) 21 true, og 31 (ln 8 30) 21 true, og 32 (.call (T 22) [(T 26), (T 31)]) 21 true, og 33 (.bin .lss (T 32) (ci 0)) 21 true, o 34 (.pick (T 21) (T 33) (cb false))]
def r252_7t : LO := []
def r252_7o : LN := [[], [], [0, 1], [2], [3], [3], [3], [3, 5, 6], [3, 7], [3], [3], [3, 10], [3, 9, 11], [3, 12], [3, 4, 8, 13], [3, 14], [3, 15]]
def k252_1 : ACode := .seq (.drawn r252_7o r252_7 r252_7t) (.cond (T 34) .skip (.exit 2))
def r252_12 : LO := [o 37 (mv 0), o 38 (mv 9), o 39 (mv 0), o 40 (mv 9), o 41 (.bin .sub (T 40) (ci 1)), o 42 (mv 0), o 43 (mv 9), o 44 (.bin .sub (T 43) (ci 1)), o 45 (.idxSl 8 (T 42) (T 44)), o 46 (ln 8 45), o 47 (mv 0), o 48 (mv 9), o 49 (.idxSl 8 (T 47) (T 48)), o 50 (ln 8 49), o 51 (.idxSl 8 (T 37) (T 38)), on (st 8 51 46)]
def r252_12t : LO := [o 52 (.idxSl 8 (T 39) (T 41)), on (st 8 52 50)]
def r252_12o : LN := [[], [], [], [], [3], [], [], [6], [5, 7], [8], [], [], [10, 11], [12], [0, 1, 5, 6, 7, 8, 9, 13], [0, 1, 5, 6, 7, 8, 9, 13, 14]]
def r252_14 : LO := [o 35 (mv 9), o 36 (.bin .sub (T 35) (ci 1)), o 9 (mv 36)]
def k252_2 : ACode := .seq (.block 3 (.drawn r252_12o r252_12 r252_12t)) (.region r252_14)
def k252_3 : ACode := .seq k252_1 k252_2
def r252_21 : LO := [o 15 (mv 8), o 16 (.bin .add (T 15) (ci 1)), o 8 (mv 16)]
def k252_4 : ACode := .seq (.block 1 (.seq (.region r252_6) (.block 2 (.loop k252_3)))) (.region r252_21)
def k252_5 : ACode := .seq (.seq (.region r252_1) (.cond (T 14) .skip (.exit 0))) k252_4
def k252_6 : ACode := .seq (.region r252_0) (.block 0 (.loop k252_5))
theorem fn252 : getFn Tryz.prog 252 = some (53, k252_6, []) := by kernel_rfl
def r119_0 : LO := [o 2 (.mv (.c .nil))]
def r119_1 : LO := [o 3 (mv 0), o 4 (.eq .slice true (T 3) (.c .nil))]
def r119_2 : LO := [o 2 (.mv (.c .nil))]
def k119_1 : ACode := .seq (.region r119_1) (.cond (T 4) (.seq (.region r119_2) .ret) .skip)
def r119_8 : LO := [o 5 (.sliceLit 8 0 [] []), o 6 (mv 0), o 7 (.append 66 8 136 (T 5) (T 6)), o 2 (mv 7)]
def k119_2 : ACode := .seq (.region r119_0) (.seq k119_1 (.seq (.region r119_8) .ret))
theorem fn119 : getFn Tryz.prog 119 = some (8, k119_2, [.tmp 2]) := by kernel_rfl
def r77_0 : LO := [o 2 (.mv (.c .nil))]
def r77_1 : LO := [o 3 (mv 0), o 4 (.eq .slice true (T 3) (.c .nil))]
def r77_2 : LO := [o 2 (.mv (.c .nil))]
def k77_1 : ACode := .seq (.region r77_1) (.cond (T 4) (.seq (.region r77_2) .ret) .skip)
def r77_8 : LO := [o 5 (.sliceLit 4 0 [] []), o 6 (mv 0), o 7 (.append 168 4 40 (T 5) (T 6)), o 2 (mv 7)]
def k77_2 : ACode := .seq (.region r77_0) (.seq k77_1 (.seq (.region r77_8) .ret))
theorem fn77 : getFn Tryz.prog 77 = some (8, k77_2, [.tmp 2]) := by kernel_rfl
def r153_0 : LO := [o 5 (bx 2)]
def r153_1 : LO := [o 14 (fa 5 5), o 15 (ld 14), o 16 (.len false (T 15)), o 17 (mi 0)]
def r153_2 : LO := [o 18 (.bin .lss (T 17) (T 16))]
def r153_6 : LO := [o 19 (.idxSl 8 (T 15) (T 17)), o 20 (ln 8 19), o 7 (.alloc [(aI 0), (aI 0), (aU 0), aE, .nil, .nil, .nil, .nil]), on (st 8 7 20)]
def r153_7 : LO := [o 22 (mv 0), o 23 (.nilCheck (T 22)), o 24 (fa 0 23), o 25 (fa 0 24), o 26 (ld 25), o 27 (mv 1), o 28 (.idxSl 3 (T 26) (T 27)), o 29 (ln 3 28), o 30 (fa 0 7), o 31 (ld 30), o 32 (.call (cf 123) [(T 29), (T 31)]), o 21 (mv 32), o 33 (.extract 0 (T 21)), o 34 (.extract 1 (T 21)), o 8 (.alloc [(aI 0), aE, aE, (aI 0), (aI 0), (aI 0), (aI 0), (aI 0)]), on (st 8 8 33)]
def r153_7t : LO := [o 9 (mv 34)]
def r153_7o : LN := [[], [0], [1], [2], [3], [], [4, 5], [6], [], [8], [7, 9], [10], [11], [11], [], [0, 1, 2, 3, 4, 5, 6, 7, 8, 9, 10, 11, 12, 14]]
def r153_8 : LO := [o 35 (fa 3 8), o 36 (ld 35)]
def r153_9 : LO := [o 45 (.bin .eql (T 36) (ci 4)), o 44 (mv 45)]
def r153_10 : LO := [o 46 (fa 1 7), o 47 (fa 3 46), o 48 (ld 47), o 49 (.len false (T 48)), o 50 (mi 0)]
def r153_11 : LO := [o 51 (.bin .lss (T 50) (T 49))]
def r153_15 : LO := [o 52 (.idxSl 7 (T 48) (T 50)), o 53 (ln 7 52), o 11 (.alloc zV), on (st 7 11 53)]
def r153_16 : LO := [o 54 (mv 0), o 55 (ln 8 8), o 56 (fa 1 8), o 57 (ld 56), o 58 (ln 7 11), o 59 (.call (cf 214) [(T 54), (T 55), (T 57), (T 58)])]
def r153_19 : LO := [o 60 (.bin .add (T 50) (ci 1)), o 50 (mv 60)]
def k153_1 : ACode := .seq (.block 4 (.seq (.region r153_15) (.region r153_16))) (.region r153_19)
def k153_2 : ACode := .seq (.region r153_11) (.seq (.cond (T 51) .skip (.exit 3)) k153_1)
def r153_26 : LO := [o 62 (.bin .eql (T 36) (ci 5)), o 61 (mv 62)]
def r153_27 : LO := [o 63 (fa 1 7), o 64 (fa 4 63), o 65 (ld 64), o 66 (.len false (T 65)), o 67 (mi 0)]
def r153_28 : LO := [o 68 (.bin .lss (T 67) (T 66))]
def r153_32 : LO := [o 69 (.idxSl 14 (T 65) (T 67)), o 70 (ln 14 69), o 13 (.alloc [(aI 0), (aU 0), aE, .nil, .nil, .nil, .nil, (aI 0), (aU 0), aE, .nil, .nil, .nil, .nil]), on (st 14 13 70)]
def r153_33 : LO := [o 71 (mv 0), o 72 (ln 8 8), o 73 (fa 1 8), o 74 (ld 73), o 75 (.bin .add (T 74) (.c (aS ⟨#[91]⟩))), o 76 (fa 0 13), o 77 (ln 7 76), o 78 (.call (cf 215) [(T 77)]), o 79 (.bin .add (T 75) (T 78)), o 80 (.bin .add (T 79) (.c (aS ⟨#[93]⟩))), o 81 (fa 7 13), o 82 (ln 7 81), o 83 (.call (cf 214) [(T 71), (T 72), (T 80), (T 82)])]
def r153_33t : LO := []
def r153_33o : LN := [[], [], [], [2], [3], [], [5], [6], [4, 7], [8], [], [10], [0, 1, 7, 9, 11]]
def k153_3 : ACode := .block 6 (.seq (.region r153_32) (.drawn r153_33o r153_33 r153_33t))
def r153_36 : LO := [o 84 (.bin .add (T 67) (ci 1)), o 67 (mv 84)]
def k153_4 : ACode := .seq (.cond (T 68) .skip (.exit 5)) (.seq k153_3 (.region r153_36))
def k153_5 : ACode := .seq (.region r153_28) k153_4
def r153_43 : LO := [o 37 (mv 0), o 38 (ln 8 8), o 39 (fa 1 8), o 40 (ld 39), o 41 (fa 1 7), o 42 (ln 7 41), o 43 (.call (cf 214) [(T 37), (T 38), (T 40), (T 42)])]
def k153_6 : ACode := .cond (T 61) (.seq (.region r153_27) (.block 5 (.loop k153_5))) (.region r153_43)
def k153_7 : ACode := .cond (T 44) (.seq (.region r153_10) (.block 3 (.loop k153_2))) (.seq (.region r153_26) k153_6)
def k153_8 : ACode := .seq (.region r153_8) (.block 2 (.seq (.region r153_9) k153_7))
def k153_9 : ACode := .seq (.region r153_6) (.seq (.drawn r153_7o r153_7 r153_7t) k153_8)
def r153_53 : LO := [o 85 (.bin .add (T 17) (ci 1)), o 17 (mv 85)]
def k153_10 : ACode := .seq (.cond (T 18) .skip (.exit 0)) (.seq (.block 1 k153_9) (.region r153_53))
def k153_11 : ACode := .seq (.region r153_2) k153_10
def k153_12 : ACode := .seq (.region r153_0) (.seq (.region r153_1) (.block 0 (.loop k153_11)))
theorem fn153 : getFn Tryz.prog 153 = some (86, k153_12, []) := by kernel_rfl
def r215_0 : LO := [o 1 (bx 0), o 2 (.mv (.c aE))]
def r215_1 : LO := [o 3 (fa 0 1), o 4 (ld 3), o 5 (ln 7 1), o 6 (.call (cf 266) [(T 4), (T 5)]), o 7 (.un .not (T 6))]
def r215_2 : LO := [o 2 (.mv (.c aE))]
def k215_1 : ACode := .seq (.region r215_1) (.cond (T 7) (.seq (.region r215_2) .ret) .skip)
def r215_8 : LO := [o 8 (fa 0 1), o 9 (ld 8)]
def r215_9 : LO := [o 11 (.bin .eql (T 9) (ci 1)), o 10 (mv 11)]
def r215_10 : LO := [o 12 (fa 1 1), o 13 (ld 12), o 14 (.bin .eql (T 13) (.c (aU 1))), o 15 (.call (cf 288) [(T 14)]), o 2 (mv 15)]
def r215_13 : LO := [o 17 (.bin .eql (T 9) (ci 2)), o 16 (mv 17)]
def r215_15 : LO := [o 18 (.bin .eql (T 9) (ci 3)), o 16 (mv 18)]
def k215_2 : ACode := .seq (.region r215_13) (.cond (T 16) .skip (.region r215_15))
def r215_18 : LO := [o 19 (fa 1 1), o 20 (ld 19), o 21 (.conv (.num .i64) (T 20)), o 22 (.call (cf 289) [(T 21)]), o 2 (mv 22)]
def r215_21 : LO := [o 24 (.bin .eql (T 9) (ci 6)), o 23 (mv 24)]
def r215_22 : LO := [o 25 (fa 1 1), o 26 (ld 25), o 27 (.call (cf 290) [(T 26)]), o 2 (mv 27)]
def r215_25 : LO := [o 29 (.bin .eql (T 9) (ci 7)), o 28 (mv 29)]
def r215_26 : LO := [o 30 (fa 2 1), o 31 (ld 30), o 32 (.call (cf 291) [(T 31)]), o 2 (mv 32)]
def r215_29 : LO := [o 34 (.bin .eql (T 9) (ci 8)), o 33 (mv 34)]
def r215_30 : LO := [o 35 (fa 2 1), o 36 (ld 35), o 37 (.call (cf 292) [(T 36)]), o 38 (.call (cf 291) [(T 37)]), o 39 (.bin .add (.c (aS ⟨#[120]⟩)) (T 38)), o 2 (mv 39)]
def k215_3 : ACode := .seq (.region r215_29) (.cond (T 33) (.seq (.region r215_30) .ret) .skip)
def k215_4 : ACode := .seq (.region r215_25) (.cond (T 28) (.seq (.region r215_26) .ret) k215_3)
def k215_5 : ACode := .seq (.region r215_21) (.cond (T 23) (.seq (.region r215_22) .ret) k215_4)
def k215_6 : ACode := .seq k215_2 (.cond (T 16) (.seq (.region r215_18) .ret) k215_5)
def k215_7 : ACode := .seq (.region r215_9) (.cond (T 10) (.seq (.region r215_10) .ret) k215_6)
def r215_46 : LO := [o 40 (fa 1 1), o 41 (ld 40), o 42 (.call (cf 293) [(T 41), (ci 10)]), o 2 (mv 42)]
def k215_8 : ACode := .seq (.seq (.region r215_8) (.block 0 k215_7)) (.seq (.region r215_46) .ret)
def k215_9 : ACode := .seq (.region r215_0) (.seq k215_1 k215_8)
theorem fn215 : getFn Tryz.prog 215 = some (43, k215_9, [.tmp 2]) := by kernel_rfl
def r293_0 : LO := [o 4 (.mv (.c aE))]
def r293_1 : LO := [o 5 (mv 0), o 6 (mv 1), o 7 (.call (cf 349) [(T 5), (T 6)]), o 4 (mv 7)]
def k293_1 : ACode := .seq (.region r293_0) (.seq (.region r293_1) .ret)
theorem fn293 : getFn Tryz.prog 293 = some (8, k293_1, [.tmp 4]) := by kernel_rfl
def r349_0 : LO := [o 4 (.mv (.c aE))]
def r349_1 : LO := [o 9 (mv 1), o 10 (.bin .eql (T 9) (ci 10))]
def r349_2 : LO := [o 11 (mv 0), o 12 (.bin .lss (T 11) (.c (aU 100)))]
def r349_3 : LO := [o 13 (mv 0), o 14 (.conv (.num .i64) (T 13)), o 15 (.call (cf 379) [(T 14)]), o 4 (mv 15)]
def k349_1 : ACode := .seq (.region r349_2) (.cond (T 12) (.seq (.region r349_3) .ret) .skip)
def r349_9 : LO := [o 5 (.alloc [(aC 0), (aC 0), (aC 0), (aC 0), (aC 0), (aC 0), (aC 0), (aC 0), (aC 0), (aC 0), (aC 0), (aC 0), (aC 0), (aC 0), (aC 0), (aC 0), (aC 0), (aC 0), (aC 0), (aC 0), (aC 0), (aC 0), (aC 0), (aC 0)])]
def r349_10 : LO := [o 16 (mv 0), o 17 (.call (cf 380) [(T 16)]), o 6 (mv 17)]
def r349_11 : LO := [o 18 (mv 6), o 19 (.bad), o 20 (mv 0), o 21 (.call (cf 381) [(T 19), (T 20)])]
def r349_12 : LO := [o 22 (mv 6), o 23 (.bad), o 24 (.conv .str (T 23)), o 4 (mv 24)]
def k349_2 : ACode := .seq (.region r349_10) (.seq (.region r349_11) (.seq (.region r349_12) .ret))
def k349_3 : ACode := .cond (T 10) (.seq k349_1 (.seq (.region r349_9) k349_2)) .skip
def r349_22 : LO := [o 26 (mv 0), o 27 (mv 1), o 28 (.call (cf 382) [(.c .nil), (T 26), (T 27), (cb false), (cb false)]), o 25 (mv 28), o 29 (.extract 0 (T 25)), o 30 (.extract 1 (T 25)), o 7 (mv 29), o 8 (mv 30)]
def r349_23 : LO := [o 31 (mv 8), o 4 (mv 31)]
def k349_4 : ACode := .seq (.seq (.region r349_1) k349_3) (.seq (.region r349_22) (.seq (.region r349_23) .ret))
def k349_5 : ACode := .seq (.region r349_0) k349_4
theorem fn349 : getFn Tryz.prog 349 = some (32, k349_5, [.tmp 4]) := by kernel_rfl
def r379_0 : LO := [o 2 (.mv (.c aE))]
def r379_1 : LO := [o 3 (mv 0), o 4 (.bin .lss (T 3) (ci 10))]
def r379_2 : LO := [o 5 (mv 0), o 6 (mv 0), o 7 (.bin .add (T 6) (ci 1)), o 8 (.sliceS (.c (aS ⟨#[48, 49, 50, 51, 52, 53, 54, 55, 56, 57, 97, 98, 99, 100, 101, 102, 103, 104, 105, 106, 107, 108, 109, 110, 111, 112, 113, 114, 115, 116, 117, 118, 119, 120, 121, 122]⟩)) (some (T 5)) (some (T 7))), o 2 (mv 8)]
def k379_1 : ACode := .seq (.region r379_1) (.cond (T 4) (.seq (.region r379_2) .ret) .skip)
def r379_8 : LO := [o 9 (mv 0), o 10 (.bin .mul (T 9) (ci 2)), o 11 (mv 0), o 12 (.bin .mul (T 11) (ci 2)), o 13 (.bin .add (T 12) (ci 2)), o 14 (.sliceS (.c (aS ⟨#[48, 48, 48, 49, 48, 50, 48, 51, 48, 52, 48, 53, 48, 54, 48, 55, 48, 56, 48, 57, 49, 48, 49, 49, 49, 50, 49, 51, 49, 52, 49, 53, 49, 54, 49, 55, 49, 56, 49, 57, 50, 48, 50, 49, 50, 50, 50, 51, 50, 52, 50, 53, 50, 54, 50, 55, 50, 56, 50, 57, 51, 48, 51, 49, 51, 50, 51, 51, 51, 52, 51, 53, 51, 54, 51, 55, 51, 56, 51, 57, 52, 48, 52, 49, 52, 50, 52, 51, 52, 52, 52, 53, 52, 54, 52, 55, 52, 56, 52, 57, 53, 48, 53, 49, 53, 50, 53, 51, 53, 52, 53, 53, 53, 54, 53, 55, 53, 56, 53, 57, 54, 48, 54, 49, 54, 50, 54, 51, 54, 52, 54, 53, 54, 54, 54, 55, 54, 56, 54, 57, 55, 48, 55, 49, 55, 50, 55, 51, 55, 52, 55, 53, 55, 54, 55, 55, 55, 56, 55, 57, 56, 48, 56, 49, 56, 50, 56, 51, 56, 52, 56, 53, 56, 54, 56, 55, 56, 56, 56, 57, 57, 48, 57, 49, 57, 50, 57, 51, 57, 52, 57, 53, 57, 54, 57, 55, 57, 56, 57, 57]⟩)) (some (T 10)) (some (T 13))), o 2 (mv 14)]
def k379_2 : ACode := .seq (.region r379_0) (.seq k379_1 (.seq (.region r379_8) .ret))
theorem fn379 : getFn Tryz.prog 379 = some (15, k379_2, [.tmp 2]) := by kernel_rfl
def r291_0 : LO := [o 2 (.mv (.c aE))]
def r291_1 : LO := [o 3 (.allocB 72 5)]
def r291_2 : LO := [o 6 (.call (cf 26) [(T 3), (.c (aS ⟨#[34]⟩))])]
def r291_3 : LO := [o 7 (mv 0), o 8 (.range (T 7))]
def r291_4 : LO := [o 9 (.next (T 8)), o 10 (.extract 0 (T 9))]
def r291_8 : LO := [o 11 (.extract 1 (T 9)), o 12 (.extract 2 (T 9)), o 4 (mv 11), o 5 (mv 12)]
def r291_9 : LO := [o 13 (mv 0), o 14 (mv 4), o 15 (mv 5), o 16 (.call (cf 348) [(T 13), (T 14), (T 15)]), o 17 (.call (cf 26) [(T 3), (T 16)])]
def k291_1 : ACode := .seq (.cond (T 10) .skip (.exit 0)) (.block 1 (.seq (.region r291_8) (.region r291_9)))
def k291_2 : ACode := .seq (.region r291_4) k291_1
def r291_17 : LO := [o 18 (.call (cf 26) [(T 3), (.c (aS ⟨#[34]⟩))])]
def r291_18 : LO := [o 19 (.call (cf 23) [(T 3)]), o 2 (mv 19)]
def k291_3 : ACode := .seq (.seq (.region r291_3) (.block 0 (.loop k291_2))) (.seq (.region r291_17) (.seq (.region r291_18) .ret))
def k291_4 : ACode := .seq (.region r291_0) (.seq (.region r291_1) (.seq (.region r291_2) k291_3))
theorem fn291 : getFn Tryz.prog 291 = some (20, k291_4, [.tmp 2]) := by kernel_rfl
def r348_0 : LO := [o 6 (.mv (.c aE))]
def r348_1 : LO := [o 8 (mv 2), o 9 (.bin .eql (T 8) (.c (.v (.int .i32 34)))), o 7 (mv 9)]
def r348_2 : LO := [o 6 (.mv (.c (aS ⟨#[92, 34]⟩)))]
def r348_5 : LO := [o 11 (mv 2), o 12 (.bin .eql (T 11) (.c (.v (.int .i32 92)))), o 10 (mv 12)]
def r348_6 : LO := [o 6 (.mv (.c (aS ⟨#[92, 92]⟩)))]
def r348_9 : LO := [o 14 (mv 2), o 15 (.bin .eql (T 14) (.c (.v (.int .i32 10)))), o 13 (mv 15)]
def r348_10 : LO := [o 6 (.mv (.c (aS ⟨#[92, 110]⟩)))]
def r348_13 : LO := [o 17 (mv 2), o 18 (.bin .eql (T 17) (.c (.v (.int .i32 9)))), o 16 (mv 18)]
def r348_14 : LO := [o 6 (.mv (.c (aS ⟨#[92, 116]⟩)))]
def r348_17 : LO := [o 20 (mv 2), o 21 (.bin .eql (T 20) (.c (.v (.int .i32 13)))), o 19 (mv 21)]
def r348_18 : LO := [o 6 (.mv (.c (aS ⟨#[92, 114]⟩)))]
def r348_21 : LO := [o 23 (mv 2), o 24 (.bin .lss (T 23) (.c (.v (.int .i32 32)))), o 25 (mv 24), og 26 (mv 2) 25 false, og 27 (.bin .eql (T 26) (.c (.v (.int .i32 127)))) 25 false, o 28 (.pick (T 25) (cb true) (T 27)), o 29 (mv 28), og 30 (mv 0) 29 false, og 31 (mv 1) 29 false, og 32 (mv 2) 29 false, og 33 (.call (cf 372) [(T 30), (T 31), (T 32)]) 29 false, o 34 (.pick (T 29) (cb true) (T 33)), o 22 (mv 34)]
def r348_22 : LO := [o 35 (mv 0), o 36 (mv 1), o 37 (.idxS (T 35) (T 36)), o 38 (.call (cf 378) [(T 37)]), o 6 (mv 38)]
def k348_1 : ACode := .seq (.region r348_21) (.cond (T 22) (.seq (.region r348_22) .ret) .skip)
def k348_2 : ACode := .seq (.region r348_17) (.cond (T 19) (.seq (.region r348_18) .ret) k348_1)
def k348_3 : ACode := .seq (.region r348_13) (.cond (T 16) (.seq (.region r348_14) .ret) k348_2)
def k348_4 : ACode := .seq (.region r348_9) (.cond (T 13) (.seq (.region r348_10) .ret) k348_3)
def k348_5 : ACode := .seq (.region r348_5) (.cond (T 10) (.seq (.region r348_6) .ret) k348_4)
def k348_6 : ACode := .seq (.region r348_1) (.cond (T 7) (.seq (.region r348_2) .ret) k348_5)
def r348_39 : LO := [o 39 (mv 2), o 40 (.conv .chr (T 39)), o 6 (mv 40)]
def k348_7 : ACode := .seq (.region r348_0) (.seq (.block 0 k348_6) (.seq (.region r348_39) .ret))
theorem fn348 : getFn Tryz.prog 348 = some (41, k348_7, [.tmp 6]) := by kernel_rfl
def r372_0 : LO := [o 6 (mb false)]
def r372_1 : LO := [o 7 (mv 2), o 8 (.bin .eql (T 7) (.c (.v (.int .i32 65533)))), o 9 (mv 8), og 10 (mv 0) 9 true, og 11 (mv 1) 9 true, og 12 (.sliceS (T 10) (some (T 11)) none) 9 true, og 13 (.call (cf 233) [(T 12), (.c (aS ⟨#[239, 191, 189]⟩))]) 9 true, og 14 (.un .not (T 13)) 9 true, o 15 (.pick (T 9) (T 14) (cb false)), o 6 (mv 15)]
def k372_1 : ACode := .seq (.region r372_0) (.seq (.region r372_1) .ret)
theorem fn372 : getFn Tryz.prog 372 = some (16, k372_1, [.tmp 6]) := by kernel_rfl
def r305_0 : LO := [o 4 (mb false)]
def r305_1 : LO := [o 5 (mv 0), o 6 (.len true (T 5)), o 7 (mv 1), o 8 (.len true (T 7)), o 9 (.bin .geq (T 6) (T 8)), o 10 (mv 9), og 11 (mv 0) 10 true, og 12 (mv 1) 10 true, og 13 (.len true (T 12)) 10 true, og 14 (.sliceS (T 11) none (some (T 13))) 10 true, og 15 (mv 1) 10 true, og 16 (.bin .eql (T 14) (T 15)) 10 true, o 17 (.pick (T 10) (T 16) (cb false)), o 4 (mv 17)]
def k305_1 : ACode := .seq (.region r305_0) (.seq (.region r305_1) .ret)
theorem fn305 : getFn Tryz.prog 305 = some (18, k305_1, [.tmp 4]) := by kernel_rfl
def r266_0 : LO := [o 3 (bx 1), o 4 (mb false)]
def r266_1 : LO := [o 5 (mv 0), o 6 (.call (cf 124) [(T 5)]), o 7 (.un .not (T 6)), o 8 (mv 7), og 9 (fa 0 3) 8 false, og 10 (ld 9) 8 false, og 11 (mv 0) 8 false, og 12 (.bin .neq (T 10) (T 11)) 8 false, o 13 (.pick (T 8) (cb true) (T 12)), o 14 (mv 13), og 15 (ln 7 3) 14 false, og 16 (.call (cf 196) [(T 15)]) 14 false, og 17 (.un .not (T 16)) 14 false, o 18 (.pick (T 14) (cb true) (T 17)), o 19 (mv 18), og 20 (mv 0) 19 false, og 21 (fa 1 3) 19 false, og 22 (ld 21) 19 false, og 23 (.call (cf 313) [(T 20), (T 22)]) 19 false, og 24 (.un .not (T 23)) 19 false, o 25 (.pick (T 19) (cb true) (T 24)), o 26 (mv 25), og 27 (fa 2 3) 26 false, og 28 (ld 27) 26 false, og 29 (.len true (T 28)) 26 false, og 30 (.bin .gtr (T 29) (ci 4096)) 26 false, o 31 (.pick (T 26) (cb true) (T 30))]
def r266_2 : LO := [o 4 (mb false)]
def k266_1 : ACode := .seq (.region r266_1) (.cond (T 31) (.seq (.region r266_2) .ret) .skip)
def r266_8 : LO := [o 32 (mv 0), o 33 (.bin .neq (T 32) (ci 7)), o 34 (mv 33), og 35 (fa 2 3) 34 false, og 36 (ld 35) 34 false, og 37 (.call (cf 275) [(T 36)]) 34 false, o 38 (.pick (T 34) (cb true) (T 37)), o 4 (mv 38)]
def k266_2 : ACode := .seq (.region r266_0) (.seq k266_1 (.seq (.region r266_8) .ret))
theorem fn266 : getFn Tryz.prog 266 = some (39, k266_2, [.tmp 4]) := by kernel_rfl
def r313_0 : LO := [o 4 (mb false)]
def r313_1 : LO := [o 5 (.mv (.c (aU 4294967295)))]
def r313_2 : LO := [o 6 (mv 0)]
def r313_3 : LO := [o 8 (.bin .eql (T 6) (ci 1)), o 7 (mv 8)]
def r313_8 : LO := [o 10 (.bin .eql (T 6) (ci 2)), o 9 (mv 10)]
def r313_13 : LO := [o 12 (.bin .eql (T 6) (ci 9)), o 11 (mv 12)]
def r313_18 : LO := [o 14 (.bin .eql (T 6) (ci 4)), o 13 (mv 14)]
def k313_1 : ACode := .seq (.seq (.region r313_13) (.cond (T 11) (.exit 3) .skip)) (.seq (.region r313_18) (.cond (T 13) (.exit 4) .skip))
def k313_2 : ACode := .seq (.seq (.region r313_8) (.cond (T 9) (.exit 2) .skip)) k313_1
def k313_3 : ACode := .seq (.seq (.region r313_3) (.cond (T 7) (.exit 1) .skip)) k313_2
def r313_29 : LO := [o 15 (mv 1), o 16 (.bin .leq (T 15) (.c (aU 1))), o 4 (mv 16)]
def k313_4 : ACode := .seq (.block 1 (.seq k313_3 (.exit 0))) (.seq (.seq (.region r313_29) .ret) (.exit 0))
def r313_36 : LO := [o 17 (mv 1), o 18 (.conv (.num .i64) (T 17)), o 19 (.bin .geq (T 18) (ci (-2147483648))), o 20 (mv 19), og 21 (mv 1) 20 true, og 22 (.conv (.num .i64) (T 21)) 20 true, og 23 (.bin .leq (T 22) (ci 2147483647)) 20 true, o 24 (.pick (T 20) (T 23) (cb false)), o 4 (mv 24)]
def k313_5 : ACode := .seq (.block 2 k313_4) (.seq (.seq (.region r313_36) .ret) (.exit 0))
def r313_43 : LO := [o 5 (.mv (.c (aU 2147483647)))]
def r313_46 : LO := [o 25 (mv 1), o 26 (mv 5), o 27 (.bin .leq (T 25) (T 26)), o 4 (mv 27)]
def k313_6 : ACode := .seq (.block 4 (.seq (.block 3 k313_5) (.region r313_43))) (.seq (.seq (.region r313_46) .ret) (.exit 0))
def r313_54 : LO := [o 4 (mb true)]
def k313_7 : ACode := .seq (.seq (.region r313_2) (.block 0 k313_6)) (.seq (.region r313_54) .ret)
def k313_8 : ACode := .seq (.region r313_0) (.seq (.region r313_1) k313_7)
theorem fn313 : getFn Tryz.prog 313 = some (28, k313_8, [.tmp 4]) := by kernel_rfl
def r275_0 : LO := [o 2 (mb false)]
def r275_1 : LO := [o 3 (mv 0), o 4 (.call (cf 338) [(T 3)]), o 5 (.bin .lss (T 4) (ci 0)), o 2 (mv 5)]
def k275_1 : ACode := .seq (.region r275_0) (.seq (.region r275_1) .ret)
theorem fn275 : getFn Tryz.prog 275 = some (6, k275_1, [.tmp 2]) := by kernel_rfl
def r338_0 : LO := [o 2 (mi 0)]
def r338_1 : LO := [o 5 (mv 0), o 6 (.range (T 5))]
def r338_2 : LO := [o 7 (.next (T 6)), o 8 (.extract 0 (T 7))]
def r338_6 : LO := [o 9 (.extract 1 (T 7)), o 10 (.extract 2 (T 7)), o 3 (mv 9), o 4 (mv 10)]
def r338_7 : LO := [o 11 (mv 0), o 12 (mv 3), o 13 (mv 4), o 14 (.call (cf 372) [(T 11), (T 12), (T 13)])]
def r338_8 : LO := [o 15 (mv 3), o 2 (mv 15)]
def k338_1 : ACode := .seq (.region r338_7) (.cond (T 14) (.seq (.region r338_8) .ret) .skip)
def k338_2 : ACode := .seq (.cond (T 8) .skip (.exit 0)) (.block 1 (.seq (.region r338_6) k338_1))
def k338_3 : ACode := .seq (.region r338_2) k338_2
def r338_21 : LO := [o 2 (mi (-1))]
def k338_4 : ACode := .seq (.seq (.region r338_1) (.block 0 (.loop k338_3))) (.seq (.region r338_21) .ret)
def k338_5 : ACode := .seq (.region r338_0) k338_4
theorem fn338 : getFn Tryz.prog 338 = some (16, k338_5, [.tmp 2]) := by kernel_rfl
def r214_0 : LO := [o 5 (bx 1), o 7 (bx 3)]
def r214_1 : LO := [o 8 (fa 5 5), o 9 (ld 8), o 10 (.bin .neq (T 9) (ci 10))]
def r214_2 : LO := [o 11 (mv 0), o 12 (mv 0), o 13 (.nilCheck (T 12)), o 14 (fa 2 13), o 15 (ld 14), o 16 (mv 2), o 17 (mv 0), o 18 (.nilCheck (T 17)), o 19 (fa 0 18), o 20 (ln 2 19), o 21 (ln 8 5), o 22 (ln 7 7), o 23 (.call (cf 199) [(T 20), (T 21), (T 22)]), o 24 (.build [aE, aE] [((0, 1), (T 16)), ((1, 1), (T 23))]), o 25 (.iface 264 (T 24)), o 26 (.sliceLit 1 1 [(.v .nilIface)] [((0, 1), (T 25))]), o 27 (.append 20 1 16 (T 15) (T 26)), o 28 (.nilCheck (T 11)), o 29 (fa 2 28), on (st 1 29 27)]
def r214_2t : LO := []
def r214_2o : LN := [[], [], [1], [2], [3], [], [], [6], [7], [8], [], [], [9, 10, 11], [5, 12], [13], [14], [4, 12, 15], [0, 1, 2, 3, 4, 5, 6, 7, 8, 9, 10, 11, 12, 13, 14, 15, 16], [0, 1, 2, 3, 4, 5, 6, 7, 8, 9, 10, 11, 12, 13, 14, 15, 16, 17], [0, 1, 2, 3, 4, 5, 6, 7, 8, 9, 10, 11, 12, 13, 14, 15, 16, 18]]
def k214_1 : ACode := .cond (T 10) (.seq (.drawn r214_2o r214_2 r214_2t) .ret) .skip
def r214_8 : LO := [o 30 (mv 0), o 31 (mv 0), o 32 (.nilCheck (T 31)), o 33 (fa 2 32), o 34 (ld 33), o 35 (mv 2), o 36 (.build [aE] [((0, 1), (T 35))]), o 37 (.iface 266 (T 36)), o 38 (.sliceLit 1 1 [(.v .nilIface)] [((0, 1), (T 37))]), o 39 (.append 20 1 16 (T 34) (T 38)), o 40 (.nilCheck (T 30)), o 41 (fa 2 40), on (st 1 41 39)]
def r214_9 : LO := [o 42 (mv 0), o 43 (fa 6 5), o 44 (ld 43), o 45 (ln 7 7), o 46 (.call (cf 153) [(T 42), (T 44), (T 45)])]
def r214_10 : LO := [o 47 (mv 0), o 48 (mv 0), o 49 (.nilCheck (T 48)), o 50 (fa 2 49), o 51 (ld 50), o 52 (.build [] []), o 53 (.iface 268 (T 52)), o 54 (.sliceLit 1 1 [(.v .nilIface)] [((0, 1), (T 53))]), o 55 (.append 20 1 16 (T 51) (T 54)), o 56 (.nilCheck (T 47)), o 57 (fa 2 56), on (st 1 57 55)]
def k214_2 : ACode := .seq (.region r214_8) (.seq (.region r214_9) (.region r214_10))
def k214_3 : ACode := .seq (.region r214_0) (.seq (.seq (.region r214_1) k214_1) k214_2)
theorem fn214 : getFn Tryz.prog 214 = some (58, k214_3, []) := by kernel_rfl
def r199_0 : LO := [o 3 (bx 0), o 4 (bx 1), o 5 (bx 2), o 6 (.mv (.c aE))]
def r199_1 : LO := [o 9 (fa 5 4), o 10 (ld 9), o 11 (.call (cf 124) [(T 10)]), o 12 (.un .not (T 11)), o 13 (mv 12), og 14 (fa 5 4) 13 false, og 15 (ld 14) 13 false, og 16 (ln 7 5) 13 false, og 17 (.call (cf 266) [(T 15), (T 16)]) 13 false, og 18 (.un .not (T 17)) 13 false, o 19 (.pick (T 13) (cb true) (T 18))]
def r199_2 : LO := [o 6 (.mv (.c aE))]
def k199_1 : ACode := .seq (.region r199_1) (.cond (T 19) (.seq (.region r199_2) .ret) .skip)
def r199_8 : LO := [o 20 (fa 5 4), o 21 (ld 20), o 22 (.bin .neq (T 21) (ci 9))]
def r199_9 : LO := [o 23 (ln 7 5), o 24 (.call (cf 215) [(T 23)]), o 6 (mv 24)]
def k199_2 : ACode := .seq (.region r199_8) (.cond (T 22) (.seq (.region r199_9) .ret) .skip)
def r199_15 : LO := [o 26 (ln 2 3), o 27 (fa 6 4), o 28 (ld 27), o 29 (fa 1 5), o 30 (ld 29), o 31 (.call (cf 176) [(T 26), (T 28), (T 30)]), o 25 (mv 31), o 32 (.extract 0 (T 25)), o 33 (.extract 1 (T 25)), o 7 (.alloc [aE, (aI 0), .nil]), on (st 3 7 32), o 8 (mv 33)]
def r199_16 : LO := [o 34 (mv 8)]
def r199_17 : LO := [o 35 (fa 0 7), o 36 (ld 35), o 6 (mv 36)]
def k199_3 : ACode := .seq (.region r199_16) (.cond (T 34) (.seq (.region r199_17) .ret) .skip)
def r199_24 : LO := [o 37 (ln 7 5), o 38 (.call (cf 215) [(T 37)]), o 39 (.bin .add (.c (aS ⟨#[35]⟩)) (T 38)), o 6 (mv 39)]
def k199_4 : ACode := .seq (.seq (.region r199_15) k199_3) (.seq (.region r199_24) .ret)
def k199_5 : ACode := .seq (.region r199_0) (.seq k199_1 (.seq k199_2 k199_4))
theorem fn199 : getFn Tryz.prog 199 = some (40, k199_5, [.tmp 6]) := by kernel_rfl
def r152_0 : LO := [o 1 (bx 0), o 2 (mb false)]
def r152_1 : LO := [o 9 (fa 6 1), o 10 (ld 9), o 11 (.len false (T 10)), o 12 (.bin .gtr (T 11) (ci 0))]
def r152_2 : LO := [o 2 (mb true)]
def k152_1 : ACode := .seq (.region r152_1) (.cond (T 12) (.seq (.region r152_2) .ret) .skip)
def r152_8 : LO := [o 13 (fa 3 1), o 14 (ld 13), o 15 (.len false (T 14)), o 16 (mi 0)]
def r152_9 : LO := [o 17 (.bin .lss (T 16) (T 15))]
def r152_13 : LO := [o 18 (.idxSl 7 (T 14) (T 16)), o 19 (ln 7 18), o 4 (.alloc zV), on (st 7 4 19)]
def r152_14 : LO := [o 20 (ln 7 4), o 21 (.call (cf 152) [(T 20)])]
def r152_15 : LO := [o 2 (mb true)]
def k152_2 : ACode := .seq (.region r152_14) (.cond (T 21) (.seq (.region r152_15) .ret) .skip)
def r152_23 : LO := [o 22 (.bin .add (T 16) (ci 1)), o 16 (mv 22)]
def k152_3 : ACode := .seq (.block 1 (.seq (.region r152_13) k152_2)) (.region r152_23)
def k152_4 : ACode := .seq (.region r152_9) (.seq (.cond (T 17) .skip (.exit 0)) k152_3)
def r152_30 : LO := [o 23 (fa 4 1), o 24 (ld 23), o 25 (.len false (T 24)), o 26 (mi 0)]
def r152_31 : LO := [o 27 (.bin .lss (T 26) (T 25))]
def r152_35 : LO := [o 28 (.idxSl 14 (T 24) (T 26)), o 29 (ln 14 28), o 6 (.alloc [(aI 0), (aU 0), aE, .nil, .nil, .nil, .nil, (aI 0), (aU 0), aE, .nil, .nil, .nil, .nil]), on (st 14 6 29)]
def r152_36 : LO := [o 30 (fa 7 6), o 31 (ln 7 30), o 32 (.call (cf 152) [(T 31)])]
def r152_37 : LO := [o 2 (mb true)]
def k152_5 : ACode := .seq (.region r152_36) (.cond (T 32) (.seq (.region r152_37) .ret) .skip)
def r152_45 : LO := [o 33 (.bin .add (T 26) (ci 1)), o 26 (mv 33)]
def k152_6 : ACode := .seq (.block 3 (.seq (.region r152_35) k152_5)) (.region r152_45)
def k152_7 : ACode := .seq (.region r152_31) (.seq (.cond (T 27) .skip (.exit 2)) k152_6)
def r152_52 : LO := [o 34 (fa 5 1), o 35 (ld 34), o 36 (.len false (T 35)), o 37 (mi 0)]
def r152_53 : LO := [o 38 (.bin .lss (T 37) (T 36))]
def r152_57 : LO := [o 39 (.idxSl 8 (T 35) (T 37)), o 40 (ln 8 39), o 8 (.alloc [(aI 0), (aI 0), (aU 0), aE, .nil, .nil, .nil, .nil]), on (st 8 8 40)]
def r152_58 : LO := [o 41 (fa 1 8), o 42 (ln 7 41), o 43 (.call (cf 152) [(T 42)])]
def r152_59 : LO := [o 2 (mb true)]
def k152_8 : ACode := .seq (.region r152_58) (.cond (T 43) (.seq (.region r152_59) .ret) .skip)
def r152_67 : LO := [o 44 (.bin .add (T 37) (ci 1)), o 37 (mv 44)]
def k152_9 : ACode := .seq (.block 5 (.seq (.region r152_57) k152_8)) (.region r152_67)
def k152_10 : ACode := .seq (.region r152_53) (.seq (.cond (T 38) .skip (.exit 4)) k152_9)
def r152_74 : LO := [o 2 (mb false)]
def k152_11 : ACode := .seq (.seq (.region r152_52) (.block 4 (.loop k152_10))) (.seq (.region r152_74) .ret)
def k152_12 : ACode := .seq (.seq (.region r152_30) (.block 2 (.loop k152_7))) k152_11
def k152_13 : ACode := .seq (.seq (.region r152_8) (.block 0 (.loop k152_4))) k152_12
def k152_14 : ACode := .seq (.region r152_0) (.seq k152_1 k152_13)
theorem fn152 : getFn Tryz.prog 152 = some (45, k152_14, [.tmp 2]) := by kernel_rfl
def r151_0 : LO := [o 3 (bx 0), o 5 (bx 2), o 6 (mi 0)]
def r151_1 : LO := [o 8 (mv 1), o 9 (.bin .lss (T 8) (ci 0)), o 10 (mv 9), og 11 (mv 1) 10 false, og 12 (fa 0 3) 10 false, og 13 (ld 12) 10 false, og 14 (.len false (T 13)) 10 false, og 15 (.bin .geq (T 11) (T 14)) 10 false, o 16 (.pick (T 10) (cb true) (T 15))]
def r151_2 : LO := [o 6 (mi 10)]
def k151_1 : ACode := .seq (.region r151_1) (.cond (T 16) (.seq (.region r151_2) .ret) .skip)
def r151_8 : LO := [o 17 (ln 2 3), o 18 (.build [.nil, .nil] [((0, 2), (T 17))]), o 19 (fa 0 3), o 20 (ld 19), o 21 (mv 1), o 22 (.idxSl 3 (T 20) (T 21)), o 23 (ln 3 22), o 24 (ln 7 5), o 25 (.call (cf 213) [(T 18), (T 23), (T 24), (ci 1)])]
def r151_8t : LO := [o 7 (mv 25)]
def r151_8o : LN := [[], [0], [], [2], [], [3, 4], [5], [], [1, 6, 7]]
def r151_9 : LO := [o 26 (mv 7), o 27 (.bin .neq (T 26) (ci 0))]
def r151_10 : LO := [o 28 (mv 7), o 6 (mv 28)]
def k151_2 : ACode := .seq (.region r151_9) (.cond (T 27) (.seq (.region r151_10) .ret) .skip)
def r151_17 : LO := [o 29 (ln 7 5), o 30 (.call (cf 76) [(T 29)]), o 31 (.bin .gtr (T 30) (ci 4096))]
def r151_18 : LO := [o 6 (mi 3)]
def k151_3 : ACode := .seq (.region r151_17) (.cond (T 31) (.seq (.region r151_18) .ret) .skip)
def r151_24 : LO := [o 6 (mi 0)]
def k151_4 : ACode := .seq (.seq (.drawn r151_8o r151_8 r151_8t) k151_2) (.seq k151_3 (.seq (.region r151_24) .ret))
def k151_5 : ACode := .seq (.region r151_0) (.seq k151_1 k151_4)
theorem fn151 : getFn Tryz.prog 151 = some (32, k151_5, [.tmp 6]) := by kernel_rfl
def r213_0 : LO := [o 4 (bx 0), o 5 (bx 1), o 6 (bx 2), o 8 (mi 0)]
def r213_1 : LO := [o 17 (fa 0 6), o 18 (ld 17), o 19 (.bin .neq (T 18) (ci 10)), o 20 (mv 19), og 21 (ln 7 6) 20 false, og 22 (.call (cf 284) [(T 21)]) 20 false, o 23 (.pick (T 20) (cb true) (T 22)), o 16 (mv 23)]
def r213_2 : LO := [o 8 (mi 12)]
def r213_5 : LO := [o 25 (mv 3), o 26 (.bin .gtr (T 25) (ci 16)), o 24 (mv 26)]
def r213_6 : LO := [o 8 (mi 17)]
def k213_1 : ACode := .seq (.region r213_5) (.cond (T 24) (.seq (.region r213_6) .ret) .skip)
def k213_2 : ACode := .seq (.region r213_1) (.cond (T 16) (.seq (.region r213_2) .ret) k213_1)
def r213_15 : LO := [o 27 (fa 5 6), o 28 (ld 27), o 29 (.len false (T 28)), o 30 (mi 0)]
def r213_16 : LO := [o 31 (.bin .lss (T 30) (T 29))]
def r213_20 : LO := [o 32 (mv 30), o 9 (mv 32)]
def r213_21 : LO := [o 33 (ln 2 4), o 34 (ln 3 5), o 35 (fa 5 6), o 36 (ld 35), o 37 (mv 9), o 38 (mv 3), o 39 (.call (cf 285) [(T 33), (T 34), (T 36), (T 37), (T 38)]), o 10 (mv 39)]
def r213_22 : LO := [o 40 (mv 10), o 41 (.bin .neq (T 40) (ci 0))]
def r213_23 : LO := [o 42 (mv 10), o 8 (mv 42)]
def k213_3 : ACode := .seq (.region r213_22) (.cond (T 41) (.seq (.region r213_23) .ret) .skip)
def k213_4 : ACode := .block 2 (.seq (.region r213_20) (.seq (.region r213_21) k213_3))
def r213_32 : LO := [o 43 (.bin .add (T 30) (ci 1)), o 30 (mv 43)]
def k213_5 : ACode := .seq (.cond (T 31) .skip (.exit 1)) (.seq k213_4 (.region r213_32))
def k213_6 : ACode := .seq (.region r213_16) k213_5
def r213_39 : LO := [o 44 (fa 1 5), o 45 (ld 44), o 46 (.len false (T 45)), o 47 (mi 0)]
def r213_40 : LO := [o 48 (.bin .lss (T 47) (T 46))]
def r213_44 : LO := [o 49 (.idxSl 8 (T 45) (T 47)), o 50 (ln 8 49), o 12 (.alloc [(aI 0), aE, aE, (aI 0), (aI 0), (aI 0), (aI 0), (aI 0)]), on (st 8 12 50)]
def r213_45 : LO := [o 51 (fa 3 12), o 52 (ld 51), o 53 (.bin .eql (T 52) (ci 1)), o 54 (mv 53), og 55 (fa 5 6) 54 true, og 56 (ld 55) 54 true, og 57 (.func (.func 286) [] [(T 12)]) 54 true, og 58 (.call (cf 186) [(T 56), (T 57)]) 54 true, og 59 (.un .not (T 58)) 54 true, o 60 (.pick (T 54) (T 59) (cb false))]
def r213_46 : LO := [o 8 (mi 14)]
def k213_7 : ACode := .seq (.region r213_45) (.cond (T 60) (.seq (.region r213_46) .ret) .skip)
def r213_54 : LO := [o 61 (.bin .add (T 47) (ci 1)), o 47 (mv 61)]
def k213_8 : ACode := .seq (.block 4 (.seq (.region r213_44) k213_7)) (.region r213_54)
def k213_9 : ACode := .seq (.region r213_40) (.seq (.cond (T 48) .skip (.exit 3)) k213_8)
def r213_61 : LO := [o 62 (fa 6 6), o 63 (ld 62), o 64 (.len false (T 63)), o 65 (mi 0)]
def r213_62 : LO := [o 66 (.bin .lss (T 65) (T 64))]
def r213_66 : LO := [o 67 (.idxSl 4 (T 63) (T 65)), o 68 (ln 4 67), o 14 (.alloc [(aI 0), (aI 0), (aU 0), aE]), on (st 4 14 68)]
def r213_67 : LO := [o 69 (ln 2 4), o 70 (ln 3 5), o 71 (ln 4 14), o 72 (.call (cf 287) [(T 69), (T 70), (T 71)]), o 15 (mv 72)]
def r213_68 : LO := [o 73 (mv 15), o 74 (.bin .neq (T 73) (ci 0))]
def r213_69 : LO := [o 75 (mv 15), o 8 (mv 75)]
def k213_10 : ACode := .seq (.region r213_68) (.cond (T 74) (.seq (.region r213_69) .ret) .skip)
def k213_11 : ACode := .block 6 (.seq (.region r213_66) (.seq (.region r213_67) k213_10))
def r213_78 : LO := [o 76 (.bin .add (T 65) (ci 1)), o 65 (mv 76)]
def k213_12 : ACode := .seq (.cond (T 66) .skip (.exit 5)) (.seq k213_11 (.region r213_78))
def k213_13 : ACode := .seq (.region r213_62) k213_12
def r213_85 : LO := [o 8 (mi 0)]
def k213_14 : ACode := .seq (.seq (.region r213_61) (.block 5 (.loop k213_13))) (.seq (.region r213_85) .ret)
def k213_15 : ACode := .seq (.seq (.region r213_39) (.block 3 (.loop k213_9))) k213_14
def k213_16 : ACode := .seq (.seq (.region r213_15) (.block 1 (.loop k213_6))) k213_15
def k213_17 : ACode := .seq (.region r213_0) (.seq (.block 0 k213_2) k213_16)
theorem fn213 : getFn Tryz.prog 213 = some (77, k213_17, [.tmp 8]) := by kernel_rfl
def r285_0 : LO := [o 5 (bx 0), o 6 (bx 1), o 10 (mi 0)]
def r285_1 : LO := [o 18 (ln 3 6), o 19 (mv 2), o 20 (mv 3), o 21 (.idxSl 8 (T 19) (T 20)), o 22 (fa 0 21), o 23 (ld 22), o 24 (.call (cf 123) [(T 18), (T 23)]), o 17 (mv 24), o 25 (.extract 0 (T 17)), o 26 (.extract 1 (T 17)), o 11 (.alloc [(aI 0), aE, aE, (aI 0), (aI 0), (aI 0), (aI 0), (aI 0)]), on (st 8 11 25)]
def r285_1t : LO := [o 12 (mv 26)]
def r285_1o : LN := [[], [], [], [1, 2], [3], [4], [0, 5], [6], [7], [7], [], [0, 1, 2, 3, 4, 5, 6, 7, 8, 10]]
def r285_2 : LO := [o 27 (mv 12), o 28 (.un .not (T 27))]
def r285_3 : LO := [o 10 (mi 8)]
def k285_1 : ACode := .seq (.region r285_2) (.cond (T 28) (.seq (.region r285_3) .ret) .skip)
def r285_9 : LO := [o 29 (mv 2), o 30 (mv 3), o 31 (.sliceV 8 (T 29) none (some (T 30)) none), o 32 (.func (.func 344) [] [(T 11)]), o 33 (.call (cf 186) [(T 31), (T 32)])]
def r285_10 : LO := [o 10 (mi 9)]
def k285_2 : ACode := .seq (.region r285_9) (.cond (T 33) (.seq (.region r285_10) .ret) .skip)
def r285_16 : LO := [o 34 (mv 2), o 35 (mv 3), o 36 (.sliceV 8 (T 34) none (some (T 35)) none), o 37 (.len false (T 36)), o 38 (mi 0)]
def r285_17 : LO := [o 39 (.bin .lss (T 38) (T 37))]
def r285_21 : LO := [o 40 (.idxSl 8 (T 36) (T 38)), o 41 (ln 8 40), o 14 (.alloc [(aI 0), (aI 0), (aU 0), aE, .nil, .nil, .nil, .nil]), on (st 8 14 41)]
def r285_22 : LO := [o 43 (ln 3 6), o 44 (fa 0 14), o 45 (ld 44), o 46 (.call (cf 123) [(T 43), (T 45)]), o 42 (mv 46), o 47 (.extract 0 (T 42)), o 48 (.extract 1 (T 42)), o 15 (.alloc [(aI 0), aE, aE, (aI 0), (aI 0), (aI 0), (aI 0), (aI 0)]), on (st 8 15 47), o 16 (mv 48)]
def r285_23 : LO := [o 49 (fa 7 11), o 50 (ld 49), o 51 (.bin .neq (T 50) (ci (-1))), o 52 (mv 51), og 53 (fa 7 15) 52 true, og 54 (ld 53) 52 true, og 55 (fa 7 11) 52 true, og 56 (ld 55) 52 true, og 57 (.bin .eql (T 54) (T 56)) 52 true, o 58 (.pick (T 52) (T 57) (cb false))]
def r285_24 : LO := [o 10 (mi 15)]
def k285_3 : ACode := .seq (.region r285_23) (.cond (T 58) (.seq (.region r285_24) .ret) .skip)
def k285_4 : ACode := .block 1 (.seq (.region r285_21) (.seq (.region r285_22) k285_3))
def r285_33 : LO := [o 59 (.bin .add (T 38) (ci 1)), o 38 (mv 59)]
def k285_5 : ACode := .seq (.cond (T 39) .skip (.exit 0)) (.seq k285_4 (.region r285_33))
def k285_6 : ACode := .seq (.region r285_17) k285_5
def r285_40 : LO := [o 60 (ln 2 5), o 61 (ln 8 11), o 62 (mv 2), o 63 (mv 3), o 64 (.idxSl 8 (T 62) (T 63)), o 65 (fa 1 64), o 66 (ln 7 65), o 67 (mv 4), o 68 (.call (cf 345) [(T 60), (T 61), (T 66), (T 67)])]
def r285_40t : LO := [o 10 (mv 68)]
def r285_40o : LN := [[], [], [], [], [2, 3], [4], [5], [], [0, 1, 6, 7]]
def k285_7 : ACode := .seq (.seq (.region r285_16) (.block 0 (.loop k285_6))) (.seq (.drawn r285_40o r285_40 r285_40t) .ret)
def k285_8 : ACode := .seq (.drawn r285_1o r285_1 r285_1t) (.seq k285_1 (.seq k285_2 k285_7))
def k285_9 : ACode := .seq (.region r285_0) k285_8
theorem fn285 : getFn Tryz.prog 285 = some (69, k285_9, [.tmp 10]) := by kernel_rfl
def r345_0 : LO := [o 4 (bx 0), o 5 (bx 1), o 6 (bx 2), o 8 (mi 0)]
def r345_1 : LO := [o 12 (fa 3 5), o 13 (ld 12)]
def r345_2 : LO := [o 15 (.bin .eql (T 13) (ci 4)), o 14 (mv 15)]
def r345_3 : LO := [o 16 (fa 0 6), o 17 (ld 16), o 18 (.bin .neq (T 17) (ci 11)), o 19 (mv 18), og 20 (ln 7 6) 19 false, og 21 (.call (cf 284) [(T 20)]) 19 false, o 22 (.pick (T 19) (cb true) (T 21))]
def r345_4 : LO := [o 8 (mi 12)]
def k345_1 : ACode := .seq (.region r345_3) (.cond (T 22) (.seq (.region r345_4) .ret) .skip)
def r345_10 : LO := [o 23 (fa 3 6), o 24 (ld 23), o 25 (.len false (T 24)), o 26 (mi 0)]
def r345_11 : LO := [o 27 (.bin .lss (T 26) (T 25))]
def r345_15 : LO := [o 28 (.idxSl 7 (T 24) (T 26)), o 29 (ln 7 28), o 10 (.alloc zV), on (st 7 10 29)]
def r345_16 : LO := [o 30 (ln 2 4), o 31 (ln 8 5), o 32 (ln 7 10), o 33 (mv 3), o 34 (.call (cf 375) [(T 30), (T 31), (T 32), (T 33)]), o 11 (mv 34)]
def r345_17 : LO := [o 35 (mv 11), o 36 (.bin .neq (T 35) (ci 0))]
def r345_18 : LO := [o 37 (mv 11), o 8 (mv 37)]
def k345_2 : ACode := .seq (.region r345_17) (.cond (T 36) (.seq (.region r345_18) .ret) .skip)
def k345_3 : ACode := .block 2 (.seq (.region r345_15) (.seq (.region r345_16) k345_2))
def r345_27 : LO := [o 38 (.bin .add (T 26) (ci 1)), o 26 (mv 38)]
def k345_4 : ACode := .seq (.cond (T 27) .skip (.exit 1)) (.seq k345_3 (.region r345_27))
def k345_5 : ACode := .seq (.region r345_11) k345_4
def r345_34 : LO := [o 8 (mi 0)]
def k345_6 : ACode := .seq (.seq (.region r345_10) (.block 1 (.loop k345_5))) (.seq (.region r345_34) .ret)
def r345_39 : LO := [o 40 (.bin .eql (T 13) (ci 5)), o 39 (mv 40)]
def r345_40 : LO := [o 41 (fa 0 6), o 42 (ld 41), o 43 (.bin .neq (T 42) (ci 12)), o 44 (mv 43), og 45 (ln 7 6) 44 false, og 46 (.call (cf 284) [(T 45)]) 44 false, o 47 (.pick (T 44) (cb true) (T 46))]
def r345_41 : LO := [o 8 (mi 12)]
def k345_7 : ACode := .seq (.region r345_40) (.cond (T 47) (.seq (.region r345_41) .ret) .skip)
def r345_47 : LO := [o 48 (ln 2 4), o 49 (ln 8 5), o 50 (fa 4 6), o 51 (ld 50), o 52 (mv 3), o 53 (.call (cf 376) [(T 48), (T 49), (T 51), (T 52)]), o 8 (mv 53)]
def k345_8 : ACode := .cond (T 39) (.seq k345_7 (.seq (.region r345_47) .ret)) .skip
def k345_9 : ACode := .cond (T 14) (.seq k345_1 k345_6) (.seq (.region r345_39) k345_8)
def k345_10 : ACode := .seq (.region r345_1) (.block 0 (.seq (.region r345_2) k345_9))
def r345_58 : LO := [o 54 (ln 2 4), o 55 (ln 8 5), o 56 (ln 7 6), o 57 (mv 3), o 58 (.call (cf 375) [(T 54), (T 55), (T 56), (T 57)]), o 8 (mv 58)]
def k345_11 : ACode := .seq (.region r345_0) (.seq k345_10 (.seq (.region r345_58) .ret))
theorem fn345 : getFn Tryz.prog 345 = some (59, k345_11, [.tmp 8]) := by kernel_rfl
def r396_0 : LO := [o 4 (bx 0), o 7 (bx 3), o 8 (mi 0)]
def r396_1 : LO := [o 10 (fa 0 7), o 11 (ld 10), o 12 (mv 1), o 13 (.bin .neq (T 11) (T 12)), o 14 (mv 13), og 15 (ln 7 7) 14 false, og 16 (.call (cf 284) [(T 15)]) 14 false, o 17 (.pick (T 14) (cb true) (T 16)), o 9 (mv 17)]
def r396_2 : LO := [o 8 (mi 12)]
def r396_5 : LO := [o 19 (fa 2 7), o 20 (ld 19), o 21 (.len true (T 20)), o 22 (.bin .gtr (T 21) (ci 4096)), o 18 (mv 22)]
def r396_6 : LO := [o 8 (mi 3)]
def r396_9 : LO := [o 24 (mv 1), o 25 (.bin .eql (T 24) (ci 7)), o 26 (mv 25), og 27 (fa 2 7) 26 true, og 28 (ld 27) 26 true, og 29 (.call (cf 275) [(T 28)]) 26 true, og 30 (.un .not (T 29)) 26 true, o 31 (.pick (T 26) (T 30) (cb false)), o 23 (mv 31)]
def r396_10 : LO := [o 8 (mi 7)]
def r396_13 : LO := [o 33 (mv 1), o 34 (ln 7 7), o 35 (.call (cf 266) [(T 33), (T 34)]), o 36 (.un .not (T 35)), o 32 (mv 36)]
def r396_14 : LO := [o 8 (mi 12)]
def r396_17 : LO := [o 38 (mv 1), o 39 (.bin .eql (T 38) (ci 9)), o 40 (mv 39), og 41 (fa 0 4) 40 true, og 42 (ln 2 41) 40 true, og 43 (mv 2) 40 true, og 44 (fa 1 7) 40 true, og 45 (ld 44) 40 true, og 46 (.call (cf 177) [(T 42), (T 43), (T 45)]) 40 true, og 47 (.un .not (T 46)) 40 true, o 48 (.pick (T 40) (T 47) (cb false)), o 37 (mv 48)]
def r396_18 : LO := [o 8 (mi 16)]
def k396_1 : ACode := .seq (.region r396_17) (.cond (T 37) (.seq (.region r396_18) .ret) .skip)
def k396_2 : ACode := .seq (.region r396_13) (.cond (T 32) (.seq (.region r396_14) .ret) k396_1)
def k396_3 : ACode := .seq (.region r396_9) (.cond (T 23) (.seq (.region r396_10) .ret) k396_2)
def k396_4 : ACode := .seq (.region r396_5) (.cond (T 18) (.seq (.region r396_6) .ret) k396_3)
def k396_5 : ACode := .seq (.region r396_1) (.cond (T 9) (.seq (.region r396_2) .ret) k396_4)
def r396_33 : LO := [o 8 (mi 0)]
def k396_6 : ACode := .seq (.region r396_0) (.seq (.block 0 k396_5) (.seq (.region r396_33) .ret))
theorem fn396 : getFn Tryz.prog 396 = some (49, k396_6, [.tmp 8]) := by kernel_rfl
def r284_0 : LO := [o 1 (bx 0), o 2 (mb false)]
def r284_1 : LO := [o 4 (fa 0 1), o 5 (ld 4), o 6 (.bin .eql (T 5) (ci 7)), o 7 (mv 6), og 8 (fa 0 1) 7 false, og 9 (ld 8) 7 false, og 10 (.bin .eql (T 9) (ci 8)) 7 false, o 11 (.pick (T 7) (cb true) (T 10)), o 3 (mv 11)]
def r284_2 : LO := [o 12 (fa 0 1), o 13 (ld 12), o 14 (.bin .neq (T 13) (ci 11)), o 15 (mv 14), og 16 (fa 3 1) 15 true, og 17 (ld 16) 15 true, og 18 (.len false (T 17)) 15 true, og 19 (.bin .gtr (T 18) (ci 0)) 15 true, o 20 (.pick (T 15) (T 19) (cb false)), o 21 (mv 20), og 22 (fa 0 1) 21 false, og 23 (ld 22) 21 false, og 24 (.bin .neq (T 23) (ci 12)) 21 false, og 25 (mv 24) 21 false, og 26 (fa 4 1) 25 true, og 27 (ld 26) 25 true, og 28 (.len false (T 27)) 25 true, og 29 (.bin .gtr (T 28) (ci 0)) 25 true, og 30 (.pick (T 25) (T 29) (cb false)) 21 false, o 31 (.pick (T 21) (cb true) (T 30)), o 32 (mv 31), og 33 (fa 0 1) 32 false, og 34 (ld 33) 32 false, og 35 (.bin .neq (T 34) (ci 10)) 32 false, og 36 (mv 35) 32 false, og 37 (fa 5 1) 36 true, og 38 (ld 37) 36 true, og 39 (.len false (T 38)) 36 true, og 40 (fa 6 1) 36 true, og 41 (ld 40) 36 true, og 42 (.len false (T 41)) 36 true, og 43 (.bin .add (T 39) (T 42)) 36 true, og 44 (.bin .gtr (T 43) (ci 0)) 36 true, og 45 (.pick (T 36) (T 44) (cb false)) 32 false, o 46 (.pick (T 32) (cb true) (T 45)), o 47 (mv 46), og 48 (fa 1 1) 47 false, og 49 (ld 48) 47 false, og 50 (.bin .neq (T 49) (.c (aU 0))) 47 false, og 51 (mv 50) 47 false, og 52 (mv 3) 51 true, og 53 (mv 52) 51 true, og 54 (fa 0 1) 53 false, og 55 (ld 54) 53 false, og 56 (.bin .geq (T 55) (ci 10)) 53 false, og 57 (mv 56) 53 false, og 58 (fa 0 1) 57 true, og 59 (ld 58) 57 true, og 60 (.bin .leq (T 59) (ci 12)) 57 true, og 61 (.pick (T 57) (T 60) (cb false)) 53 false, og 62 (.pick (T 53) (cb true) (T 61)) 51 true, og 63 (.pick (T 51) (T 62) (cb false)) 47 false, o 64 (.pick (T 47) (cb true) (T 63)), o 65 (mv 64), og 66 (fa 2 1) 65 false, og 67 (ld 66) 65 false, og 68 (.bin .neq (T 67) (.c aE)) 65 false, og 69 (mv 68) 65 false, og 70 (mv 3) 69 true, og 71 (.un .not (T 70)) 69 true, og 72 (.pick (T 69) (T 71) (cb false)) 65 false, o 73 (.pick (T 65) (cb true) (T 72)), o 2 (mv 73)]
def k284_1 : ACode := .seq (.region r284_0) (.seq (.region r284_1) (.seq (.region r284_2) .ret))
theorem fn284 : getFn Tryz.prog 284 = some (74, k284_1, [.tmp 2]) := by kernel_rfl
def r375_0 : LO := [o 4 (bx 0), o 5 (bx 1), o 6 (bx 2), o 8 (mi 0)]
def r375_1 : LO := [o 9 (fa 5 5), o 10 (ld 9), o 11 (.bin .eql (T 10) (ci 10))]
def r375_2 : LO := [o 12 (ln 2 4), o 13 (fa 0 4), o 14 (fa 0 13), o 15 (ld 14), o 16 (fa 6 5), o 17 (ld 16), o 18 (.idxSl 3 (T 15) (T 17)), o 19 (ln 3 18), o 20 (ln 7 6), o 21 (mv 3), o 22 (.bin .add (T 21) (ci 1)), o 23 (.call (cf 213) [(T 12), (T 19), (T 20), (T 22)])]
def r375_2t : LO := [o 8 (mv 23)]
def r375_2o : LN := [[], [], [1], [2], [], [4], [3, 5], [6], [], [], [9], [0, 7, 8, 10]]
def k375_1 : ACode := .cond (T 11) (.seq (.drawn r375_2o r375_2 r375_2t) .ret) .skip
def r375_8 : LO := [o 24 (ln 2 4), o 25 (fa 5 5), o 26 (ld 25), o 27 (fa 6 5), o 28 (ld 27), o 29 (ln 7 6), o 30 (.call (cf 396) [(T 24), (T 26), (T 28), (T 29)]), o 8 (mv 30)]
def k375_2 : ACode := .seq (.seq (.region r375_1) k375_1) (.seq (.region r375_8) .ret)
def k375_3 : ACode := .seq (.region r375_0) k375_2
theorem fn375 : getFn Tryz.prog 375 = some (31, k375_3, [.tmp 8]) := by kernel_rfl
def r344_0 : LO := [o 2 (bx 0), o 3 (mb false)]
def r344_1 : LO := [o 4 (fa 0 2), o 5 (ld 4), o 6 (fa 0 1), o 7 (ld 6), o 8 (.bin .eql (T 5) (T 7)), o 3 (mv 8)]
def k344_1 : ACode := .seq (.region r344_0) (.seq (.region r344_1) .ret)
theorem fn344 : getFn Tryz.prog 344 = some (9, k344_1, [.tmp 3]) := by kernel_rfl
def r186_0 : LO := [o 4 (mb false)]
def r186_1 : LO := [o 5 (mv 0), o 6 (mv 1), o 7 (.call (cf 249) [(T 5), (T 6)]), o 8 (.bin .geq (T 7) (ci 0)), o 4 (mv 8)]
def k186_1 : ACode := .seq (.region r186_0) (.seq (.region r186_1) .ret)
theorem fn186 : getFn Tryz.prog 186 = some (9, k186_1, [.tmp 4]) := by kernel_rfl
def r249_0 : LO := [o 4 (mi 0)]
def r249_1 : LO := [o 6 (mv 0), o 7 (.len false (T 6)), o 8 (mi 0)]
def r249_2 : LO := [o 9 (.bin .lss (T 8) (T 7))]
def r249_6 : LO := [o 10 (mv 8), o 5 (mv 10)]
def r249_7 : LO := [o 11 (mv 1), o 12 (mv 0), o 13 (mv 5), o 14 (.idxSl 8 (T 12) (T 13)), o 15 (ln 8 14), o 16 (.call (T 11) [(T 15)])]
def r249_8 : LO := [o 17 (mv 5), o 4 (mv 17)]
def k249_1 : ACode := .seq (.region r249_7) (.cond (T 16) (.seq (.region r249_8) .ret) .skip)
def r249_16 : LO := [o 18 (.bin .add (T 8) (ci 1)), o 8 (mv 18)]
def k249_2 : ACode := .seq (.block 1 (.seq (.region r249_6) k249_1)) (.region r249_16)
def k249_3 : ACode := .seq (.region r249_2) (.seq (.cond (T 9) .skip (.exit 0)) k249_2)
def r249_23 : LO := [o 4 (mi (-1))]
def k249_4 : ACode := .seq (.seq (.region r249_1) (.block 0 (.loop k249_3))) (.seq (.region r249_23) .ret)
def k249_5 : ACode := .seq (.region r249_0) k249_4
theorem fn249 : getFn Tryz.prog 249 = some (19, k249_5, [.tmp 4]) := by kernel_rfl
def r76_0 : LO := [o 1 (bx 0), o 2 (mi 0)]
def r76_1 : LO := [o 6 (fa 6 1), o 7 (ld 6), o 8 (.len false (T 7)), o 9 (.bin .add (ci 1) (T 8)), o 3 (mv 9)]
def r76_2 : LO := [o 10 (ln 7 1), o 11 (.call (cf 132) [(T 10)]), o 12 (.len false (T 11)), o 13 (mi 0)]
def r76_3 : LO := [o 14 (.bin .lss (T 13) (T 12))]
def r76_7 : LO := [o 15 (.idxSl 7 (T 11) (T 13)), o 16 (ln 7 15), o 5 (.alloc zV), on (st 7 5 16)]
def r76_8 : LO := [o 17 (mv 3), o 18 (ln 7 5), o 19 (.call (cf 76) [(T 18)]), o 20 (.bin .add (T 17) (T 19)), o 3 (mv 20)]
def r76_11 : LO := [o 21 (.bin .add (T 13) (ci 1)), o 13 (mv 21)]
def k76_1 : ACode := .seq (.block 1 (.seq (.region r76_7) (.region r76_8))) (.region r76_11)
def k76_2 : ACode := .seq (.region r76_3) (.seq (.cond (T 14) .skip (.exit 0)) k76_1)
def r76_18 : LO := [o 22 (mv 3), o 2 (mv 22)]
def k76_3 : ACode := .seq (.seq (.region r76_2) (.block 0 (.loop k76_2))) (.seq (.region r76_18) .ret)
def k76_4 : ACode := .seq (.region r76_0) (.seq (.region r76_1) k76_3)
theorem fn76 : getFn Tryz.prog 76 = some (23, k76_4, [.tmp 2]) := by kernel_rfl
def r132_0 : LO := [o 1 (bx 0), o 2 (.mv (.c .nil))]
def r132_1 : LO := [o 8 (fa 3 1), o 9 (ld 8), o 10 (.call (cf 73) [(T 9)]), o 3 (mv 10)]
def r132_2 : LO := [o 11 (fa 4 1), o 12 (ld 11), o 13 (.len false (T 12)), o 14 (mi 0)]
def r132_3 : LO := [o 15 (.bin .lss (T 14) (T 13))]
def r132_7 : LO := [o 16 (.idxSl 14 (T 12) (T 14)), o 17 (ln 14 16), o 5 (.alloc [(aI 0), (aU 0), aE, .nil, .nil, .nil, .nil, (aI 0), (aU 0), aE, .nil, .nil, .nil, .nil]), on (st 14 5 17)]
def r132_8 : LO := [o 18 (mv 3), o 19 (fa 0 5), o 20 (ln 7 19), o 21 (fa 7 5), o 22 (ln 7 21), o 23 (.sliceLit 7 2 [(aI 0), (aU 0), aE, .nil, .nil, .nil, .nil, (aI 0), (aU 0), aE, .nil, .nil, .nil, .nil] [((0, 7), (T 20)), ((7, 7), (T 22))]), o 24 (.append 55 7 128 (T 18) (T 23)), o 3 (mv 24)]
def r132_11 : LO := [o 25 (.bin .add (T 14) (ci 1)), o 14 (mv 25)]
def k132_1 : ACode := .seq (.block 1 (.seq (.region r132_7) (.region r132_8))) (.region r132_11)
def k132_2 : ACode := .seq (.region r132_3) (.seq (.cond (T 15) .skip (.exit 0)) k132_1)
def r132_18 : LO := [o 26 (fa 5 1), o 27 (ld 26), o 28 (.len false (T 27)), o 29 (mi 0)]
def r132_19 : LO := [o 30 (.bin .lss (T 29) (T 28))]
def r132_23 : LO := [o 31 (.idxSl 8 (T 27) (T 29)), o 32 (ln 8 31), o 7 (.alloc [(aI 0), (aI 0), (aU 0), aE, .nil, .nil, .nil, .nil]), on (st 8 7 32)]
def r132_24 : LO := [o 33 (mv 3), o 34 (fa 1 7), o 35 (ln 7 34), o 36 (.sliceLit 7 1 zV [((0, 7), (T 35))]), o 37 (.append 55 7 128 (T 33) (T 36)), o 3 (mv 37)]
def r132_27 : LO := [o 38 (.bin .add (T 29) (ci 1)), o 29 (mv 38)]
def k132_3 : ACode := .seq (.block 3 (.seq (.region r132_23) (.region r132_24))) (.region r132_27)
def k132_4 : ACode := .seq (.region r132_19) (.seq (.cond (T 30) .skip (.exit 2)) k132_3)
def r132_34 : LO := [o 39 (mv 3), o 2 (mv 39)]
def k132_5 : ACode := .seq (.seq (.region r132_18) (.block 2 (.loop k132_4))) (.seq (.region r132_34) .ret)
def k132_6 : ACode := .seq (.seq (.region r132_2) (.block 0 (.loop k132_2))) k132_5
def k132_7 : ACode := .seq (.region r132_0) (.seq (.region r132_1) k132_6)
theorem fn132 : getFn Tryz.prog 132 = some (40, k132_7, [.tmp 2]) := by kernel_rfl
def r73_0 : LO := [o 2 (.mv (.c .nil))]
def r73_1 : LO := [o 3 (mv 0), o 4 (.eq .slice true (T 3) (.c .nil))]
def r73_2 : LO := [o 2 (.mv (.c .nil))]
def k73_1 : ACode := .seq (.region r73_1) (.cond (T 4) (.seq (.region r73_2) .ret) .skip)
def r73_8 : LO := [o 5 (.sliceLit 7 0 [] []), o 6 (mv 0), o 7 (.append 55 7 128 (T 5) (T 6)), o 2 (mv 7)]
def k73_2 : ACode := .seq (.region r73_0) (.seq k73_1 (.seq (.region r73_8) .ret))
theorem fn73 : getFn Tryz.prog 73 = some (8, k73_2, [.tmp 2]) := by kernel_rfl
def r122_0 : LO := [o 2 (bx 0), o 3 (bx 1), o 4 (mi 0), o 5 (mb false)]
def r122_1 : LO := [o 7 (fa 0 2), o 8 (ld 7), o 9 (.func (.func 179) [] [(T 3)]), o 10 (.call (cf 178) [(T 8), (T 9)]), o 6 (mv 10)]
def r122_2 : LO := [o 11 (mv 6), o 12 (.minmax true [(T 11), (ci 0)]), o 13 (mv 6), o 14 (.bin .geq (T 13) (ci 0)), o 4 (mv 12), o 5 (mv 14)]
def k122_1 : ACode := .seq (.region r122_0) (.seq (.region r122_1) (.seq (.region r122_2) .ret))
theorem fn122 : getFn Tryz.prog 122 = some (15, k122_1, [.tmp 4, .tmp 5]) := by kernel_rfl
def r179_0 : LO := [o 2 (bx 0), o 3 (mb false)]
def r179_1 : LO := [o 4 (fa 0 2), o 5 (ld 4), o 6 (ld 1), o 7 (.bin .eql (T 5) (T 6)), o 3 (mv 7)]
def k179_1 : ACode := .seq (.region r179_0) (.seq (.region r179_1) .ret)
theorem fn179 : getFn Tryz.prog 179 = some (8, k179_1, [.tmp 3]) := by kernel_rfl
def r178_0 : LO := [o 4 (mi 0)]
def r178_1 : LO := [o 6 (mv 0), o 7 (.len false (T 6)), o 8 (mi 0)]
def r178_2 : LO := [o 9 (.bin .lss (T 8) (T 7))]
def r178_6 : LO := [o 10 (mv 8), o 5 (mv 10)]
def r178_7 : LO := [o 11 (mv 1), o 12 (mv 0), o 13 (mv 5), o 14 (.idxSl 3 (T 12) (T 13)), o 15 (ln 3 14), o 16 (.call (T 11) [(T 15)])]
def r178_8 : LO := [o 17 (mv 5), o 4 (mv 17)]
def k178_1 : ACode := .seq (.region r178_7) (.cond (T 16) (.seq (.region r178_8) .ret) .skip)
def r178_16 : LO := [o 18 (.bin .add (T 8) (ci 1)), o 8 (mv 18)]
def k178_2 : ACode := .seq (.block 1 (.seq (.region r178_6) k178_1)) (.region r178_16)
def k178_3 : ACode := .seq (.region r178_2) (.seq (.cond (T 9) .skip (.exit 0)) k178_2)
def r178_23 : LO := [o 4 (mi (-1))]
def k178_4 : ACode := .seq (.seq (.region r178_1) (.block 0 (.loop k178_3))) (.seq (.region r178_23) .ret)
def k178_5 : ACode := .seq (.region r178_0) k178_4
theorem fn178 : getFn Tryz.prog 178 = some (19, k178_5, [.tmp 4]) := by kernel_rfl
def r42_0 : LO := [o 1 (bx 0), o 2 (.alloc [.nil, .nil]), o 3 (mi 0)]
def r42_1 : LO := [o 9 (ln 3 1), o 10 (.call (cf 89) [(T 9)]), o 11 (.un .not (T 10))]
def r42_2 : LO := [o 12 (.build [.nil, .nil] []), on (st 2 2 12), o 3 (mi 1)]
def k42_1 : ACode := .seq (.region r42_1) (.cond (T 11) (.seq (.region r42_2) .ret) .skip)
def r42_8 : LO := [o 4 (.alloc [.nil, .nil])]
def r42_9 : LO := [o 13 (fa 0 1), o 14 (ld 13), o 15 (.len false (T 14)), o 16 (mi 0)]
def r42_10 : LO := [o 17 (.bin .lss (T 16) (T 15))]
def r42_14 : LO := [o 18 (.idxSl 5 (T 14) (T 16)), o 19 (ln 5 18), o 6 (.alloc [aE, .nil, .nil, .nil, .nil]), on (st 5 6 19)]
def r42_15 : LO := [o 20 (fa 0 4), o 21 (ld 20), o 22 (ln 3 1), o 23 (ln 5 6), o 24 (.call (cf 90) [(T 22), (T 23)]), o 25 (.sliceLit 3 1 [aE, .nil, (aI 0)] [((0, 3), (T 24))]), o 26 (.append 185 3 48 (T 21) (T 25))]
def r42_15t : LO := [o 27 (fa 0 4), on (st 1 27 26)]
def r42_15o : LN := [[], [0], [], [], [2, 3], [4], [1, 4, 5]]
def k42_2 : ACode := .block 1 (.seq (.region r42_14) (.drawn r42_15o r42_15 r42_15t))
def r42_18 : LO := [o 28 (.bin .add (T 16) (ci 1)), o 16 (mv 28)]
def k42_3 : ACode := .seq (.cond (T 17) .skip (.exit 0)) (.seq k42_2 (.region r42_18))
def k42_4 : ACode := .seq (.region r42_10) k42_3
def r42_25 : LO := [o 29 (fa 1 1), o 30 (ld 29), o 31 (.len false (T 30)), o 32 (mi 0)]
def r42_26 : LO := [o 33 (.bin .lss (T 32) (T 31))]
def r42_30 : LO := [o 34 (.idxSl 5 (T 30) (T 32)), o 35 (ln 5 34), o 8 (.alloc [aE, (aB false), .nil, .nil, .nil]), on (st 5 8 35)]
def r42_31 : LO := [o 36 (fa 1 4), o 37 (ld 36), o 38 (ln 5 8), o 39 (.call (cf 91) [(T 38)]), o 40 (.sliceLit 5 1 [aE, (aB false), .nil, .nil, .nil] [((0, 5), (T 39))]), o 41 (.append 189 5 96 (T 37) (T 40))]
def r42_31t : LO := [o 42 (fa 1 4), on (st 1 42 41)]
def r42_31o : LN := [[], [0], [], [2], [3], [1, 3, 4]]
def k42_5 : ACode := .block 3 (.seq (.region r42_30) (.drawn r42_31o r42_31 r42_31t))
def r42_34 : LO := [o 43 (.bin .add (T 32) (ci 1)), o 32 (mv 43)]
def k42_6 : ACode := .seq (.cond (T 33) .skip (.exit 2)) (.seq k42_5 (.region r42_34))
def k42_7 : ACode := .seq (.region r42_26) k42_6
def r42_41 : LO := [o 44 (ln 2 4), on (st 2 2 44), o 3 (mi 0)]
def k42_8 : ACode := .seq (.seq (.region r42_25) (.block 2 (.loop k42_7))) (.seq (.region r42_41) .ret)
def k42_9 : ACode := .seq (.region r42_8) (.seq (.seq (.region r42_9) (.block 0 (.loop k42_4))) k42_8)
def k42_10 : ACode := .seq (.region r42_0) (.seq k42_1 k42_9)
theorem fn42 : getFn Tryz.prog 42 = some (45, k42_10, [.cell 2 (some 2), .tmp 3]) := by kernel_rfl
def r90_0 : LO := [o 2 (bx 0), o 3 (bx 1), o 4 (.alloc [aE, .nil, (aI 0)])]
def r90_1 : LO := [o 10 (fa 0 3), o 11 (ld 10), o 12 (.build [aE, .nil, (aI 0)] [((0, 1), (T 11))]), o 5 (.alloc [aE, .nil, (aI 0)]), on (st 3 5 12)]
def r90_2 : LO := [o 6 (.mv (.c .nil))]
def r90_3 : LO := [o 13 (fa 1 3), o 14 (ld 13), o 15 (.len false (T 14)), o 16 (mi 0)]
def r90_4 : LO := [o 17 (.bin .lss (T 16) (T 15))]
def r90_8 : LO := [o 18 (.idxSl 16 (T 14) (T 16)), o 19 (ln 16 18), o 8 (.alloc [(aI 0), aE, (aI 0), (aI 0), (aI 0), aE, aE, (aB false), (aI 0), (aU 0), aE, .nil, .nil, .nil, .nil, .nil]), on (st 16 8 19)]
def r90_9 : LO := [o 20 (fa 0 8), o 21 (ld 20), o 22 (fa 1 8), o 23 (ld 22), o 24 (fa 15 8), o 25 (ld 24), o 26 (.call (cf 147) [(T 25)]), o 27 (fa 2 8), o 28 (ld 27), o 29 (fa 3 8), o 30 (ld 29), o 31 (fa 4 8), o 32 (fa 0 31), o 33 (ld 32), o 34 (ln 3 2), o 35 (fa 4 8), o 36 (ln 2 35), o 37 (.call (cf 148) [(T 34), (T 36)]), o 38 (.build [(aI 0), aE, aE, (aI 0), (aI 0), (aI 0), (aI 0), (aI 0)] [((0, 1), (T 21)), ((1, 1), (T 23)), ((2, 1), (T 26)), ((3, 1), (T 28)), ((4, 1), (T 30)), ((5, 1), (T 33)), ((6, 1), (T 37)), ((7, 1), (ci (-1)))]), o 9 (.alloc [(aI 0), aE, aE, (aI 0), (aI 0), (aI 0), (aI 0), (aI 0)])]
def r90_9t : LO := [on (st 8 9 38)]
def r90_9o : LN := [[], [0], [], [2], [], [4], [5], [], [7], [], [9], [], [11], [12], [], [], [15], [6, 14, 16], [1, 3, 6, 8, 10, 13, 17], []]
def r90_10 : LO := [o 39 (fa 6 8), o 40 (ld 39), o 41 (.bin .neq (T 40) (.c aE))]
def r90_11 : LO := [o 42 (mv 6), o 43 (fa 6 8), o 44 (ld 43), o 45 (.call (cf 59) [(T 42), (T 44)]), o 46 (.un .not (T 45))]
def r90_12 : LO := [o 47 (mv 6), o 48 (fa 6 8), o 49 (ld 48), o 50 (.sliceLit 1 1 [aE] [((0, 1), (T 49))]), o 51 (.append 9 1 16 (T 47) (T 50)), o 6 (mv 51)]
def r90_16 : LO := [o 52 (mv 6), o 53 (fa 6 8), o 54 (ld 53), o 55 (.call (cf 108) [(T 52), (T 54)]), o 56 (fa 7 9), on (st 1 56 55)]
def k90_1 : ACode := .seq (.seq (.region r90_11) (.cond (T 46) (.region r90_12) .skip)) (.region r90_16)
def r90_21 : LO := [o 57 (fa 1 5), o 58 (ld 57), o 59 (ln 8 9), o 60 (.sliceLit 8 1 [(aI 0), aE, aE, (aI 0), (aI 0), (aI 0), (aI 0), (aI 0)] [((0, 8), (T 59))]), o 61 (.append 158 8 80 (T 58) (T 60)), o 62 (fa 1 5), on (st 1 62 61)]
def k90_2 : ACode := .seq (.seq (.region r90_10) (.cond (T 41) k90_1 .skip)) (.region r90_21)
def k90_3 : ACode := .seq (.region r90_8) (.seq (.drawn r90_9o r90_9 r90_9t) k90_2)
def r90_26 : LO := [o 63 (.bin .add (T 16) (ci 1)), o 16 (mv 63)]
def k90_4 : ACode := .seq (.cond (T 17) .skip (.exit 0)) (.seq (.block 1 k90_3) (.region r90_26))
def k90_5 : ACode := .seq (.region r90_4) k90_4
def r90_33 : LO := [o 64 (mv 6), o 65 (.len false (T 64)), o 66 (fa 2 5), on (st 1 66 65)]
def r90_34 : LO := [o 67 (ln 3 5), on (st 3 4 67)]
def k90_6 : ACode := .seq (.seq (.region r90_3) (.block 0 (.loop k90_5))) (.seq (.region r90_33) (.seq (.region r90_34) .ret))
def k90_7 : ACode := .seq (.region r90_0) (.seq (.region r90_1) (.seq (.region r90_2) k90_6))
theorem fn90 : getFn Tryz.prog 90 = some (68, k90_7, [.cell 4 (some 3)]) := by kernel_rfl
def r148_0 : LO := [o 2 (bx 0), o 3 (bx 1), o 4 (mi 0)]
def r148_1 : LO := [o 5 (fa 0 3), o 6 (ld 5)]
def r148_2 : LO := [o 8 (.bin .eql (T 6) (ci 10)), o 7 (mv 8)]
def r148_3 : LO := [o 9 (fa 0 2), o 10 (ld 9), o 11 (.func (.func 209) [] [(T 3)]), o 12 (.call (cf 208) [(T 10), (T 11)]), o 4 (mv 12)]
def r148_6 : LO := [o 14 (.bin .eql (T 6) (ci 9)), o 13 (mv 14)]
def r148_7 : LO := [o 15 (fa 1 2), o 16 (ld 15), o 17 (.func (.func 211) [] [(T 3)]), o 18 (.call (cf 210) [(T 16), (T 17)]), o 4 (mv 18)]
def k148_1 : ACode := .seq (.region r148_6) (.cond (T 13) (.seq (.region r148_7) .ret) .skip)
def k148_2 : ACode := .seq (.region r148_2) (.cond (T 7) (.seq (.region r148_3) .ret) k148_1)
def r148_17 : LO := [o 4 (mi (-1))]
def k148_3 : ACode := .seq (.seq (.region r148_1) (.block 0 k148_2)) (.seq (.region r148_17) .ret)
def k148_4 : ACode := .seq (.region r148_0) k148_3
theorem fn148 : getFn Tryz.prog 148 = some (19, k148_4, [.tmp 4]) := by kernel_rfl
end Go.Proofs.YtlokalcjcoploaaGreatDoor.Lift
