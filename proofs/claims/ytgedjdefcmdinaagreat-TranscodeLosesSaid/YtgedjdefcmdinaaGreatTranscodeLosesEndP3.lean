/- Part 4 of the texts that prove TranscodeLosesEnd. -/
import Derived.Test.YtgedjdefcmdinaaGreatTranscodeLosesEndP2
import Derived.Test.YtgedjdefcmdinaaGreatTranscodeLosesEndP1
import Derived.OpenShut
import Derived.ProofKit
import Derived.Test.YtgedjdefcmdinaaGreatProg
namespace Go.Proofs.YtgedjdefcmdinaaGreat.Lift
open Go.RowKit
set_option linter.unusedVariables false
set_option linter.unusedSimpArgs false
set_option linter.unnecessarySimpa false
set_option linter.unusedSectionVars false
set_option maxRecDepth 100000
structure En (α : Type) where
 e : α -> List AV
 f : α -> List AV
 sz : Nat
 eq : ∀ y, f y = e y
 len : ∀ y, (e y).length = sz
 ro : RowE f sz
def oX : AOp -> AOpd
 | .idxSl _ x _ => x
 | .idxS x _ => x
 | .len _ x => x
 | .bin _ x _ => x
 | .sliceS x _ _ => x
 | .sliceV _ x _ _ _ => x
 | .append _ _ _ x _ => x
 | .conv _ x => x
 | .bytes x => x
 | .load _ x => x
 | .store _ p _ => p
 | .make _ _ _ x _ => x
 | .call f _ => f
 | .eq _ _ x _ => x
 | .next x => x
 | .assertT _ _ _ x => x
 | _ => .t 0
def oY : AOp -> AOpd
 | .idxSl _ _ i => i
 | .idxS _ i => i
 | .bin _ _ y => y
 | .append _ _ _ _ y => y
 | .store _ _ x => x
 | .make _ _ _ _ y => y
 | .eq _ _ _ y => y
 | _ => .t 0
def oE : AOp -> TypeId
 | .append e _ _ _ _ => e
 | _ => 0
def oA : AOp -> List AOpd
 | .call _ l => l
 | _ => []
def opS (s : Mc) : AOper := match s.pc with
 | .v (o :: _) => o
 | .s _ (o :: _) _ _ _ _ => o
 | .s _ [] _ _ (some w) _ => w
 | _ => ⟨none, .alloc [], none⟩
def op (s : Mc) : AOp := (opS s).op
def put (s : Mc) (av : AV) : Mc := match s.pc with
 | .v (o :: L) => ⟨.v L, s.k, putE s.env o.dst av, s.h⟩
 | .s b (o :: L) S gl w tl => ⟨.s b L S gl w tl, s.k, putE s.env o.dst av, s.h⟩
 | _ => s
def putH (s : Mc) (av : AV) (h : AHeap) : Mc := match s.pc with
 | .v (o :: L) => ⟨.v L, s.k, putE s.env o.dst av, h⟩
 | .s _ (o :: L) S gl w tl => ⟨.s false L S gl w tl, s.k, putE s.env o.dst av, h⟩
 | .s _ [] _ _ (some _) tl => ⟨.v tl, s.k, s.env, h⟩
 | _ => s
def okS (s : Mc) : Bool := match s.pc with
 | .v (o :: _) => guardF s.env o.guard == some true
 | .s _ (o :: _) _ _ _ _ => guardF s.env o.guard == some true && quietOp o.op
 | _ => false
def okH (s : Mc) : Bool := match s.pc with
 | .v (o :: _) => guardF s.env o.guard == some true
 | .s _ (o :: _) _ _ _ _ => guardF s.env o.guard == some true && !quietOp o.op && !isNew o
 | .s _ [] _ _ (some _) _ => true
 | _ => false
def seS (s : Mc) (h : AHeap) : Option (List (Option (Option (List AV))) × List (Nat × List AV)) := match s.pc with
 | .s _ (_ :: _) S _ _ _ => some (inS S h, h.globs)
 | _ => none
def seE (s : Mc) : Option (List (Option (Option (List AV))) × List (Nat × List AV)) := match s.pc with
 | .s _ (_ :: _) S gl _ _ => some (S.map (fun p => some (some p.2)), gl)
 | _ => none
def Sees (s : Mc) (h : AHeap) : Prop := match s.pc with
 | .s _ _ S gl _ _ => InS S gl h
 | _ => h = s.h
def globS (s : Mc) : List (Nat × List AV) := match s.pc with
 | .s _ _ _ gl _ _ => gl
 | _ => s.h.globs
def rowS (s : Mc) (r : Nat) : Option (List AV) := match s.pc with
 | .s _ _ S _ _ _ => (S.find? fun p => p.1 == r).map (·.2)
 | _ => (s.h.blks[r]?).bind id
def xv (s : Mc) : Option AV := (oX (op s)).ev s.env
def yv (s : Mc) : Option AV := (oY (op s)).ev s.env
def ownR (x : Option AV) : Nat := match x with
 | some (.sl _ (.own i)) => i
 | _ => 0
def rowR (x : Option AV) : Nat := match x with
 | some (.row r _ _ _ _) => r
 | some (.ptr r _) => r
 | _ => 0
def rowC (x : Option AV) : Nat := match x with
 | some (.row _ _ _ _ c) => c
 | _ => 0
section
variable {P : Program} {f : Nat} {R : Rm} {s : Mc}
theorem sees_glob {h : AHeap} (hs : Sees s h) : h.globs = globS s := by
 unfold Sees at hs
 unfold globS
 split at hs
 ·exact hs.2
 ·subst hs; rfl
theorem sees_row {h : AHeap} {r : Nat} {c : List AV} (hs : Sees s h) (hr : rowS s r = some c) : h.blks[r]? = some (some c) := by
 unfold Sees at hs
 unfold rowS at hr
 split at hs
 ·rename_i hp
  rw [hp] at hr
  simp only [Option.map_eq_some_iff] at hr
  obtain ⟨p, h1, rfl⟩ := hr
  have h2 := List.find?_some h1
  have h3 : p.1 = r := by simpa using h2
  subst h3
  exact hs.1 _ _ (List.mem_of_find?_eq_some h1)
 ·rename_i hp
  subst hs
  split at hr
  ·rename_i hq; exact absurd hq (hp _ _ _ _ _ _)
  ·obtain ⟨x, h1, h2⟩ := Option.bind_eq_some_iff.1 hr
   rw [h1]; exact congrArg some h2
theorem ok_put {av : AV} (hd : ∀ h, Sees s h -> Does P (op s) s.env h av h) (hk : Ok P f R (put s av)) (hc : okS s = true) : Ok P f R s := by
 obtain ⟨pc, k, env, h⟩ := s
 cases pc with
 | v L =>
  cases L with
  | nil => cases hc
  | cons o L => exact .inr (.inl ⟨by simpa [okS] using hc, av, h, hd h rfl, hk⟩)
 | s b L S gl w tl =>
  cases L with
  | nil => cases hc
  | cons o L =>
   have hc' : guardF env o.guard = some true /\ quietOp o.op = true := by simpa [okS] using hc
   exact .inr (.inl ⟨hc'.1, hc'.2, av, fun h2 hi => (hd h2 hi).q, hk⟩)
 | _ => cases hc
theorem ok_putH {av : AV} {h' : AHeap} (hd : Does P (op s) s.env s.h av h') (hk : Ok P f R (putH s av h')) (hc : okH s = true) (hs : seS s h' = seE s) : Ok P f R s := by
 obtain ⟨pc, k, env, h⟩ := s
 cases pc with
 | v L =>
  cases L with
  | nil => cases hc
  | cons o L => exact .inr (.inl ⟨by simpa [okH] using hc, av, h', hd, hk⟩)
 | s b L S gl w tl =>
  cases L with
  | nil =>
   cases w with
   | none => cases hc
   | some w => exact ⟨av, h', hd, hk⟩
  | cons o L =>
   have hc' : (guardF env o.guard = some true /\ quietOp o.op = false) /\ isNew o = false := by simpa [okH] using hc
   have hs' : inS S h' = S.map (fun p => some (some p.2)) /\ h'.globs = gl := by simpa [seS, seE] using hs
   exact .inr (.inr (.inl ⟨hc'.1.1, hc'.1.2, hc'.2, av, h', hd, InS_of hs'.1 hs'.2, hk⟩))
 | _ => cases hc
theorem ev0 (m : Nat) {av : AV} (hd : ∀ h, Does P (op (run m s)) (run m s).env h av h) (hk : Ok P f R (put (run m s) av)) (hc : okS (run m s) = true) : Ok P f R s := ok_run m (ok_put (fun h _ => hd h) hk hc)
variable {α : Type} {W : α -> Prop} {p q : Prop}
theorem KI (m : Nat) (E : En α) {l : List α} {n : Int} (hw : ∃ y, l[n.toNat]? = some y /\ 0 <= n /\ W y) (hk : ∀ y, W y -> Ok P f R (put (run m s) (.elt (E.e y) 0))) (hc : okS (run m s) = true := by kernel_rfl) (ho : op (run m s) = .idxSl E.sz (oX (op (run m s))) (oY (op (run m s))) := by kernel_rfl) (hx : elsOf (xv (run m s)) = some (List.map E.f l) := by kernel_rfl) (hi : intOf (yv (run m s)) = some n := by kernel_rfl) : Ok P f R s := by
 obtain ⟨y, h1, h0, hw⟩ := hw
 exact ev0 m (fun h => by rw [ho]; exact x_idx h0 h1 (E.eq y) hx hi (E.len y)) (hk y hw) hc
theorem KL (m : Nat) (E : En α) (l : List α) (hk : Ok P f R (put (run m s) (.v (.int .i64 l.length)))) (hc : okS (run m s) = true := by kernel_rfl) (ho : op (run m s) = .len false (oX (op (run m s))) := by kernel_rfl) (hx : elsOf (xv (run m s)) = some (List.map E.f l) := by kernel_rfl) : Ok P f R s := ev0 m (fun h => by rw [ho]; exact x_len l E.f hx) hk hc
theorem KC (m : Nat) {g : FuncId} {gl : List (Nat × List AV)} {args : List AV} {e : α -> AV} (hw : ∃ y, PureN P gl g args (e y) /\ W y) (hp : plainL args = true) (hk : ∀ y, W y -> Ok P f R (put (run m s) (e y))) (hc : okS (run m s) = true := by kernel_rfl) (ho : op (run m s) = .call (.c (.clo (.func g) [] [])) (oA (op (run m s))) := by kernel_rfl) (ha : (evs (run m s).env (oA (op (run m s)))).map (List.map nz) = some args := by kernel_rfl) (hg : globS (run m s) = gl := by kernel_rfl) (hgl : plainG gl = true := by kernel_rfl) : Ok P f R s := by
 obtain ⟨y, h1, hw⟩ := hw
 subst hg
 refine ok_run m (ok_put (fun h hs => ?_) (hk y hw) hc)
 rw [ho]
 rw [← sees_glob hs] at h1 hgl
 exact x_call h1 hp ha hgl
def HM (h : AHeap) (y : Option AV) (E : En α) (m : List α) : Prop := y.bind (elsH h E.sz) = some (List.map E.f m)
theorem mE {h : AHeap} {y : Option AV} {E : En α} {l : List α} (hm : y.bind (elsH h E.sz) = some (List.map E.e l) := by kernel_rfl) : HM h y E l := by
 have := funext E.eq
 unfold HM
 rw [this]; exact hm
theorem KA (m : Nat) (E : En α) {l l2 : List α} {b : Nat} (hw : (l.length + l2.length) * b <= 140737488355328 /\ p) (hm : HM (run m s).h (yv (run m s)) E l2) (hk : p -> Ok P f R (putH (run m s) (.sl (List.map E.f (l ++ l2)) (.own (ownR (xv (run m s))))) ⟨(run m s).h.blks, (run m s).h.bufs.set (ownR (xv (run m s))) ((l ++ l2).length, E.sz), (run m s).h.globs⟩)) (hc : okH (run m s) = true := by kernel_rfl) (hs : seS (run m s) ⟨(run m s).h.blks, (run m s).h.bufs.set (ownR (xv (run m s))) ((l ++ l2).length, E.sz), (run m s).h.globs⟩ = seE (run m s) := by kernel_rfl) (ho : op (run m s) = .append (oE (op (run m s))) E.sz b (oX (op (run m s))) (oY (op (run m s))) := by kernel_rfl) (hx : xv (run m s) = some (.sl (List.map E.f l) (.own (ownR (xv (run m s))))) := by kernel_rfl) (hb : (run m s).h.bufs[ownR (xv (run m s))]? = some (l.length, E.sz) := by kernel_rfl) : Ok P f R s := ok_run m (ok_putH (by rw [ho]; exact x_app _ E.f l l2 hw.1 E.ro.hs hm hx hb) (hk hw.2) hc hs)
theorem KRI (m : Nat) {len : Nat} {n : Int} (sz : Nat) (hw : (0 <= n /\ n < (len : Int)) /\ p) (hk : p -> Ok P f R (put (run m s) (.ptr (rowR (xv (run m s))) (0 + n.toNat * sz)))) (hc : okS (run m s) = true := by kernel_rfl) (ho : op (run m s) = .idxSl sz (oX (op (run m s))) (oY (op (run m s))) := by kernel_rfl) (hx : xv (run m s) = some (.row (rowR (xv (run m s))) 0 sz len (rowC (xv (run m s)))) := by kernel_rfl) (hi : intOf (yv (run m s)) = some n := by kernel_rfl) : Ok P f R s := ev0 m (fun h => by rw [ho]; exact x_ridx _ len _ hw.1 hx hi) (hk hw.2) hc
theorem KRn (m : Nat) (E : En α) {l : List α} {i : Nat} (hw : ∃ y, l[i]? = some y /\ W y) (hk : ∀ y, W y -> Ok P f R (put (run m s) (.agg (E.e y)))) (hc : okS (run m s) = true := by kernel_rfl) (ho : op (run m s) = .load (some E.sz) (oX (op (run m s))) := by kernel_rfl) (hx : xv (run m s) = some (.ptr (rowR (xv (run m s))) (0 + i * E.sz)) := by kernel_rfl) (hr : rowS (run m s) (rowR (xv (run m s))) = some (cellsOf E.f l) := by kernel_rfl) : Ok P f R s := by
 obtain ⟨y, h1, hw⟩ := hw
 exact ok_run m (ok_put (fun h hs => by rw [ho]; exact x_rldn E.ro.hs E.ro.hn h1 (E.eq y) (Nat.zero_add _) hx (sees_row hs hr)) (hk y hw) hc)
theorem KRS (m : Nat) (E : En α) (z : α) {l : List α} {i : Nat} (hw : i < l.length /\ p) (hk : p -> Ok P f R (putH (run m s) (.tuple []) ⟨(run m s).h.blks.set (rowR (xv (run m s))) (some (cellsOf E.f (l.set i z))), (run m s).h.bufs, (run m s).h.globs⟩)) (hc : okH (run m s) = true := by kernel_rfl) (hs : seS (run m s) ⟨(run m s).h.blks.set (rowR (xv (run m s))) (some (cellsOf E.f (l.set i z))), (run m s).h.bufs, (run m s).h.globs⟩ = seE (run m s) := by kernel_rfl) (ho : op (run m s) = .store E.sz (oX (op (run m s))) (oY (op (run m s))) := by kernel_rfl) (hx : xv (run m s) = some (.ptr (rowR (xv (run m s))) (0 + i * E.sz)) := by kernel_rfl) (hy : (yv (run m s)).map (fun a => (a.isTuple, a.cells)) = some (false, E.e z) := by kernel_rfl) (hr : (run m s).h.blks[rowR (xv (run m s))]? = some (some (cellsOf E.f l)) := by kernel_rfl) : Ok P f R s := by
 obtain ⟨a, h1, h2⟩ := Option.map_eq_some_iff.1 hy
 have h3 := congrArg Prod.fst h2
 have h4 := congrArg Prod.snd h2
 exact ok_run m (ok_putH (by rw [ho]; exact x_rst z E.ro.hs E.ro.hn hw.1 ((E.eq z).trans h4.symm) (Nat.zero_add _) hx h1 h3 hr) (hk hw.2) hc hs)
end
def gT (s : Mc) : Nat := match (opS s).guard with
 | some (t, _) => t
 | none => 0
def cv (s : Mc) : Option AV := match s.pc with
 | .c (.cond c _ _) => c.ev s.env
 | .v (⟨_, _, some (t, _)⟩ :: _) => get s.env t
 | .s _ (⟨_, _, some (t, _)⟩ :: _) _ _ _ _ => get s.env t
 | _ => none
def br (s : Mc) (b : Bool) : Mc := match s.pc with
 | .c (.cond _ x y) => ⟨.c (if b = true then x else y), s.k, s.env, s.h⟩
 | .v (⟨d, o, some (t, w)⟩ :: L) => ⟨.v (⟨d, o, some (t, w)⟩ :: L), s.k, (t, .v (.bool b)) :: s.env, s.h⟩
 | .s b' (⟨d, o, some (t, w)⟩ :: L) S gl q tl => ⟨.s b' (⟨d, o, some (t, w)⟩ :: L) S gl q tl, s.k, (t, .v (.bool b)) :: s.env, s.h⟩
 | _ => s
section
variable {P : Program} {f : Nat} {R : Rm} {s : Mc}
theorem ok_br {B : Bool} (hv : cv s = some (.v (.bool B))) (h1 : B = true -> Ok P f R (br s true)) (h2 : B = false -> Ok P f R (br s false)) : Ok P f R s := by
 obtain ⟨pc, k, env, h⟩ := s
 simp only [cv] at hv
 split at hv
 ·exact d_cond hv h1 h2
 ·cases hB : B with
  | true => exact ok_less (less_true hB hv) rfl (h1 hB)
  | false => exact ok_less (less_true hB hv) rfl (h2 hB)
 ·cases hB : B with
  | true => exact ok_less (less_true hB hv) rfl (h1 hB)
  | false => exact ok_less (less_true hB hv) rfl (h2 hB)
 ·cases hv
theorem KW (m : Nat) {B : Bool} {p q : Prop} (hw : (B = true -> p) /\ (B = false -> q)) (h1 : B = true -> p -> Ok P f R (br (run m s) true)) (h2 : B = false -> q -> Ok P f R (br (run m s) false)) (hv : cv (run m s) = some (.v (.bool B)) := by kernel_rfl) : Ok P f R s := ok_run m (ok_br hv (fun h => h1 h (hw.1 h)) fun h => h2 h (hw.2 h))
def dpc (n : Nat) : Pc -> Pc
 | .v L => .v (L.drop n)
 | .s b L S gl w tl => .s b (L.drop n) S gl w tl
 | x => x
def jnD (s : Mc) (n : Nat) : Nat := match s.pc with
 | .v L => (((L[n - 1]?).bind fun o => o.dst)).getD 0
 | .s _ L _ _ _ _ => (((L[n - 1]?).bind fun o => o.dst)).getD 0
 | _ => 0
def jn (s : Mc) (n : Nat) (a : AV) : Mc := ⟨dpc n s.pc, s.k, (jnD s n, a) :: drop (gT s) s.env, s.h⟩
def bareM (s : Mc) : Mc := ⟨s.pc, s.k, [], s.h⟩
def fresh (d t : Nat) (e env : Env) : Bool := (e.take (e.length - env.length)).all fun p => p.1 == t || p.1 == d || (get env p.1).isNone
theorem less_jn {d t : Nat} {a : AV} {e env : Env} (h1 : get e d = some a) (h2 : e.drop (e.length - env.length) = env) (h3 : fresh d t e env = true) : Less ((d, a) :: drop t env) e := by
 intro u b hu
 simp only [get] at hu
 split at hu
 ·rename_i hd; subst hd; cases hu; exact h1
 ·rename_i hd
  have h4 : u ≠ t := by
   rintro rfl
   have : ∀ {e : Env}, get (drop u e) u = none := by
    intro e
    induction e with
    | nil => rfl
    | cons q e ih =>
     obtain ⟨v, c⟩ := q
     simp only [drop]
     split
     ·exact ih
     ·rename_i hv; simp only [get]; rw [if_neg hv]; exact ih
   rw [this] at hu; cases hu
  have h5 : get env u = some b := by
   have : ∀ {e : Env}, get (drop t e) u = get e u := by
    intro e
    induction e with
    | nil => rfl
    | cons q e ih =>
     obtain ⟨v, c⟩ := q
     simp only [drop]
     split
     ·rename_i hv; subst hv; simp only [get]; rw [if_neg (fun h => h4 h.symm)]; exact ih
     ·simp only [get]; rw [ih]
   rw [← this]; exact hu
  rw [← List.take_append_drop (e.length - env.length) e, get_two, h2]
  split
  ·rename_i c hc
   have hm := get_mem hc
   have h6 := List.all_eq_true.1 h3 _ hm
   simp only [Bool.or_eq_true, beq_iff_eq] at h6
   rcases h6 with (h6 | h6) | h6
   ·exact absurd h6 h4
   ·exact absurd h6.symm hd
   ·rw [h5] at h6; cases h6
  ·exact h5
def jnv (s : Mc) (n : Nat) : Option (Bool × AV × AV × AV) := match cv s, get (run n (br s true)).env (jnD s n), get (run n (br s false)).env (jnD s n) with
 | some (.v (.bool B)), some (.v (.bool x)), some (.v (.bool y)) => some (B, .v (.bool (bif B then x else y)), .v (.bool x), .v (.bool y))
 | some (.v (.bool B)), some (.v (.int k x)), some (.v (.int _ y)) => some (B, .v (.int k (bif B then x else y)), .v (.int k x), .v (.int k y))
 | some (.v (.bool B)), some (.v (.string x)), some (.v (.string y)) => some (B, .v (.string (bif B then x else y)), .v (.string x), .v (.string y))
 | _, _, _ => none
def jnV (s : Mc) (n : Nat) : AV := ((jnv s n).map fun p => p.2.1).getD .nil
def met (s s1 : Mc) (n : Nat) : Bool := fresh (jnD s n) (gT s) s1.env s.env && (match s.pc with | .v _ => true | .s _ _ _ _ _ _ => true | _ => false)
theorem ok_met {s s1 : Mc} {n : Nat} {a : AV} (hk : Ok P f R (jn s n a)) (ha : get s1.env (jnD s n) = some a) (hb : bareM s1 = bareM (jn s n a)) (hd : s1.env.drop (s1.env.length - s.env.length) = s.env) (hf : met s s1 n = true) : Ok P f R s1 := by
 obtain ⟨pc1, k1, env1, h1⟩ := s1
 obtain ⟨pc, k, env, h⟩ := s
 simp only [bareM, jn, Mc.mk.injEq] at hb
 obtain ⟨rfl, rfl, -, rfl⟩ := hb
 simp only [met, Bool.and_eq_true] at hf
 refine ok_less (less_jn ha hd hf.1) ?_ hk
 cases pc <;> first | rfl | (cases hf.2)
theorem KT (m n : Nat) (hk : Ok P f R (jn (run m s) n (jnV (run m s) n))) (h0 : ((jnv (run m s) n).map fun p => (some p.2.2.1, some p.2.2.2)) = some (get (run n (br (run m s) true)).env (jnD (run m s) n), get (run n (br (run m s) false)).env (jnD (run m s) n)) := by kernel_rfl) (hb : (bareM (run n (br (run m s) true)), bareM (run n (br (run m s) false))) = (bareM (jn (run m s) n .nil), bareM (jn (run m s) n .nil)) := by kernel_rfl) (hd : ((run n (br (run m s) true)).env.drop ((run n (br (run m s) true)).env.length - (run m s).env.length), (run n (br (run m s) false)).env.drop ((run n (br (run m s) false)).env.length - (run m s).env.length)) = ((run m s).env, (run m s).env) := by kernel_rfl) (hf : (met (run m s) (run n (br (run m s) true)) n && met (run m s) (run n (br (run m s) false)) n) = true := by kernel_rfl) : Ok P f R s := by
 refine ok_run m ?_
 generalize run m s = s0 at *
 obtain ⟨⟨B, a, x, y⟩, h1, h2⟩ := Option.map_eq_some_iff.1 h0
 have hV : jnV s0 n = a := by unfold jnV; rw [h1]; rfl
 rw [hV] at hk
 have hc : cv s0 = some (.v (.bool B)) /\ a = bif B then x else y := by
  unfold jnv at h1
  split at h1
  ·rename_i h _ _; cases h1; exact ⟨h, by cases B <;> rfl⟩
  ·rename_i h _ _; cases h1; exact ⟨h, by cases B <;> rfl⟩
  ·rename_i h _ _; cases h1; exact ⟨h, by cases B <;> rfl⟩
  ·cases h1
 simp only [Prod.mk.injEq] at h2 hb hd
 simp only [Bool.and_eq_true] at hf
 refine ok_br hc.1 (fun hB => ?_) (fun hB => ?_)
 ·have ha := hc.2
  rw [hB] at ha
  subst ha
  exact ok_run n (ok_met hk h2.1.symm hb.1 hd.1 hf.1)
 ·have ha := hc.2
  rw [hB] at ha
  subst ha
  exact ok_run n (ok_met hk h2.2.symm hb.2 hd.2 hf.2)
def So (I : List Nat) (h : AHeap) : List (Nat × List AV) := I.map fun i => (i, ((h.blks[i]?).bind id).getD [])
def dr0 (s : Mc) (S : List (Nat × List AV)) : Mc := match s.pc with
 | .c (.drawn _ a t) => ⟨.s true a S s.h.globs none t, s.k, s.env, s.h⟩
 | _ => s
def dr0c (s : Mc) : Bool := match s.pc with
 | .c (.drawn o a _) => okq a && statS (clo o) a
 | _ => false
theorem KD (m : Nat) (I : List Nat) (hk : Ok P f R (dr0 (run m s) (So I (run m s).h))) (hc : dr0c (run m s) = true := by kernel_rfl) (hS : inS (So I (run m s).h) (run m s).h = (So I (run m s).h).map (fun p => some (some p.2)) := by kernel_rfl) : Ok P f R s := by
 refine ok_run m ?_
 generalize run m s = s0 at *
 obtain ⟨pc, k, env, h⟩ := s0
 simp only [dr0c] at hc
 split at hc
 ·rw [Bool.and_eq_true] at hc
  exact dS _ hk hc.1 hc.2 hS
 ·cases hc
def chg (s : Mc) : AV × AHeap := (opn (opS s) s.env s.h).getD (.nil, s.h)
def poss : ACode -> List Fr -> List (Pc × List Fr)
 | .seq a b, k => (.c b, k) :: (poss a (.sq b :: k) ++ poss b k)
 | .cond _ a b, k => poss a k ++ poss b k
 | .block i a, k => poss a (.bk i :: k)
 | .loop a, k => (.l a, k) :: poss a (.lp a :: k)
 | .scope a, k => match gotoOf a with
  | some l => (.g l a, k) :: poss a (.sc l a :: k)
  | none => poss a (.sn :: k)
 | _, _ => []
def pos (P : Program) (f i : Nat) : Pc × List Fr := ((poss (cdC P f) [])[i]?).getD (.n .normal, [])
def J (P : Program) (f : Nat) (R : Rm) (i : Nat) (e : Env) (h : AHeap) : Prop := Ok P f R ⟨(pos P f i).1, (pos P f i).2, e, h⟩
def atC (s : Mc) : Bool := match s.pc with
 | .c _ => true
 | .l _ => true
 | .g _ _ => true
 | _ => false
theorem ok_ghost (hc : atC s = true) (hg : ∀ (σ : Sg) (a : Act), St σ s.h s.env (cdN P f) a -> ∃ σ' h' env', σ'.w = σ.w /\ Le σ σ' /\ St σ' h' env' (cdN P f) a /\ Ok P f R ⟨s.pc, s.k, env', h'⟩) : Ok P f R s := by
 obtain ⟨pc, k, env, h⟩ := s
 cases pc with
 | c x => exact d_ghost hg
 | l x => exact dl_ghost hg
 | g l x => exact dg_ghost hg
 | _ => cases hc
def getZ (Z : List Nat) (env : Env) (p : Nat × AV) : Option AV := if Z.contains p.1 = true then (get env p.1).map nz else get env p.1
theorem trimZ_st {σ : Sg} {h : AHeap} {env e : Env} {N : Nat} {a : Act} {Z : List Nat} (he : e.map (getZ Z env) = e.map fun p => some p.2) (hs : St σ h env N a) : St σ h e N a := ⟨hs.inv, fun t b ht => by
 obtain ⟨i, hi⟩ := List.mem_iff_getElem?.1 (get_mem ht)
 have h1 := congrArg (fun l => l[i]?) he
 simp only [List.getElem?_map, hi, Option.map_some, Option.some.injEq] at h1
 unfold getZ at h1
 split at h1
 ·obtain ⟨c, h2, rfl⟩ := Option.map_eq_some_iff.1 h1
  obtain ⟨y, h3, h4⟩ := hs.env t c h2
  exact ⟨y, h3, h4.nz⟩
 ·exact hs.env t b h1, hs.size, hs.defers⟩
theorem ok_trim {e : Env} (Z : List Nat) (hc : atC s = true) (he : e.map (getZ Z s.env) = e.map fun p => some p.2) (hk : Ok P f R ⟨s.pc, s.k, e, s.h⟩) : Ok P f R s := ok_ghost hc fun σ a hs => ⟨σ, s.h, e, rfl, Le.refl σ, trimZ_st he hs, hk⟩
theorem KJ (m : Nat) (Z : List Nat) {i : Nat} {e : Env} {h : AHeap} (hw : J P f R i e h) (hp : ((run m s).pc, (run m s).k, (run m s).h) = ((pos P f i).1, (pos P f i).2, h) := by kernel_rfl) (hc : atC (run m s) = true := by kernel_rfl) (he : e.map (getZ Z (run m s).env) = e.map (fun p => some p.2) := by kernel_rfl) : Ok P f R s := by
 simp only [Prod.mk.injEq] at hp
 refine ok_run m (ok_trim Z hc he ?_)
 rw [hp.1, hp.2.1, hp.2.2]
 exact hw
def maskOf (h : AHeap) : List Bool := h.blks.map Option.isSome
theorem KJl (m : Nat) (Z : List Nat) {i : Nat} {e : Env} {h : AHeap} (hw : J P f R i e h) (hlow : lowE (maskOf h) h.bufs.length e = true /\ lowB (maskOf h) h.bufs.length h.blks = true) (hp : ((run m s).pc, (run m s).k, keepB (maskOf h) (run m s).h.blks, (run m s).h.bufs.take h.bufs.length, (run m s).h.globs) = ((pos P f i).1, (pos P f i).2, h.blks, h.bufs, h.globs) := by kernel_rfl) (hc : atC (run m s) = true := by kernel_rfl) (he : e.map (getZ Z (run m s).env) = e.map (fun p => some p.2) := by kernel_rfl) (hm : ((List.range R.kb).all (fun k => (maskOf h).getD k false) && Nat.ble R.kf h.bufs.length && plainG h.globs) = true := by kernel_rfl) : Ok P f R s := by
 simp only [Prod.mk.injEq] at hp
 simp only [Bool.and_eq_true, List.all_eq_true, List.mem_range] at hm
 refine ok_run m (ok_trim Z hc he ?_)
 generalize run m s = s0 at *
 obtain ⟨pc, k, env, h0⟩ := s0
 obtain ⟨h1, h2, h3, h4, h5⟩ := hp
 simp only at h1 h2 h3 h4 h5
 have hw' : Ok P f R ⟨pc, k, e, ⟨keepB (maskOf h) h0.blks, h0.bufs.take h.bufs.length, h0.globs⟩⟩ := by
  rw [h3, h4, h5, h1, h2]; exact hw
 have hl2 : lowB (maskOf h) h.bufs.length (keepB (maskOf h) h0.blks) = true := by rw [h3]; exact hlow.2
 have hg : plainG h0.globs = true := by rw [h5]; exact hm.2
 cases pc with
 | c x => exact d_drop _ _ hm.1.1 (Nat.le_of_ble_eq_true hm.1.2) hlow.1 hl2 hg hw'
 | l x => exact dl_drop _ _ hm.1.1 (Nat.le_of_ble_eq_true hm.1.2) hlow.1 hl2 hg hw'
 | g l x => exact dg_drop _ _ hm.1.1 (Nat.le_of_ble_eq_true hm.1.2) hlow.1 hl2 hg hw'
 | _ => cases hc
def blkS (s : Mc) (i : Nat) : List AV := ((s.h.blks[i]?).bind id).getD []
theorem KOb (m i j sz : Nat) (hk : Ok P f R ⟨(run m s).pc, (run m s).k, (run m s).env, ⟨(run m s).h.blks.set i (some ((blkS (run m s) i).set j (.sl [] (.own (run m s).h.bufs.length)))), (run m s).h.bufs ++ [(0, sz)], (run m s).h.globs⟩⟩) (hc : atC (run m s) = true := by kernel_rfl) (hg : (run m s).h.blks[i]? = some (some (blkS (run m s) i)) := by kernel_rfl) (hj : (blkS (run m s) i)[j]? = some .nil := by kernel_rfl) : Ok P f R s := ok_run m (ok_ghost hc fun σ a hs => by
 obtain ⟨σ', h1, h2, h3⟩ := ownb_st sz hg hj hs
 exact ⟨σ', _, _, h1, h2, h3, hk⟩)
def done (s : Mc) : Bool := match s.pc, s.k with
 | .n .ret, [] => true
 | .n .normal, [] => true
 | _, _ => false
theorem done_ok (hd : done s = true) (hk : R.Q (cdR P f) .ret s.env s.h) : Ok P f R s := by
 obtain ⟨pc, k, env, h⟩ := s
 simp only [done] at hd
 split at hd
 ·exact hk
 ·cases R <;> exact hk
 ·cases hd
theorem KR (m : Nat) {T : Type} {e : T -> AV} {r r0 : T} (hw : r = r0) (hp : ∀ r, plain (e r) = true) (hd : done (run m s) = true := by kernel_rfl) (he : (outsF (run m s).env (run m s).h (cdR P f)).map (fun l => nz (retv l)) = some (e r0) := by kernel_rfl) : Ok P f (.ret (e r)) s := ok_run m (done_ok hd (rx hw (hp r0) he))
theorem getFn_cd (h : (getFn P f).isSome = true) : getFn P f = some (cdN P f, cdC P f, cdR P f) := by
 unfold cdN cdC cdR
 cases hg : getFn P f with
 | none => rw [hg] at h; cases h
 | some p => rfl
def s0 (P : Program) (f : Nat) (args : List AV) (h : AHeap) : Mc := ⟨.c (cdC P f), [], envOf 0 args, h⟩
theorem fP {gl : List (Nat × List AV)} {args : List AV} {r : AV} (hk : Ok P f (.ret r) (s0 P f args ⟨[], [], gl⟩)) (hf : ((getFn P f).isSome && Nat.ble args.length (cdN P f)) = true := by kernel_rfl) : PureN P gl f args r := by
 rw [Bool.and_eq_true] at hf
 exact f_pureD (getFn_cd hf.1) (Nat.le_of_ble_eq_true hf.2) rfl hk
def isVv (s : Mc) : Bool := match s.pc with
 | .v (o :: _) => guardF s.env o.guard == some true
 | _ => false
theorem KN (m : Nat) {α : Type} (E : En α) {l : List α} {c : Bool} {W : Bool -> Prop} (hw : ∀ b : Bool, (l ≠ [] -> b = c) -> W b) (hk : ∀ b, W b -> Ok P f R (put (run m s) (.v (.bool b)))) (hc : isVv (run m s) = true := by kernel_rfl) (ho : op (run m s) = .eq .slice (!c) (oX (op (run m s))) (oY (op (run m s))) := by kernel_rfl) (hx : elsOf (xv (run m s)) = some (List.map E.f l) := by kernel_rfl) (hy : yv (run m s) = some .nil := by kernel_rfl) : Ok P f R s := by
 refine ok_run m ?_
 generalize run m s = s0 at *
 obtain ⟨pc, k, env, h⟩ := s0
 obtain ⟨tok, hx⟩ := elsOf_some hx
 cases pc with
 | v L =>
  cases L with
  | nil => cases hc
  | cons o L =>
   refine .inr (.inr ⟨by simpa [isVv] using hc, fun av => ∃ b : Bool, av = .v (.bool b) /\ (l ≠ [] -> b = c), fun K' hK' => ?_, fun av hav => ?_⟩)
   ·change o.op = _ at ho
    rw [ho]
    simp only [aop]
    change wv (xv _) _
    rw [hx]
    simp only [wv]
    change wv (yv _) _
    rw [hy]
    simp only [wv, eqOf]
    rcases Classical.em (l = []) with h0 | h0
    ·right
     subst h0
     exact ⟨rfl, hK' _ ⟨_, rfl, fun hn => absurd rfl hn⟩, hK' _ ⟨_, rfl, fun hn => absurd rfl hn⟩⟩
    ·left
     refine ⟨by simpa using h0, hK' _ ⟨_, rfl, fun _ => ?_⟩⟩
     cases c <;> rfl
   ·obtain ⟨b, rfl, hb⟩ := hav
    exact hk b (hw b hb)
 | _ => cases hc
end
section
variable {P : Program} {f : Nat} {R : Rm} {s : Mc} {α : Type} {W : α -> Prop} {p : Prop}
theorem len1 {l : List (Nat × Nat)} (h : l.length = 1) : ∃ x, l = [x] := by
 match l, h with
 | [x], _ => exact ⟨x, rfl⟩
theorem KT2 (m n : Nat) (B : Bool) (C : Bool -> AV) (h1 : B = true -> Ok P f R (jn (run m s) n (C true)) -> Ok P f R (br (run m s) true)) (h2 : B = false -> Ok P f R (jn (run m s) n (C false)) -> Ok P f R (br (run m s) false)) (hk : Ok P f R (jn (run m s) n (C B))) (hv : cv (run m s) = some (.v (.bool B)) := by kernel_rfl) : Ok P f R s := ok_run m (ok_br hv (fun h => h1 h (by rw [h] at hk; exact hk)) fun h => h2 h (by rw [h] at hk; exact hk))
theorem KE2 (m : Nat) {a : AV} {s0 : Mc} {n : Nat} (key : Ok P f R (jn s0 n a)) (ha : get (run m s).env (jnD s0 n) = some a := by kernel_rfl) (hb : bareM (run m s) = bareM (jn s0 n a) := by kernel_rfl) (hd : (run m s).env.drop ((run m s).env.length - s0.env.length) = s0.env := by kernel_rfl) (hf : met s0 (run m s) n = true := by kernel_rfl) : Ok P f R s := ok_run m (ok_met key ha hb hd hf)
def isCc (s : Mc) : Bool := match s.pc with
 | .c _ => true
 | _ => false
def cut (e : Env) (env : Env) : Env := e.map fun p => (p.1, (get env p.1).getD .nil)
theorem ok_cut {e : Env} (hc : isCc s = true) (he : (cut e s.env).map (getZ [] s.env) = (cut e s.env).map fun p => some p.2) (hk : ∀ x, s.pc = .c x -> D P (cdN P f) R.kb R.kf x (Qs P f R s.k) (cut e s.env) s.h) : Ok P f R s := by
 refine ok_trim [] ?_ he ?_
 ·obtain ⟨pc, k, env, h⟩ := s
  cases pc <;> first | rfl | cases hc
 ·obtain ⟨pc, k, env, h⟩ := s
  cases pc <;> first | exact hk _ rfl | cases hc
theorem KDg (m : Nat) (E : En α) (n : Nat) (mk : List Bool) (k c c' : Nat) (e : Env) (bs : List (Option (List AV))) (hl : lowE mk k e = true /\ lowB mk k bs = true) {l : List α} {len : Nat} (hw : l.length = len /\ p) (hk : p -> Ok P f R ⟨(run m s).pc, (run m s).k, e, ⟨bs, (run m s).h.bufs.take k, (run m s).h.globs⟩⟩) (hc : isCc (run m s) = true := by kernel_rfl) (he : (cut e (run m s).env).map (getZ [] (run m s).env) = (cut e (run m s).env).map (fun p => some p.2) := by kernel_rfl) (hb : (run m s).h.blks[n]? = some (some (cellsOf E.f l)) := by kernel_rfl) (h1 : (!mk.getD n false && alive mk (run m s).h.blks && (List.range R.kb).all (fun k => mk.getD k false) && Nat.ble R.kf k && plainG (run m s).h.globs) = true := by kernel_rfl) (hr : rowsOf n (cut e (run m s).env) = List.replicate c (0, E.sz, len) := by kernel_rfl) (hr2 : rowsB n (keepB mk (run m s).h.blks) = List.replicate c' (0, E.sz, len) := by kernel_rfl) (hE : rfzE n (List.map E.f l) (cut e (run m s).env) = e := by kernel_rfl) (hbs : rfzB n (List.map E.f l) (keepB mk (run m s).h.blks) = bs := by kernel_rfl) : Ok P f R s := by
 simp only [Bool.and_eq_true, List.all_eq_true, List.mem_range, Bool.not_eq_true'] at h1
 obtain ⟨⟨⟨⟨a2, a3⟩, a4⟩, a5⟩, a6⟩ := h1
 refine ok_run m (ok_cut hc he fun x hx => ?_)
 have hk := hk hw.2
 rw [hx] at hk
 exact drfB n mk k c c' l len e bs E.ro.hs E.ro.hn hw.1 hl hk hb hr hr2 a2 a3 a4 a5 hE hbs a6
end
def cloneE : ACode -> TypeId
 | .seq _ (.seq _ (.seq (.region [_, _, ⟨_, .append e _ _ _ _, _⟩, _]) _)) => e
 | _ => 0
def cloneC (e sz b : Nat) : ACode := .seq (.region [o 2 (.mv (.c .nil))]) (.seq (.seq (.region [o 3 (mv 0), o 4 (.eq .slice true (T 3) (.c .nil))]) (.cond (T 4) (.seq (.region [o 2 (.mv (.c .nil))]) .ret) .skip)) (.seq (.region [o 5 (.sliceLit sz 0 [] []), o 6 (mv 0), o 7 (.append e sz b (T 5) (T 6)), o 2 (mv 7)]) .ret))
theorem x_slit0 {P : Program} {sz : Nat} {env : Env} {h : AHeap} : Does P (.sliceLit sz 0 [] []) env h (.sl [] .full) h := does_F (by simp [aopF, evp, fills, chunk])
theorem clone_new {P : Program} {g b : Nat} {α : Type} (E : En α) {s : List α} (hw : s ≠ [] /\ s.length * b <= 140737488355328) (hf : getFn P g = some (8, cloneC (cloneE (cdC P g)) E.sz b, [.tmp 2]) := by kernel_rfl) : NewC P E.f E.sz g s := by
 refine f_new hf rfl rfl (ds (va 1 [] (ve (d_seqQ (ds (va 1 [(3, .sl (List.map E.f s) .no)] (vn rfl s E.f (fun bj1 hb0 => ?_))))))))
 refine ve (dkf (hb0 hw.1) ?_)
 refine d_skip (ds (vo rfl x_slit0 rfl (va 1 [(6, .sl (List.map E.f s) .no)] ?_)))
 exact vo rfl (x_appR E.f s hw.1 hw.2 E.ro.hs (by kernel_rfl)) rfl (va 1 [(2, .row 0 0 E.sz s.length s.length)] (ve (d_ret (rnew rfl))))
section
variable {α : Type} {e : α -> List AV} {sz : Nat}
theorem splice_app (a b : List AV) (o : Nat) (cs : List AV) : splice (a ++ b) (a.length + o) cs = a ++ splice b o cs := by
 unfold splice
 rw [List.take_append, List.drop_append, List.take_of_length_le (by omega), List.drop_of_length_le (by omega)]
 simp only [List.nil_append, List.append_assoc]
 congr 2
 ·congr 1; omega
 ·congr 2; omega
theorem splice_le (a b : List AV) (o : Nat) (cs : List AV) (h : o + cs.length <= a.length) : splice (a ++ b) o cs = splice a o cs ++ b := by
 unfold splice
 rw [List.take_append_of_le_length (by omega), List.drop_append_of_le_length (by omega)]
 simp only [List.append_assoc]
theorem cellsOf_setp (hs : ∀ y, (e y).length = sz) : ∀ {l : List α} {i k : Nat} {y z : α} {cs : List AV}, l[i]? = some y -> k + cs.length <= sz -> e z = splice (e y) k cs -> splice (cellsOf e l) (i * sz + k) cs = cellsOf e (l.set i z)
 | [], i, k, y, z, cs, h, _, _ => by simp at h
 | x :: l, 0, k, y, z, cs, h, hk, hz => by
  simp at h; subst h
  simp only [cellsOf, List.map_cons, List.flatten_cons, List.set_cons_zero, Nat.zero_mul, Nat.zero_add]
  rw [splice_le _ _ _ _ (by rw [hs]; exact hk), hz]
 | x :: l, i + 1, k, y, z, cs, h, hk, hz => by
  have ih := cellsOf_setp hs (l := l) (i := i) (y := y) (z := z) (by simpa using h) hk hz
  simp only [cellsOf, List.map_cons, List.flatten_cons, List.set_cons_succ] at ih ⊢
  have e1 : (i + 1) * sz + k = (e x).length + (i * sz + k) := by rw [hs, Nat.add_mul]; omega
  rw [e1, splice_app, ih]
theorem x_rstp {P : Program} {h : AHeap} {env : Env} {p x : AOpd} {r off i k m : Nat} {l : List α} {av : AV} {y z : α} (hs : ∀ y, (e y).length = sz) (hn : ∀ y, noIt (e y) = true) (hy : l[i]? = some y) (hk : k + m <= sz) (hm : av.cells.length = m) (hz : e z = splice (e y) k av.cells) (hoff : off = i * sz + k) (hp : p.ev env = some (.ptr r off)) (hx : x.ev env = some av) (ht : av.isTuple = false) (hb : h.blks[r]? = some (some (cellsOf e l))) : Does P (.store m p x) env h (.tuple []) ⟨h.blks.set r (some (cellsOf e (l.set i z))), h.bufs, h.globs⟩ := by
 intro K hK
 have hne : l ≠ [] := by rintro rfl; simp at hy
 simp only [aop, hp, hx, wv, stored, hb, cellsOf_ni hn hne]
 rw [← cellsOf_setp hs hy (by rw [hm]; exact hk) hz, ← hoff] at hK
 refine ⟨⟨trivial, hm, ?_, ht⟩, hK⟩
 have hi := (List.getElem?_eq_some_iff.1 hy).1
 rw [hoff, cellsOf_len hs]
 have : (i + 1) * sz <= l.length * sz := Nat.mul_le_mul_right sz hi
 rw [Nat.add_mul] at this
 omega
end
section
variable {P : Program} {f : Nat} {R : Rm} {s : Mc} {α : Type} {W : α -> Prop}
theorem KRP (m : Nat) (E : En α) (k n : Nat) (z : α -> α) {l : List α} {i : Nat} (cs : List AV) (hw : ∃ y, l[i]? = some y /\ W y) (hz : ∀ y, E.e (z y) = splice (E.e y) k cs)
  (hk : ∀ y, W y -> Ok P f R (putH (run m s) (.tuple []) ⟨(run m s).h.blks.set (rowR (xv (run m s))) (some (cellsOf E.f (l.set i (z y)))), (run m s).h.bufs, (run m s).h.globs⟩)) (hc : okH (run m s) = true := by kernel_rfl)
  (hs : (fun y => seS (run m s) ⟨(run m s).h.blks.set (rowR (xv (run m s))) (some (cellsOf E.f (l.set i (z y)))), (run m s).h.bufs, (run m s).h.globs⟩) = (fun _ => seE (run m s)) := by kernel_rfl)
  (ho : op (run m s) = .store n (oX (op (run m s))) (oY (op (run m s))) := by kernel_rfl) (hx : xv (run m s) = some (.ptr (rowR (xv (run m s))) (0 + i * E.sz + k)) := by kernel_rfl)
  (hy : (yv (run m s)).map (fun a => (a.isTuple, a.cells)) = some (false, cs) := by kernel_rfl) (hn : (cs.length, Nat.ble (k + n) E.sz) = (n, true) := by kernel_rfl) (hr : (run m s).h.blks[rowR (xv (run m s))]? = some (some (cellsOf E.f l)) := by kernel_rfl) : Ok P f R s := by
 obtain ⟨y, h1, hw⟩ := hw
 obtain ⟨a, h2, h3⟩ := Option.map_eq_some_iff.1 hy
 have h4 := congrArg Prod.fst h3
 have h5 := congrArg Prod.snd h3
 simp only [Prod.mk.injEq] at hn
 simp only at h4 h5
 refine ok_run m (ok_putH (by rw [ho]; exact x_rstp (k := k) (y := y) (z := z y) E.ro.hs E.ro.hn h1 (Nat.le_of_ble_eq_true hn.2) (by rw [h5]; exact hn.1) (by rw [E.eq, E.eq, hz, h5]) (by omega) hx h2 h4 hr) (hk y hw) hc (congrFun hs y))
end
abbrev Rws := List (Nat × List (List AV) × Nat)
def rsAt (rs : Rws) (j : Nat) : Option (List (List AV) × Nat) := match rs with
 | [] => none
 | p :: r => if p.1 = j then some p.2 else rsAt r j
def rfzs (rs : Rws) : AV -> AV
 | .row j off size len cap => match rsAt rs j with
  | some p => .sl p.1 .no
  | none => .row j off size len cap
 | a => a
def rfzsE (rs : Rws) : Env -> Env
 | [] => []
 | (t, a) :: e => (t, rfzs rs a) :: rfzsE rs e
theorem rfzsE_get {rs : Rws} : ∀ {e : Env} {t : Nat} {b : AV}, get (rfzsE rs e) t = some b -> ∃ a, get e t = some a /\ b = rfzs rs a
 | [], _, _, h => by cases h
 | (u, a) :: e, t, b, h => by
  simp only [rfzsE, get] at h ⊢
  split at h
  ·rename_i hu; rw [if_pos hu]; cases h; exact ⟨a, rfl, rfl⟩
  ·rename_i hu; rw [if_neg hu]; exact rfzsE_get h
def rfzsB (rs : Rws) (bs : List (Option (List AV))) : List (Option (List AV)) := bs.map (Option.map (List.map (rfzs rs)))
theorem rfzs_cell (rs : Rws) (a : AV) : (rfzs rs a).isCell = a.isCell := by
 cases a with
 | row k off size len cap => simp only [rfzs]; split <;> rfl
 | _ => rfl
structure RsOK (h : AHeap) (m : List Bool) (j : Nat) (els : List (List AV)) (sz : Nat) : Prop where
 hb : h.blks[j]? = some (some els.flatten)
 hsz : ∀ el ∈ els, el.length = sz
 hit : els ≠ [] -> noIt els.flatten = true
 hmn : m.getD j false = false
section
variable {σ : Sg} {h : AHeap} {m : List Bool} {k : Nat} {rs : Rws}
theorem rel_rfzs (hi : Inv h σ) (hR : ∀ j els sz, rsAt rs j = some (els, sz) -> RsOK h m j els sz) (hal : alive m h.blks = true)
  {a0 : AV} {y : Value} (h3 : Rel σ a0 y) (hrow : ∀ j els sz off size len' cap, rsAt rs j = some (els, sz) -> a0 = .row j off size len' cap -> off = 0 /\ size = sz /\ len' = els.length) (hlow : low m k (rfzs rs a0) = true) : Rel (σ.cut m k) (rfzs rs a0) y := by
 cases a0 with
 | row j off size len' cap =>
  simp only [rfzs] at hlow ⊢
  split at hlow
  ·rename_i p hj
   obtain ⟨els, sz⟩ := p
   obtain ⟨hb, hsz, hit, hmn⟩ := hR j els sz hj
   obtain ⟨rfl, rfl, rfl⟩ := hrow _ _ _ _ _ _ _ hj rfl
   simp only
   cases h3 with
   | row _ _ _ _ _ b cap' hblk hcap _ _ =>
   obtain ⟨b', h4, h5⟩ := hi.blk j _ hb
   rw [hblk] at h4; cases h4
   rcases Classical.em (els = []) with h0 | h0
   ·subst h0; exact .slx _ ⟨b, 0, none⟩ cap' trivial (.inl rfl)
   have hni := hit h0
   obtain ⟨cs, rest, elem, h6, h7⟩ := h5.plain hni
   have hlc : lowLL m k els = true := by simpa [low] using hlow
   have key : ∀ (i : Nat) (el : List AV), els[i]? = some el -> ∀ (q : Nat) (av : AV), el[q]? = some av -> ∃ xv, σ.w.cell? ⟨b, 0 + i * size + q, none⟩ = some xv /\ Rel σ av xv /\ av.isCell = true := by
    intro i el hie q av hq
    have hql : q < size := by rw [← hsz el (List.mem_of_getElem? hie)]; exact (List.getElem?_eq_some_iff.1 hq).1
    have hf := flat_get els hsz i q hql
    rw [hie, Option.bind_some, hq] at hf
    obtain ⟨q1, xv, q2, q3⟩ := h7.2 _ av hf
    refine ⟨xv, ?_, q3, q1⟩
    have hlt := (List.getElem?_eq_some_iff.1 q2).1
    rw [Nat.zero_add]
    simp [World.cell?, h6, List.getElem?_append_left hlt, q2]
   have hne : els.flatten ≠ [] := noIt_ne hni
   refine Rel.sl (σ := σ.cut m k) els .no b 0 cap' size (fun i q => (σ.w.cell? ⟨b, 0 + i * size + q, none⟩).getD undef) (fun i el hie => hsz el (List.mem_of_getElem? hie)) hcap trivial (fun id e hid => by cases hid) (fun i el hie q av hq => ?_) fun i el hie q av hq => ?_
   ·obtain ⟨xv, q1, q2, q3⟩ := key i el hie q av hq
    refine ⟨by show σ.w.cell? _ = _; rw [q1]; rfl, ?_, q3⟩
    rintro (ho | ⟨j', hj'⟩ | ⟨id, eb, he1, he2⟩)
    ·exact (hi.outer _ _ ho).2 (.inl ⟨j, hblk⟩)
    ·simp only [Sg.cut] at hj'
     split at hj'
     ·rename_i hmj
      obtain ⟨c', hc'⟩ := hi.dom j' b hj'
      have := hi.inj j' j b c' _ hc' hb (alive_get hal hmj hc') hne hj' hblk
      subst this
      rw [hmn] at hmj; cases hmj
     ·cases hj'
    ·simp only [Sg.cut] at he1
     split at he1
     ·exact hi.bufblk id eb j b _ he1 he2 hblk
     ·cases he1
   ·obtain ⟨xv, q1, q2, q3⟩ := key i el hie q av hq
    rw [q1]
    exact q2.cut (lowL_get (lowLL_get hlc i el hie) q av hq)
  ·exact h3.cut hlow
 | _ => exact h3.cut hlow
theorem Inv.cutRs (hi : Inv h σ) (hR : ∀ j els sz, rsAt rs j = some (els, sz) -> RsOK h m j els sz) (hal : alive m h.blks = true)
  (hrow : ∀ j els sz, rsAt rs j = some (els, sz) -> ∀ (i : Nat) (c : List AV), (keepB m h.blks)[i]? = some (some c) -> ∀ off size len' cap, AV.row j off size len' cap ∈ c -> off = 0 /\ size = sz /\ len' = els.length) (hB : lowB m k (rfzsB rs (keepB m h.blks)) = true) (hg : plainG h.globs = true) : Inv ⟨rfzsB rs (keepB m h.blks), h.bufs.take k, h.globs⟩ (σ.cut m k) := by
 have hblk : ∀ {j b : Nat}, (σ.cut m k).blk j = some b -> m.getD j false = true /\ σ.blk j = some b := by
  intro k b hk
  simp only [Sg.cut] at hk
  split at hk
  ·rename_i h1; exact ⟨h1, hk⟩
  ·cases hk
 have hbuf : ∀ {j : Nat} {e : Buf}, (σ.cut m k).buf j = some e -> j < k /\ σ.buf j = some e := by
  intro k b hk
  simp only [Sg.cut] at hk
  split at hk
  ·rename_i h1; exact ⟨h1, hk⟩
  ·cases hk
 have hget : ∀ {j : Nat} {c : List AV}, (rfzsB rs (keepB m h.blks))[j]? = some (some c) -> ∃ c0, (keepB m h.blks)[j]? = some (some c0) /\ c = c0.map (rfzs rs) := by
  intro j c hj
  simp only [rfzsB, List.getElem?_map, Option.map_eq_some_iff] at hj
  obtain ⟨o, h1, h2⟩ := hj
  obtain ⟨c0, rfl, h3⟩ := h2
  exact ⟨c0, h1, h3.symm⟩
 have hne : ∀ {c0 : List AV}, c0.map (rfzs rs) ≠ [] -> c0 ≠ [] := by rintro _ h rfl; exact h rfl
 refine ⟨fun j cs' hj => ?_, fun j b hj => ?_, fun j l b c c' hj hl hc hc' h1 h2 => ?_, fun id c hc => ?_, fun id e he => ?_, fun id e he => hi.bufle id e (hbuf he).2, fun id e b o he hs => hi.bufat id e b o (hbuf he).2 hs, fun id e b o he hs => hi.bufun id e b o (hbuf he).2 hs, fun id e b o he hs => hi.buflt id e b o (hbuf he).2 hs, fun i j e f b o he hf h1 h2 => hi.bufinj i j e f b o (hbuf he).2 (hbuf hf).2 h1 h2, fun id e k b o he hs hk => hi.bufblk id e k b o (hbuf he).2 hs (hblk hk).2, fun b o ho => ⟨(hi.outer b o ho).1, fun h => (hi.outer b o ho).2 (cut_own h)⟩, fun g cells hgl => ?_⟩
 ·obtain ⟨c0, h0, rfl⟩ := hget hj
  obtain ⟨h1, h2⟩ := keepB_get h0
  obtain ⟨b, h3, h4⟩ := hi.blk j c0 h2
  refine ⟨b, by simp only [Sg.cut]; rw [if_pos h1]; exact h3, ?_⟩
  have hlow := lowB_get hB hj
  cases h4 with
  | cells _ cs rest elem h5 h6 =>
   refine .cells _ cs rest elem h5 ⟨by rw [h6.1]; simp, fun i a hia => ?_⟩
   have hla := lowL_get hlow i a hia
   simp only [List.getElem?_map, Option.map_eq_some_iff] at hia
   obtain ⟨a0, q1, rfl⟩ := hia
   obtain ⟨q2, x, q3, q4⟩ := h6.2 i a0 q1
   refine ⟨by rw [rfzs_cell]; exact q2, x, q3, rel_rfzs hi hR hal q4 (fun j' els sz off size len' cap hj' he => ?_) hla⟩
   subst he
   exact hrow j' els sz hj' j c0 h0 _ _ _ _ (List.mem_of_getElem? q1)
  | it s p h5 => exact .it s p h5
  | map es clock l h5 h6 =>
   have hll : lowL m k l = true := by simpa [lowL, Lift.low, rfzs] using hlow
   exact .map es clock l h5 (h6.cut hll)
 ·obtain ⟨h1, h2⟩ := hblk hj
  obtain ⟨c, h3⟩ := hi.dom j b h2
  exact ⟨c.map (rfzs rs), by simp only [rfzsB, List.getElem?_map, keepB_of h1 h3]; rfl⟩
 ·obtain ⟨c0, k0, rfl⟩ := hget hj
  obtain ⟨c1, k1, rfl⟩ := hget hl
  exact hi.inj j l b c0 c1 (keepB_get k0).2 (keepB_get k1).2 (hne hc) (hne hc') (hblk h1).2 (hblk h2).2
 ·rw [List.getElem?_take] at hc
  split at hc
  ·rename_i h1
   obtain ⟨e, h2, h3⟩ := hi.buf id c hc
   exact ⟨e, by simp only [Sg.cut]; rw [if_pos h1]; exact h2, h3⟩
  ·cases hc
 ·obtain ⟨h1, h2⟩ := hbuf he
  rw [List.getElem?_take, if_pos h1]
  exact hi.bufdom id e h2
 ·have hl0 : Lift.low m k (.elt cells 0) = true := by simp only [Lift.low]; exact lowL_plain m k cells (List.all_eq_true.1 hg _ hgl)
  exact (hi.glob g cells hgl).cut hl0
end
theorem drfs {P : Program} {h : AHeap} {env : Env} {N kb kf : Nat} {Q : Exit -> Env -> AHeap -> Prop} {x : ACode} (m : List Bool) (k : Nat) (rs : Rws) (e : Env) (bs : List (Option (List AV))) (hR : ∀ j els sz, rsAt rs j = some (els, sz) -> RsOK h m j els sz) (hal : alive m h.blks = true)
  (hrow : ∀ j els sz, rsAt rs j = some (els, sz) -> ∀ q ∈ rowsOf j env ++ rowsB j (keepB m h.blks), q = (0, sz, els.length)) (hw : lowE m k e = true /\ lowB m k bs = true) (hx : D P N kb kf x Q e ⟨bs, h.bufs.take k, h.globs⟩) (hm : ∀ k, k < kb -> m.getD k false = true) (hkf : Nat.ble kf k = true) (hE : rfzsE rs env = e) (hbs : rfzsB rs (keepB m h.blks) = bs) (hg : plainG h.globs = true) : D P N kb kf x Q env h := ⟨by
 subst hbs hE
 intro co hc σ0 σ a hst hle hl
 refine hx.out co hc σ0 (σ.cut m k) a ⟨hst.inv.cutRs hR hal (fun j els sz hj i c hc off size len' cap ha => ?_) hw.2 hg, fun t av ht => ?_, hst.size, hst.defers⟩ (hle.cut hl hm (Nat.le_of_ble_eq_true hkf)) hl
 ·have := hrow j els sz hj _ (List.mem_append_right _ (rowsB_get hc (rowsL_get ha)))
  simpa [Prod.ext_iff] using this
 ·have hlow := lowE_get hw.1 ht
  obtain ⟨a0, k1, rfl⟩ := rfzsE_get ht
  obtain ⟨y, k2, k3⟩ := hst.env t a0 k1
  refine ⟨y, k2, rel_rfzs hst.inv hR hal k3 (fun j els sz off size len' cap hj he => ?_) hlow⟩
  subst he
  have := hrow j els sz hj _ (List.mem_append_left _ (rowsOf_get k1))
  simpa [Prod.ext_iff] using this⟩
section
variable {P : Program} {f : Nat} {R : Rm} {s : Mc} {α β γ : Type} {p : Prop}
def RsOne (s : Mc) (mk : List Bool) (n : Nat) (els : List (List AV)) (sz : Nat) : Prop := RsOK s.h mk n els sz /\ ∀ q ∈ rowsOf n s.env ++ rowsB n (keepB mk s.h.blks), q = (0, sz, els.length)
theorem rsOne (E : En α) {mk : List Bool} {n c c' : Nat} {l : List α} {len : Nat} (hlen : l.length = len) (hb : s.h.blks[n]? = some (some (cellsOf E.f l))) (hmn : mk.getD n false = false) (hr : rowsOf n s.env = List.replicate c (0, E.sz, len)) (hr2 : rowsB n (keepB mk s.h.blks) = List.replicate c' (0, E.sz, len)) : RsOne s mk n (l.map E.f) E.sz := by
 refine ⟨⟨hb, cellsOf_sz E.ro.hs, fun h0 => cellsOf_ni E.ro.hn (fun h => h0 (by rw [h]; rfl)), hmn⟩, fun q hq => ?_⟩
 rw [List.length_map, hlen]
 rcases List.mem_append.1 hq with h | h
 ·rw [hr] at h; exact (List.mem_replicate.1 h).2
 ·rw [hr2] at h; exact (List.mem_replicate.1 h).2
def RsAll (s : Mc) (mk : List Bool) : Rws -> Prop
 | [] => True
 | (n, els, sz) :: r => RsOne s mk n els sz /\ RsAll s mk r
theorem rsAll_at {mk : List Bool} : ∀ {rs : Rws} {j : Nat} {els : List (List AV)} {sz : Nat}, RsAll s mk rs -> rsAt rs j = some (els, sz) -> RsOne s mk j els sz
 | [], _, _, _, _, h => by cases h
 | (n, els', sz') :: r, j, els, sz, hA, h => by
  simp only [rsAt] at h
  split at h
  ·rename_i hn; cases h; cases hn; exact hA.1
  ·exact rsAll_at hA.2 h
theorem KDs (m : Nat) (mk : List Bool) (k : Nat) (e : Env) (bs : List (Option (List AV))) (rs : Rws) (hl : lowE mk k e = true /\ lowB mk k bs = true) (hA : RsAll ⟨(run m s).pc, (run m s).k, cut e (run m s).env, (run m s).h⟩ mk rs) (hk : Ok P f R ⟨(run m s).pc, (run m s).k, e, ⟨bs, (run m s).h.bufs.take k, (run m s).h.globs⟩⟩) (hc : isCc (run m s) = true) (he : (cut e (run m s).env).map (getZ [] (run m s).env) = (cut e (run m s).env).map (fun p => some p.2)) (h1 : (alive mk (run m s).h.blks && (List.range R.kb).all (fun k => mk.getD k false) && Nat.ble R.kf k && plainG (run m s).h.globs) = true) (hE : rfzsE rs (cut e (run m s).env) = e) (hbs : rfzsB rs (keepB mk (run m s).h.blks) = bs) : Ok P f R s := by
 simp only [Bool.and_eq_true, List.all_eq_true, List.mem_range] at h1
 obtain ⟨⟨⟨a3, a4⟩, a5⟩, a6⟩ := h1
 refine ok_run m (ok_cut hc he fun x hx => ?_)
 rw [hx] at hk
 exact drfs mk k rs e bs (fun j els sz hj => (rsAll_at hA hj).1) a3 (fun j els sz hj => (rsAll_at hA hj).2) hl hk a4 a5 hE hbs a6
theorem KD2 (m : Nat) (mk : List Bool) (k : Nat) (e : Env) (bs : List (Option (List AV))) (E1 : En α) (n1 c1 d1 : Nat) (E2 : En β) (n2 c2 d2 : Nat) (hl : lowE mk k e = true /\ lowB mk k bs = true) {l1 : List α} {l2 : List β} {len1 len2 : Nat} (hw : l1.length = len1 /\ l2.length = len2 /\ p) (hk : p -> Ok P f R ⟨(run m s).pc, (run m s).k, e, ⟨bs, (run m s).h.bufs.take k, (run m s).h.globs⟩⟩) (hc : isCc (run m s) = true := by kernel_rfl) (he : (cut e (run m s).env).map (getZ [] (run m s).env) = (cut e (run m s).env).map (fun p => some p.2) := by kernel_rfl)
  (h1 : (alive mk (run m s).h.blks && (List.range R.kb).all (fun k => mk.getD k false) && Nat.ble R.kf k && plainG (run m s).h.globs) = true := by kernel_rfl) (hb1 : (run m s).h.blks[n1]? = some (some (cellsOf E1.f l1)) := by kernel_rfl) (hb2 : (run m s).h.blks[n2]? = some (some (cellsOf E2.f l2)) := by kernel_rfl) (hm : (mk.getD n1 false, mk.getD n2 false) = (false, false) := by kernel_rfl)
  (r1 : rowsOf n1 (cut e (run m s).env) = List.replicate c1 (0, E1.sz, len1) := by kernel_rfl) (r2 : rowsOf n2 (cut e (run m s).env) = List.replicate c2 (0, E2.sz, len2) := by kernel_rfl) (s1 : rowsB n1 (keepB mk (run m s).h.blks) = List.replicate d1 (0, E1.sz, len1) := by kernel_rfl) (s2 : rowsB n2 (keepB mk (run m s).h.blks) = List.replicate d2 (0, E2.sz, len2) := by kernel_rfl)
  (hE : rfzsE [(n1, l1.map E1.f, E1.sz), (n2, l2.map E2.f, E2.sz)] (cut e (run m s).env) = e := by kernel_rfl) (hbs : rfzsB [(n1, l1.map E1.f, E1.sz), (n2, l2.map E2.f, E2.sz)] (keepB mk (run m s).h.blks) = bs := by kernel_rfl) : Ok P f R s := by
 simp only [Prod.mk.injEq] at hm
 exact KDs m mk k e bs [(n1, l1.map E1.f, E1.sz), (n2, l2.map E2.f, E2.sz)] hl ⟨rsOne E1 hw.1 hb1 hm.1 r1 s1, rsOne E2 hw.2.1 hb2 hm.2 r2 s2, trivial⟩ (hk hw.2.2) hc he h1 hE hbs
theorem KD3 (m : Nat) (mk : List Bool) (k : Nat) (e : Env) (bs : List (Option (List AV))) (E1 : En α) (n1 c1 d1 : Nat) (E2 : En β) (n2 c2 d2 : Nat) (E3 : En γ) (n3 c3 d3 : Nat) (hl : lowE mk k e = true /\ lowB mk k bs = true) {l1 : List α} {l2 : List β} {l3 : List γ} {len1 len2 len3 : Nat} (hw : l1.length = len1 /\ l2.length = len2 /\ l3.length = len3 /\ p) (hk : p -> Ok P f R ⟨(run m s).pc, (run m s).k, e, ⟨bs, (run m s).h.bufs.take k, (run m s).h.globs⟩⟩) (hc : isCc (run m s) = true := by kernel_rfl) (he : (cut e (run m s).env).map (getZ [] (run m s).env) = (cut e (run m s).env).map (fun p => some p.2) := by kernel_rfl)
  (h1 : (alive mk (run m s).h.blks && (List.range R.kb).all (fun k => mk.getD k false) && Nat.ble R.kf k && plainG (run m s).h.globs) = true := by kernel_rfl) (hb1 : (run m s).h.blks[n1]? = some (some (cellsOf E1.f l1)) := by kernel_rfl) (hb2 : (run m s).h.blks[n2]? = some (some (cellsOf E2.f l2)) := by kernel_rfl) (hb3 : (run m s).h.blks[n3]? = some (some (cellsOf E3.f l3)) := by kernel_rfl) (hm : (mk.getD n1 false, mk.getD n2 false, mk.getD n3 false) = (false, false, false) := by kernel_rfl)
  (r1 : rowsOf n1 (cut e (run m s).env) = List.replicate c1 (0, E1.sz, len1) := by kernel_rfl) (r2 : rowsOf n2 (cut e (run m s).env) = List.replicate c2 (0, E2.sz, len2) := by kernel_rfl) (r3 : rowsOf n3 (cut e (run m s).env) = List.replicate c3 (0, E3.sz, len3) := by kernel_rfl) (s1 : rowsB n1 (keepB mk (run m s).h.blks) = List.replicate d1 (0, E1.sz, len1) := by kernel_rfl) (s2 : rowsB n2 (keepB mk (run m s).h.blks) = List.replicate d2 (0, E2.sz, len2) := by kernel_rfl) (s3 : rowsB n3 (keepB mk (run m s).h.blks) = List.replicate d3 (0, E3.sz, len3) := by kernel_rfl)
  (hE : rfzsE [(n1, l1.map E1.f, E1.sz), (n2, l2.map E2.f, E2.sz), (n3, l3.map E3.f, E3.sz)] (cut e (run m s).env) = e := by kernel_rfl) (hbs : rfzsB [(n1, l1.map E1.f, E1.sz), (n2, l2.map E2.f, E2.sz), (n3, l3.map E3.f, E3.sz)] (keepB mk (run m s).h.blks) = bs := by kernel_rfl) : Ok P f R s := by
 simp only [Prod.mk.injEq] at hm
 exact KDs m mk k e bs [(n1, l1.map E1.f, E1.sz), (n2, l2.map E2.f, E2.sz), (n3, l3.map E3.f, E3.sz)] hl ⟨rsOne E1 hw.1 hb1 hm.1 r1 s1, rsOne E2 hw.2.1 hb2 hm.2.1 r2 s2, rsOne E3 hw.2.2.1 hb3 hm.2.2 r3 s3, trivial⟩ (hk hw.2.2.2) hc he h1 hE hbs
theorem KAn (m : Nat) {b sz : Nat} (hk : Ok P f R (putH (run m s) (.sl [] .full) (run m s).h)) (hc : okH (run m s) = true := by kernel_rfl) (hs : seS (run m s) (run m s).h = seE (run m s) := by kernel_rfl) (ho : op (run m s) = .append (oE (op (run m s))) sz b (oX (op (run m s))) (oY (op (run m s))) := by kernel_rfl) (hx : xv (run m s) = some (.sl [] .full) := by kernel_rfl) (hy : yv (run m s) = some (.sl [] .no) := by kernel_rfl) : Ok P f R s := ok_run m (ok_putH (by
 rw [ho]
 intro K hk
 have hx' : (oX (op (run m s))).ev (run m s).env = some (.sl [] .full) := hx
 have hy' : (oY (op (run m s))).ev (run m s).env = some (.sl [] .no) := hy
 simp only [aop, hx', hy', wv]
 refine .inl ?_
 simp only [appended, elsH]
 exact ⟨by simp, by simp, by simp, fun _ => hk, fun h => absurd rfl h⟩) hk hc hs)
end
section
open Go.RowKit Go.ChangeShapes Go.WideShapes Go.ChangeAt
theorem list_of' {α : Type} {P : Nat -> α -> Prop} : ∀ n : Nat, (∀ i, i < n -> ∃ x, P i x) -> ∃ xs : List α, xs.length = n /\ ∀ (i : Nat) x, xs[i]? = some x -> P i x
 | 0, _ => ⟨[], rfl, fun i x h => by simp at h⟩
 | n + 1, h => by
  obtain ⟨xs, hl, hx⟩ := list_of' n (fun i hi => h i (by omega))
  obtain ⟨y, hy⟩ := h n (by omega)
  refine ⟨xs ++ [y], by simp [hl], fun i x hi => ?_⟩
  by_cases hin : i < n
  ·rw [List.getElem?_append_left (by omega)] at hi; exact hx i x hi
  ·rw [List.getElem?_append_right (by omega)] at hi
   by_cases e : i = n
   ·subst e; rw [hl] at hi; simp at hi; subst hi; exact hy
   ·rw [List.getElem?_eq_none (by simp; omega)] at hi; cases hi
def Ty (P : Program) : Nat -> TypeId -> List AV -> Prop
 | 0, _, _ => False
 | n + 1, t, avs => match P.underlying t with
  | some (.int k) => ∃ m, avs = [.v (.int k m)] /\ (Lit.int k m).wf = true
  | some .bool => ∃ b, avs = [.v (.bool b)]
  | some .string => ∃ s, avs = [.v (.string s)] /\ s.size <= 140737488351232
  | some (.slice e) => ∃ els : List (List AV), avs = [.sl els .no] /\ els.length * P.bytesOf e <= 140737488351232 /\ ∀ el ∈ els, Ty P n e el
  | some (.struct fs) => ∃ parts : List (List AV), avs = parts.flatten /\ parts.length = fs.size /\ ∀ (i : Nat) (f : Field), fs[i]? = some f -> ∃ p, parts[i]? = some p /\ Ty P n f.type p
  | some (.array k e) => ∃ parts : List (List AV), avs = parts.flatten /\ parts.length = k /\ ∀ p ∈ parts, Ty P n e p
  | _ => False
def contig (P : Program) : Nat -> List Field -> Nat -> Bool
 | off, [], tot => off == tot
 | off, f :: fs, tot => f.offset == off && contig P (off + P.cellsOf f.type) fs tot
def okT (P : Program) (ts : List TypeId) (t : TypeId) : Bool :=
 match P.underlying t with
 | some (.int _) | some .bool | some .string => true
 | some (.slice e) => ts.contains e && decide (0 < P.cellsOf e) && decide (1 <= P.bytesOf e)
 | some (.struct fs) => fs.toList.all (fun f => ts.contains f.type) && contig P 0 fs.toList (P.cellsOf t)
 | some (.array k e) => ts.contains e && decide (k * P.cellsOf e = P.cellsOf t)
 | _ => false
def okTypes (P : Program) (ts : List TypeId) : Bool := ts.all (okT P ts)
def nowhere : Nat -> Nat -> Prop := fun _ _ => False
section
variable {H : Type} {enc : TypeId × Value -> H} {P : Program} {W : World} {base : Nat} {spare : Nat -> Bool} {held : Bool}
def Lightly (P : Program) (t : TypeId) (d : DataW H) : Prop := ∀ x ∈ DataW.weights P t d, x <= 140737488351232
theorem weightsEach_mem' : ∀ (ts : List TypeId) (ds : List (DataW H)) (i : Nat) (t : TypeId) (d : DataW H), ts[i]? = some t -> ds[i]? = some d -> ∀ x ∈ DataW.weights P t d, x ∈ DataW.weightsEach P ts ds
 | [], _, i, _, _, h, _, _, _ => by simp at h
 | _ :: _, [], i, _, _, _, h, _, _ => by simp at h
 | t' :: ts, d' :: ds, 0, t, d, h1, h2, x, hx => by
  simp at h1 h2; subst h1; subst h2
  simp only [DataW.weightsEach, List.mem_append]; exact .inl hx
 | t' :: ts, d' :: ds, i + 1, t, d, h1, h2, x, hx => by
  simp only [DataW.weightsEach, List.mem_append]
  exact .inr (weightsEach_mem' ts ds i t d (by simpa using h1) (by simpa using h2) x hx)
theorem weightsAll_mem' (e : TypeId) : ∀ (ds : List (DataW H)) (i : Nat) (d : DataW H), ds[i]? = some d -> ∀ x ∈ DataW.weights P e d, x ∈ DataW.weightsAll P e ds
 | [], i, _, h, _, _ => by simp at h
 | d' :: ds, 0, d, h2, x, hx => by
  simp at h2; subst h2
  simp only [DataW.weightsAll, List.mem_append]; exact .inl hx
 | d' :: ds, i + 1, d, h2, x, hx => by
  simp only [DataW.weightsAll, List.mem_append]
  exact .inr (weightsAll_mem' e ds i d (by simpa using h2) x hx)
theorem Lightly.part {t : TypeId} {fs : Array Field} {ps : List (DataW H)} (ht : P.underlying t = some (.struct fs)) (h : Lightly P t (.agg ps)) {i : Nat} {f : Field} {d : DataW H} (hf : fs[i]? = some f) (hd : ps[i]? = some d) : Lightly P f.type d := by
 intro x hx
 refine h x ?_
 simp only [DataW.weights, ht]
 exact weightsEach_mem' _ _ i f.type d (by simp [hf]) hd x hx
theorem Lightly.elem {t e : TypeId} {es sp : List (DataW H)} (ht : P.underlying t = some (.slice e)) (h : Lightly P t (.slice es sp)) {i : Nat} {d : DataW H} (hd : es[i]? = some d) : Lightly P e d := by
 intro x hx
 refine h x ?_
 simp only [DataW.weights, ht, List.mem_cons, List.mem_append]
 exact .inr (.inl (weightsAll_mem' e es i d hd x hx))
theorem Lightly.short {t e : TypeId} {es sp : List (DataW H)} (ht : P.underlying t = some (.slice e)) (h : Lightly P t (.slice es sp)) : es.length * P.bytesOf e <= 140737488351232 := by
 have := h ((es.length + sp.length) * P.bytesOf e) (by simp only [DataW.weights, ht, List.mem_cons, true_or])
 rw [Nat.add_mul] at this
 omega
theorem Lightly.at_ {t e : TypeId} {k : Nat} {ps : List (DataW H)} (ht : P.underlying t = some (.array k e)) (h : Lightly P t (.agg ps)) {i : Nat} {d : DataW H} (hd : ps[i]? = some d) : Lightly P e d := by
 intro x hx
 refine h x ?_
 simp only [DataW.weights, ht]
 exact weightsAll_mem' e ps i d hd x hx
theorem cells_concat (σ : Sg) : ∀ (fs : List Field) (off tot : Nat) (cs : List Value) (parts : List (List AV)), contig P off fs tot = true -> cs.length = tot -> parts.length = fs.length ->
  (∀ (i : Nat) (f : Field) (p : List AV), fs[i]? = some f -> parts[i]? = some p -> Cells σ p ((cs.drop f.offset).take (P.cellsOf f.type))) -> Cells σ parts.flatten (cs.drop off)
 | [], off, tot, cs, parts, hc, hl, hp, _ => by
  simp only [contig, beq_iff_eq] at hc
  have : parts = [] := List.eq_nil_of_length_eq_zero (by simpa using hp)
  subst this
  rw [List.drop_of_length_le (by omega)]
  exact Cells.nil σ
 | f :: fs, off, tot, cs, [], hc, hl, hp, _ => by simp at hp
 | f :: fs, off, tot, cs, p :: parts, hc, hl, hp, h => by
  simp only [contig, Bool.and_eq_true, beq_iff_eq] at hc
  obtain ⟨h1, h2⟩ := hc
  have h3 := h 0 f p rfl rfl
  have h4 := cells_concat σ fs (off + P.cellsOf f.type) tot cs parts h2 hl (by simpa using hp) (fun i g q hg hq => h (i + 1) g q (by simpa using hg) (by simpa using hq))
  have := h3.append h4
  rw [h1, ← List.drop_drop, List.take_append_drop] at this
  simpa using this
theorem cells_rows (σ : Sg) (k : Nat) : ∀ (parts : List (List AV)) (cs : List Value), cs.length = parts.length * k ->
  (∀ (i : Nat) (p : List AV), parts[i]? = some p -> Cells σ p ((cs.drop (i * k)).take k)) -> Cells σ parts.flatten cs
 | [], cs, hl, _ => by
  have : cs = [] := List.eq_nil_of_length_eq_zero (by simpa using hl)
  subst this
  exact Cells.nil σ
 | p :: parts, cs, hl, h => by
  have h3 := h 0 p rfl
  rw [List.length_cons, Nat.add_mul] at hl
  have h4 := cells_rows σ k parts (cs.drop k) (by simp; omega) (fun i q hq => by
   have := h (i + 1) q (by simpa using hq)
   rw [List.drop_drop, show k + i * k = (i + 1) * k by rw [Nat.add_mul]; omega]
   exact this)
  have := h3.append h4
  simp only [Nat.zero_mul, List.drop_zero, List.take_append_drop] at this
  simpa using this
theorem plainL_append {a b : List AV} : plainL (a ++ b) = (plainL a && plainL b) := by
 induction a with
 | nil => simp [plainL]
 | cons x a ih => simp [plainL, ih, Bool.and_assoc]
theorem plainL_flatten : ∀ {l : List (List AV)}, (∀ p ∈ l, plainL p = true) -> plainL l.flatten = true
 | [], _ => rfl
 | p :: l, h => by rw [List.flatten_cons, plainL_append, h p (by simp), plainL_flatten (fun q hq => h q (by simp [hq]))]; rfl
theorem plainLL_of : ∀ {l : List (List AV)}, (∀ p ∈ l, plainL p = true) -> plainLL l = true
 | [], _ => rfl
 | p :: l, h => by simp only [plainLL, Bool.and_eq_true]; exact ⟨h p (by simp), plainLL_of fun q hq => h q (by simp [hq])⟩
theorem open_cells {ts : List TypeId} (ok : okTypes P ts = true) : ∀ (n : Nat) (t : TypeId) (cs : List Value) (z : DataW H × List MemPlace), t ∈ ts -> DataW.trod enc P W base spare held n t cs = some z -> Lightly P t z.1 ->
  ∃ avs, Cells (bare W nowhere) avs cs /\ Ty P n t avs /\ plainL avs = true := by
 intro n
 induction n with
 | zero => intro t cs z ht h; simp [DataW.trod] at h
 | succ n ih =>
  intro t cs z ht h hw
  have hok := List.all_eq_true.1 ok t ht
  unfold okT at hok
  split at hok
  ·rename_i k hu
   obtain ⟨m, rfl, _, hwf⟩ := DataW.trod_int hu h
   exact ⟨[.v (.int k m)], Cells.one (.v _ rfl) rfl, by unfold Ty; rw [hu]; exact ⟨m, rfl, hwf⟩, rfl⟩
  ·rename_i hu
   obtain ⟨b, rfl, _⟩ := DataW.trod_bool hu h
   exact ⟨[.v (.bool b)], Cells.one (.v _ rfl) rfl, by unfold Ty; rw [hu]; exact ⟨b, rfl⟩, rfl⟩
  ·rename_i hu
   obtain ⟨s, rfl, rfl, _⟩ := DataW.trod_string hu h
   have : s.size <= 140737488351232 := hw s.size (by simp [DataW.weights])
   exact ⟨[.v (.string s)], Cells.one (.v _ rfl) rfl, by unfold Ty; rw [hu]; exact ⟨s, rfl, this⟩, rfl⟩
  ·rename_i e hu
   simp only [Bool.and_eq_true, decide_eq_true_eq, List.contains_iff_mem] at hok
   obtain ⟨⟨he, hk0⟩, hb1⟩ := hok
   rcases DataW.trod_slice hu h with ⟨hc, _⟩ | ⟨a, len, cap, elems, rest, m, hm, hc, hy, hb, hl, hmx, hlen, helem, _⟩
   ·subst hc
    exact ⟨[.sl [] .no], Cells.one (.sl0 _ trivial) rfl, by unfold Ty; rw [hu]; exact ⟨[], rfl, by simp, fun el h => by cases h⟩, rfl⟩
   ·subst hc hy
    obtain rfl : m = n := by omega
    have hsh := Lightly.short hu hw
    rw [List.length_map, hlen] at hsh
    have key : ∀ i, i < len -> ∃ avs : List AV, ∃ vs : List Value, vs.length = P.cellsOf e /\ (∀ j, j < P.cellsOf e -> W.cell? ((a.add (i * P.cellsOf e)).add j) = vs[j]?) /\ Cells (bare W nowhere) avs vs /\ Ty P m e avs /\ plainL avs = true := by
     intro i hi
     have h1 := helem i hi
     rw [List.getElem?_eq_getElem (by omega), Option.bind_eq_some_iff] at h1
     obtain ⟨vs, hc1, hc2⟩ := h1
     obtain ⟨_, hl1, hc3⟩ := World.cells?_some hc1
     obtain ⟨avs, h2, h3, h4⟩ := ih e vs _ he hc2 (Lightly.elem hu hw (i := i) (by rw [List.getElem?_map, List.getElem?_eq_getElem (by omega)]; rfl))
     exact ⟨avs, vs, hl1, hc3, h2, h3, h4⟩
    obtain ⟨els, hel, hels⟩ := list_of' len key
    have hty : ∀ el ∈ els, Ty P m e el /\ plainL el = true := by
     intro el hmem
     obtain ⟨i, hi⟩ := List.mem_iff_getElem?.1 hmem
     obtain ⟨vs, _, _, _, q1, q2⟩ := hels i el hi
     exact ⟨q1, q2⟩
    refine ⟨[.sl els .no], Cells.one ?_ rfl, by unfold Ty; rw [hu]; exact ⟨els, rfl, by rw [hel]; exact hsh, fun el h => (hty el h).1⟩, by simp only [plainL, plain, Bool.true_and, Bool.and_true]; exact plainLL_of fun p hp => (hty p hp).2⟩
    by_cases h0 : len = 0
    ·subst h0
     have : els = [] := List.eq_nil_of_length_eq_zero hel
     subst this
     exact .slx _ a cap trivial (.inl rfl)
    ·obtain ⟨b, o, sp⟩ := a
     obtain ⟨avs0, vs0, hl0, hc0, _⟩ := key 0 (by omega)
     have hz := hc0 0 hk0
     rw [List.getElem?_eq_getElem (by omega)] at hz
     have hspot : sp = none := by
      have := World.cell?_spot hz
      simpa [Addr.add] using this
     subst hspot
     have := Rel.sl (σ := bare W nowhere) els .no b o cap (P.cellsOf e) (fun i j => ((W.cell? ⟨b, o + i * P.cellsOf e + j, none⟩).getD undef)) (fun i el hi => by
       obtain ⟨vs, q1, _, q3, _⟩ := hels i el hi
       rw [← q3.1, q1]) (by omega) trivial (fun id e h => by cases h) (fun i el hi j av hj => by
       obtain ⟨vs, q1, q2, q3, _⟩ := hels i el hi
       obtain ⟨c1, x, hx, hr⟩ := q3.2 j av hj
       have hjl : j < P.cellsOf e := by rw [← q1]; exact (List.getElem?_eq_some_iff.1 hx).1
       have := q2 j hjl
       rw [addr_add, addr_add, hx] at this
       exact ⟨by show W.cell? _ = _; rw [this]; rfl, fun h => (bare_open _ _ _ _).1 h, c1⟩) (fun i el hi j av hj => by
       obtain ⟨vs, q1, q2, q3, _⟩ := hels i el hi
       obtain ⟨c1, x, hx, hr⟩ := q3.2 j av hj
       have hjl : j < P.cellsOf e := by rw [← q1]; exact (List.getElem?_eq_some_iff.1 hx).1
       have := q2 j hjl
       rw [addr_add, addr_add, hx] at this
       rw [this]; exact hr)
     rw [hel] at this
     exact this
  ·rename_i fs hu
   simp only [Bool.and_eq_true, List.all_eq_true, List.contains_iff_mem] at hok
   obtain ⟨hfs, hcg⟩ := hok
   obtain ⟨xs, m, hm, rfl, hcl, hxl, hf⟩ := DataW.trod_struct hu h
   obtain rfl : m = n := by omega
   have key : ∀ i, i < fs.size -> ∃ avs : List AV, ∀ f, fs[i]? = some f -> Cells (bare W nowhere) avs ((cs.drop f.offset).take (P.cellsOf f.type)) /\ Ty P m f.type avs /\ plainL avs = true := by
    intro i hi
    have hfi : fs[i]? = some fs[i] := Array.getElem?_eq_getElem hi
    have e : xs[i]? = some xs[i] := List.getElem?_eq_getElem (by omega)
    obtain ⟨avs, h2, h3, h4⟩ := ih fs[i].type _ _ (hfs _ (by simp)) ((hf i _ hfi).trans e) (Lightly.part hu hw hfi (by rw [List.getElem?_map, e]; rfl))
    refine ⟨avs, fun f hf' => ?_⟩
    rw [hfi] at hf'; cases hf'
    exact ⟨h2, h3, h4⟩
   obtain ⟨parts, hpl, hparts⟩ := list_of' fs.size key
   have hcells := cells_concat (P := P) (bare W nowhere) fs.toList 0 (P.cellsOf t) cs parts hcg hcl (by simpa using hpl) (fun i f p hfi hpi => (hparts i p hpi f (by simpa using hfi)).1)
   refine ⟨parts.flatten, by simpa using hcells, ?_, plainL_flatten fun p hp => ?_⟩
   ·unfold Ty; rw [hu]
    refine ⟨parts, rfl, hpl, fun i f hfi => ?_⟩
    have hi : i < parts.length := by rw [hpl]; exact (Array.getElem?_eq_some_iff.1 hfi).1
    exact ⟨parts[i], List.getElem?_eq_getElem hi, (hparts i _ (List.getElem?_eq_getElem hi) f hfi).2.1⟩
   ·obtain ⟨i, hi⟩ := List.mem_iff_getElem?.1 hp
    have hlt : i < fs.size := by rw [← hpl]; exact (List.getElem?_eq_some_iff.1 hi).1
    exact (hparts i p hi fs[i] (Array.getElem?_eq_getElem hlt)).2.2
  ·rename_i k e hu
   simp only [Bool.and_eq_true, decide_eq_true_eq, List.contains_iff_mem] at hok
   obtain ⟨he, hke⟩ := hok
   obtain ⟨xs, m, hm, rfl, hcl, hxl, hf⟩ := DataW.trod_array hu h
   obtain rfl : m = n := by omega
   have key : ∀ i, i < k -> ∃ avs : List AV, Cells (bare W nowhere) avs ((cs.drop (i * P.cellsOf e)).take (P.cellsOf e)) /\ Ty P m e avs /\ plainL avs = true := by
    intro i hi
    have e1 : xs[i]? = some xs[i] := List.getElem?_eq_getElem (by omega)
    exact ih e _ _ he ((hf i hi).trans e1) (Lightly.at_ hu hw (by rw [List.getElem?_map, e1]; rfl))
   obtain ⟨parts, hpl, hparts⟩ := list_of' k key
   have hall : ∀ p ∈ parts, Ty P m e p /\ plainL p = true := by
    intro p hp
    obtain ⟨i, hi⟩ := List.mem_iff_getElem?.1 hp
    exact (hparts i p hi).2
   refine ⟨parts.flatten, cells_rows _ (P.cellsOf e) parts cs (by rw [hcl, hpl, hke]) (fun i p hi => (hparts i p hi).1), ?_, plainL_flatten fun p hp => (hall p hp).2⟩
   unfold Ty; rw [hu]
   exact ⟨parts, rfl, hpl, fun p hp => (hall p hp).1⟩
  ·cases hok
end
end
def eL {α : Type} (e : α -> List AV) (x : List α) : List AV := [.sl (List.map e x) .no]
def eI_i8 (x : Int) : List AV := [.v (.int .i8 x)]
theorem plm_I_i8 (l : List Int) : plainLL (l.map eI_i8) = true := plainLL_map _ _ fun x _ => rfl
def eI_i16 (x : Int) : List AV := [.v (.int .i16 x)]
theorem plm_I_i16 (l : List Int) : plainLL (l.map eI_i16) = true := plainLL_map _ _ fun x _ => rfl
def eI_i32 (x : Int) : List AV := [.v (.int .i32 x)]
theorem plm_I_i32 (l : List Int) : plainLL (l.map eI_i32) = true := plainLL_map _ _ fun x _ => rfl
def eI_i64 (x : Int) : List AV := [.v (.int .i64 x)]
theorem plm_I_i64 (l : List Int) : plainLL (l.map eI_i64) = true := plainLL_map _ _ fun x _ => rfl
def eI_u8 (x : Int) : List AV := [.v (.int .u8 x)]
theorem plm_I_u8 (l : List Int) : plainLL (l.map eI_u8) = true := plainLL_map _ _ fun x _ => rfl
def eI_u16 (x : Int) : List AV := [.v (.int .u16 x)]
theorem plm_I_u16 (l : List Int) : plainLL (l.map eI_u16) = true := plainLL_map _ _ fun x _ => rfl
def eI_u32 (x : Int) : List AV := [.v (.int .u32 x)]
theorem plm_I_u32 (l : List Int) : plainLL (l.map eI_u32) = true := plainLL_map _ _ fun x _ => rfl
def eI_u64 (x : Int) : List AV := [.v (.int .u64 x)]
theorem plm_I_u64 (l : List Int) : plainLL (l.map eI_u64) = true := plainLL_map _ _ fun x _ => rfl
def eBool (x : Bool) : List AV := [.v (.bool x)]
theorem plm_Bool (l : List Bool) : plainLL (l.map eBool) = true := plainLL_map _ _ fun x _ => rfl
def eStr (x : ByteArray) : List AV := [.v (.string x)]
theorem plm_Str (l : List ByteArray) : plainLL (l.map eStr) = true := plainLL_map _ _ fun x _ => rfl
structure GRaw where
 Num : Int
 Wire : Int
 Bits : Int
 Data : ByteArray
def eGRaw (x : GRaw) : List AV := [.v (.int .i64 x.Num), .v (.int .i64 x.Wire), .v (.int .u64 x.Bits), .v (.string x.Data)]
theorem pl_GRaw (x : GRaw) : plainL (eGRaw x) = true := by simp [eGRaw, plainL, plain, plm_I_i8, plm_I_i16, plm_I_i32, plm_I_i64, plm_I_u8, plm_I_u16, plm_I_u32, plm_I_u64, plm_Bool, plm_Str, gfn_fi, gfn_cap, plm_Fn]
theorem plm_GRaw (l : List GRaw) : plainLL (l.map eGRaw) = true := plainLL_map _ _ fun x _ => pl_GRaw x
structure GValue where
 Kind : Int
 Bits : Int
 Text : ByteArray
 List_ : (List GValue)
 Pairs : (List (GValue × GValue))
 Slots : (List (Int × GValue))
 Raws : (List GRaw)
mutual
def eGValue' : GValue -> List AV
 | ⟨f0, f1, f2, f3, f4, f5, f6⟩ => [.v (.int .i64 f0), .v (.int .u64 f1), .v (.string f2), .sl (eGValue'L f3) .no, .sl (eGPair'L f4) .no, .sl (eGSlot'L f5) .no, .sl (List.map eGRaw f6) .no]
def eGValue'L : List GValue -> List (List AV)
 | [] => []
 | x :: l => (eGValue' x) :: eGValue'L l
def eGPair'L : List (GValue × GValue) -> List (List AV)
 | [] => []
 | (z0, z1) :: l => (eGValue' z0 ++ eGValue' z1) :: eGPair'L l
def eGSlot'L : List (Int × GValue) -> List (List AV)
 | [] => []
 | (z0, z1) :: l => ([.v (.int .i64 z0)] ++ eGValue' z1) :: eGSlot'L l
end
def eGPair' (x : (GValue × GValue)) : List AV := eGValue' x.1 ++ eGValue' x.2
def eGSlot' (x : (Int × GValue)) : List AV := [.v (.int .i64 x.1)] ++ eGValue' x.2
theorem eGValue'L_map : ∀ l, eGValue'L l = List.map eGValue' l
 | [] => rfl
 | x :: l => by simp only [eGValue'L, List.map_cons, eGValue'L_map l]
theorem eGPair'L_map : ∀ l, eGPair'L l = List.map eGPair' l
 | [] => rfl
 | x :: l => by simp only [eGPair'L, List.map_cons, eGPair'L_map l, eGPair']
theorem eGSlot'L_map : ∀ l, eGSlot'L l = List.map eGSlot' l
 | [] => rfl
 | x :: l => by simp only [eGSlot'L, List.map_cons, eGSlot'L_map l, eGSlot']
def eGValue (x : GValue) : List AV := [.v (.int .i64 x.Kind), .v (.int .u64 x.Bits), .v (.string x.Text), .sl (List.map eGValue' x.List_) .no, .sl (List.map eGPair' x.Pairs) .no, .sl (List.map eGSlot' x.Slots) .no, .sl (List.map eGRaw x.Raws) .no]
def eGPair (x : (GValue × GValue)) : List AV := [.v (.int .i64 x.1.Kind), .v (.int .u64 x.1.Bits), .v (.string x.1.Text), .sl (List.map eGValue' x.1.List_) .no, .sl (List.map eGPair' x.1.Pairs) .no, .sl (List.map eGSlot' x.1.Slots) .no, .sl (List.map eGRaw x.1.Raws) .no, .v (.int .i64 x.2.Kind), .v (.int .u64 x.2.Bits), .v (.string x.2.Text), .sl (List.map eGValue' x.2.List_) .no, .sl (List.map eGPair' x.2.Pairs) .no, .sl (List.map eGSlot' x.2.Slots) .no, .sl (List.map eGRaw x.2.Raws) .no]
def eGSlot (x : (Int × GValue)) : List AV := [.v (.int .i64 x.1), .v (.int .i64 x.2.Kind), .v (.int .u64 x.2.Bits), .v (.string x.2.Text), .sl (List.map eGValue' x.2.List_) .no, .sl (List.map eGPair' x.2.Pairs) .no, .sl (List.map eGSlot' x.2.Slots) .no, .sl (List.map eGRaw x.2.Raws) .no]
theorem eGValue'_eq (x : GValue) : eGValue' x = eGValue x := by cases x; simp only [eGValue', eGValue, eGValue'L_map, eGPair'L_map, eGSlot'L_map]
theorem eGPair'_eq (x : (GValue × GValue)) : eGPair' x = eGPair x := by simp only [eGPair', eGPair, eGValue'_eq, eGValue, List.cons_append, List.nil_append]
theorem eGSlot'_eq (x : (Int × GValue)) : eGSlot' x = eGSlot x := by simp only [eGSlot', eGSlot, eGValue'_eq, eGValue, List.cons_append, List.nil_append]
mutual
theorem pl_GValue' : ∀ x, plainL (eGValue' x) = true
 | ⟨f0, f1, f2, f3, f4, f5, f6⟩ => by simp [eGValue', plainL, plain, pl_eGValue'L f3, pl_eGPair'L f4, pl_eGSlot'L f5, plm_I_i8, plm_I_i16, plm_I_i32, plm_I_i64, plm_I_u8, plm_I_u16, plm_I_u32, plm_I_u64, plm_Bool, plm_Str, gfn_fi, gfn_cap, plm_Fn, pl_GRaw, plm_GRaw]
theorem pl_eGValue'L : ∀ l, plainLL (eGValue'L l) = true
 | [] => rfl
 | x :: l => by simp [eGValue'L, plainLL, plainL, plain, plainL_append, pl_GValue' x, pl_eGValue'L l]
theorem pl_eGPair'L : ∀ l, plainLL (eGPair'L l) = true
 | [] => rfl
 | (z0, z1) :: l => by simp [eGPair'L, plainLL, plainL, plain, plainL_append, pl_GValue' z0, pl_GValue' z1, pl_eGPair'L l]
theorem pl_eGSlot'L : ∀ l, plainLL (eGSlot'L l) = true
 | [] => rfl
 | (z0, z1) :: l => by simp [eGSlot'L, plainLL, plainL, plain, plainL_append, pl_GValue' z1, pl_eGSlot'L l]
end
theorem plm_GValue (l : List GValue) : plainLL (l.map eGValue') = true := by rw [← eGValue'L_map]; exact pl_eGValue'L l
theorem pl_GValue (x : GValue) : plainL (eGValue x) = true := by have := plm_GValue [x]; simpa [plainLL, eGValue'_eq] using this
theorem plm_GPair (l : List (GValue × GValue)) : plainLL (l.map eGPair') = true := by rw [← eGPair'L_map]; exact pl_eGPair'L l
theorem pl_GPair (x : (GValue × GValue)) : plainL (eGPair x) = true := by have := plm_GPair [x]; simpa [plainLL, eGPair'_eq] using this
theorem plm_GSlot (l : List (Int × GValue)) : plainLL (l.map eGSlot') = true := by rw [← eGSlot'L_map]; exact pl_eGSlot'L l
theorem pl_GSlot (x : (Int × GValue)) : plainL (eGSlot x) = true := by have := plm_GSlot [x]; simpa [plainLL, eGSlot'_eq] using this
theorem lwm_GValue (m : List Bool) (n : Nat) (l : List GValue) : lowLL m n (l.map eGValue') = true := lowLL_plain _ _ _ (plm_GValue l)
theorem lwm_GPair (m : List Bool) (n : Nat) (l : List (GValue × GValue)) : lowLL m n (l.map eGPair') = true := lowLL_plain _ _ _ (plm_GPair l)
theorem lwm_GSlot (m : List Bool) (n : Nat) (l : List (Int × GValue)) : lowLL m n (l.map eGSlot') = true := lowLL_plain _ _ _ (plm_GSlot l)
theorem lwr_GValue (m : List Bool) (n : Nat) (l : List GValue) : lowL m n (cellsOf eGValue' l) = true := lowL_plain _ _ _ (plainL_cellsOf _ (plm_GValue l))
theorem lwr_GPair (m : List Bool) (n : Nat) (l : List (GValue × GValue)) : lowL m n (cellsOf eGPair' l) = true := lowL_plain _ _ _ (plainL_cellsOf _ (plm_GPair l))
theorem lwr_GSlot (m : List Bool) (n : Nat) (l : List (Int × GValue)) : lowL m n (cellsOf eGSlot' l) = true := lowL_plain _ _ _ (plainL_cellsOf _ (plm_GSlot l))
theorem rowE_GPair : RowE eGPair' 14 := ⟨fun y => by rw [eGPair'_eq]; rfl, fun y => by rw [eGPair'_eq]; rfl, fun y => by rw [eGPair'_eq]; exact pl_GPair y, fun y => by rw [eGPair'_eq]; rfl⟩
def nGPair : En (GValue × GValue) := ⟨eGPair, eGPair', 14, fun y => eGPair'_eq y, fun _ => rfl, rowE_GPair⟩
theorem rowE_GRaw : RowE eGRaw 4 := ⟨fun y => rfl, fun y => rfl, fun y => pl_GRaw y, fun y => rfl⟩
def nGRaw : En GRaw := ⟨eGRaw, eGRaw, 4, fun _ => rfl, fun _ => rfl, rowE_GRaw⟩
theorem rowE_GSlot : RowE eGSlot' 8 := ⟨fun y => by rw [eGSlot'_eq]; rfl, fun y => by rw [eGSlot'_eq]; rfl, fun y => by rw [eGSlot'_eq]; exact pl_GSlot y, fun y => by rw [eGSlot'_eq]; rfl⟩
def nGSlot : En (Int × GValue) := ⟨eGSlot, eGSlot', 8, fun y => eGSlot'_eq y, fun _ => rfl, rowE_GSlot⟩
theorem rowE_GValue : RowE eGValue' 7 := ⟨fun y => by rw [eGValue'_eq]; rfl, fun y => by rw [eGValue'_eq]; rfl, fun y => by rw [eGValue'_eq]; exact pl_GValue y, fun y => by rw [eGValue'_eq]; rfl⟩
def nGValue : En GValue := ⟨eGValue, eGValue', 7, fun y => eGValue'_eq y, fun _ => rfl, rowE_GValue⟩
def e3 (r : Bool) : AV := .v (.bool r)
def law34_TranscodeLoses (v : GValue) (r : Bool) : Prop := PureN Tryz.prog [] 3 [.agg (eGValue v)] (e3 r)
def e4 (r : Bool) : AV := .v (.bool r)
def ref18_Few (v : GValue) (left : Int) (r : Bool) : Prop := PureN Tryz.prog [] 4 [.agg (eGValue v), .v (.int .i64 left)] (e4 r)
def e5 (r : Bool) : AV := .v (.bool r)
def law34_awake  (r : Bool) : Prop := PureN Tryz.prog [] 5 [] (e5 r)
def e6 (r : GValue) : AV := .agg (eGValue r)
def transcode_Lose (v : GValue) (r : GValue) : Prop := PureN Tryz.prog [] 6 [.agg (eGValue v)] (e6 r)
def e7 (r : Bool) : AV := .v (.bool r)
def ref17_Same (a : GValue) (b : GValue) (r : Bool) : Prop := PureN Tryz.prog [] 7 [.agg (eGValue a), .agg (eGValue b)] (e7 r)
def e8 (r : GValue) : AV := .agg (eGValue r)
def ref34_Lose (v : GValue) (r : GValue) : Prop := PureN Tryz.prog [] 8 [.agg (eGValue v)] (e8 r)
def e9 (r : Int) : AV := .v (.int .i64 r)
def ref18_count (v : GValue) (level : Int) (left : Int) (r : Int) : Prop := PureN Tryz.prog [] 9 [.agg (eGValue v), .v (.int .i64 level), .v (.int .i64 left)] (e9 r)
def e15 (r : (List GValue)) : AV := .sl (List.map eGValue' r) .no
def slices_Clone_LValue_Value (s : (List GValue)) (r : (List GValue)) : Prop := PureN Tryz.prog [] 15 [.sl (List.map eGValue' s) .no] (e15 r)
def slices_Clone_LValue_Value_new (s : (List GValue)) : Prop := NewC Tryz.prog eGValue' 7 15 s
def e16 (r : (List (GValue × GValue))) : AV := .sl (List.map eGPair' r) .no
def slices_Clone_LPair_Pair (s : (List (GValue × GValue))) (r : (List (GValue × GValue))) : Prop := PureN Tryz.prog [] 16 [.sl (List.map eGPair' s) .no] (e16 r)
def slices_Clone_LPair_Pair_new (s : (List (GValue × GValue))) : Prop := NewC Tryz.prog eGPair' 14 16 s
def e17 (r : (List (Int × GValue))) : AV := .sl (List.map eGSlot' r) .no
def slices_Clone_LSlot_Slot (s : (List (Int × GValue))) (r : (List (Int × GValue))) : Prop := PureN Tryz.prog [] 17 [.sl (List.map eGSlot' s) .no] (e17 r)
def slices_Clone_LSlot_Slot_new (s : (List (Int × GValue))) : Prop := NewC Tryz.prog eGSlot' 8 17 s
theorem pl4 {x0 : GValue} {x1 : Int} : plainL [.agg (eGValue x0), .v (.int .i64 x1)] = true := (pcons (pl_GValue x0) (pcons rfl rfl))
theorem pl5  : plainL [] = true := rfl
theorem pl6 {x0 : GValue} : plainL [.agg (eGValue x0)] = true := (pcons (pl_GValue x0) rfl)
theorem pl7 {x0 : GValue} {x1 : GValue} : plainL [.agg (eGValue x0), .agg (eGValue x1)] = true := (pcons (pl_GValue x0) (pcons (pl_GValue x1) rfl))
theorem pl8 {x0 : GValue} : plainL [.agg (eGValue x0)] = true := (pcons (pl_GValue x0) rfl)
theorem pl9 {x0 : GValue} {x1 : Int} {x2 : Int} : plainL [.agg (eGValue x0), .v (.int .i64 x1), .v (.int .i64 x2)] = true := (pcons (pl_GValue x0) (pcons rfl (pcons rfl rfl)))
theorem pl15 {x0 : (List GValue)} : plainL [.sl (List.map eGValue' x0) .no] = true := (pcons (psl (plm_GValue x0)) rfl)
theorem pl16 {x0 : (List (GValue × GValue))} : plainL [.sl (List.map eGPair' x0) .no] = true := (pcons (psl (plm_GPair x0)) rfl)
theorem pl17 {x0 : (List (Int × GValue))} : plainL [.sl (List.map eGSlot' x0) .no] = true := (pcons (psl (plm_GSlot x0)) rfl)
def chH (h0 h1 h2 h3 : AHeap) (a b c : Nat) (L : Nat -> Bool) : Option AHeap := some (if L c = true then h3 else if L b = true then h2 else if L a = true then h1 else h0)
theorem chain_web {P : Program} {ord : List (List Nat)} {al : List AOper} {env F : Env} {h0 h1 h2 h3 : AHeap} {a b c : Nat} (hab : a < b) (hbc : b < c) (hc : c < al.length)
  (oab : (ord.getD b []).contains a = true) (obc : (ord.getD c []).contains b = true) (oac : (ord.getD c []).contains a = true)
  (hk : ∀ t, writes t al = false -> get F t = get env t)
  (hq : ∀ i o, al[i]? = some o -> i ≠ a -> i ≠ b -> i ≠ c -> ∀ h, (h = h0 ∨ h = h1 ∨ h = h2 ∨ h = h3) -> FactH P F F h (some h) o)
  (ha : ∀ o, al[a]? = some o -> FactH P F F h0 (some h1) o) (hb : ∀ o, al[b]? = some o -> FactH P F F h1 (some h2) o) (hcc : ∀ o, al[c]? = some o -> FactH P F F h2 (some h3) o) :
  Web P ord al env F (fun _ => F) h0 h3 0 (chH h0 h1 h2 h3 a b c) where
 cong := fun L L' hl => by unfold chH; rw [hl a (by omega), hl b (by omega), hl c hc]
 first := by simp [chH]
 last := fun hL h => by simp [chH] at h; exact h.symm
 keep := hk
 step := fun L i o hL hi hun hcl hah hH => by
  have e1 : ∀ k, wbUp L i k = if k = i then true else L k := fun _ => rfl
  have oab' := List.contains_iff_mem.1 oab
  have obc' := List.contains_iff_mem.1 obc
  have oac' := List.contains_iff_mem.1 oac
  by_cases hia : i = a
  ·subst hia
   have lb : L b = false := by
    cases hx : L b with
    | false => rfl
    | true => have := hcl b i (by omega) hx oab'; rw [hun] at this; cases this
   have lc : L c = false := by
    cases hx : L c with
    | false => rfl
    | true => have := hcl c i hc hx oac'; rw [hun] at this; cases this
   simp only [chH, lb, lc, hun, Bool.false_eq_true, if_false, Option.some.injEq] at hH
   subst hH
   have : chH h0 h1 h2 h3 i b c (wbUp L i) = some h1 := by
    simp [chH, e1, lb, lc, show b ≠ i by omega, show c ≠ i by omega]
   rw [this]; exact ha o hi
  ·by_cases hib : i = b
   ·subst hib
    have la := hah a oab'
    have lc : L c = false := by
     cases hx : L c with
     | false => rfl
     | true => have := hcl c i hc hx obc'; rw [hun] at this; cases this
    simp only [chH, lc, hun, la, Bool.false_eq_true, if_false, if_true, Option.some.injEq] at hH
    subst hH
    have : chH h0 h1 h2 h3 a i c (wbUp L i) = some h2 := by simp [chH, e1, lc, show c ≠ i by omega]
    rw [this]; exact hb o hi
   ·by_cases hic : i = c
    ·subst hic
     have la := hah a oac'
     have lb := hah b obc'
     simp only [chH, hun, lb, Bool.false_eq_true, if_false, if_true, Option.some.injEq] at hH
     subst hH
     have : chH h0 h1 h2 h3 a b i (wbUp L i) = some h3 := by simp [chH, e1]
     rw [this]; exact hcc o hi
    ·have : chH h0 h1 h2 h3 a b c (wbUp L i) = chH h0 h1 h2 h3 a b c L := by
      simp only [chH, e1, if_neg (Ne.symm hia), if_neg (Ne.symm hib), if_neg (Ne.symm hic)]
     rw [this, hH]
     refine hq i o hi hia hib hic hL ?_
     simp only [chH, Option.some.injEq] at hH
     subst hH
     split
     ·exact .inr (.inr (.inr rfl))
     ·split
      ·exact .inr (.inr (.inl rfl))
      ·split
       ·exact .inr (.inl rfl)
       ·exact .inl rfl
theorem get_drop_eq {t u : Nat} (hne : u ≠ t) : ∀ {e : Env}, get (drop u e) t = get e t
 | [] => rfl
 | (k, a) :: e => by
  simp only [drop]
  split
  ·rename_i hk; subst hk; rw [get_drop_eq hne]; simp only [get]; rw [if_neg hne]
  ·simp only [get]; rw [get_drop_eq hne]
section
variable {P : Program} {f : Nat} {R : Rm} {s : Mc}
def drw (s : Mc) (F : Env) (h' : AHeap) : Mc := match s.pc with
 | .c (.drawn _ _ t) => ⟨.v t, s.k, F, h'⟩
 | _ => s
def drHead (s : Mc) : List AOper := match s.pc with
 | .c (.drawn _ a _) => a
 | _ => []
def drOp (s : Mc) (i : Nat) : AOp := ((drHead s)[i]?.map (·.op)).getD .bad
def drOK (s : Mc) (a b c : Nat) : Bool := match s.pc with
 | .c (.drawn o al _) => Nat.blt a b && Nat.blt b c && Nat.blt c al.length && ((clo o).getD b []).contains a && ((clo o).getD c []).contains b && ((clo o).getD c []).contains a && al.all fun x => x.guard.isNone
 | _ => false
def drQ (s : Mc) (a b c : Nat) : List AOper := (((drHead s).zipIdx).filter fun p => !(p.2 == a || p.2 == b || p.2 == c)).map (·.1)
def drDst (s : Mc) (i : Nat) : Option Nat := ((drHead s)[i]?.bind (·.dst))
theorem KDw (m : Nat) (F : Env) (a b c : Nat) (h1 h2 h3 : AHeap) {x y z : AV} (da : Does P (drOp (run m s) a) F (run m s).h x h1) (db : Does P (drOp (run m s) b) F h1 y h2) (dc : Does P (drOp (run m s) c) F h2 z h3) (hk : Ok P f R (drw (run m s) F h3))
  (ho : drOK (run m s) a b c = true := by kernel_rfl)
  (hd : (drHead (run m s)).all (fun o => (o.dst.bind (get F)).isSome) = true := by kernel_rfl)
  (hxyz : [(drDst (run m s) a).bind (get F), (drDst (run m s) b).bind (get F), (drDst (run m s) c).bind (get F)] = [some x, some y, some z] := by kernel_rfl)
  (hq : ((drQ (run m s) a b c).map fun o => [(run m s).h, h1, h2, h3].map fun h => aopF false noC o.op F h) = ((drQ (run m s) a b c).map fun o => [(run m s).h, h1, h2, h3].map fun h => (o.dst.bind (get F)).map fun v => (v, h)) := by kernel_rfl)
  (hF : (drHead (run m s)).foldr (fun o e => match o.dst with | some d => drop d e | none => e) F = (drHead (run m s)).foldr (fun o e => match o.dst with | some d => drop d e | none => e) (run m s).env := by kernel_rfl) : Ok P f R s := by
 refine ok_run m ?_
 generalize run m s = s0 at *
 obtain ⟨pc, k, env, h⟩ := s0
 simp only [drOK] at ho
 split at ho
 ·rename_i o al t
  simp only [drHead, drw, drOp, drQ, drDst] at *
  simp only [Bool.and_eq_true, List.all_eq_true, Option.isNone_iff_eq_none] at ho
  obtain ⟨⟨⟨⟨⟨⟨g1, g2⟩, g3⟩, g4⟩, g5⟩, g6⟩, g7⟩ := ho
  have g1 : a < b := by simpa [Nat.blt_eq] using g1
  have g2 : b < c := by simpa [Nat.blt_eq] using g2
  have g3 : c < al.length := by simpa [Nat.blt_eq] using g3
  simp only [List.cons.injEq, and_true] at hxyz
  obtain ⟨ex, ey, ez⟩ := hxyz
  have one : ∀ (i : Nat) (o : AOper) (v : AV) (ha hb : AHeap), al[i]? = some o -> Does P ((al[i]?.map (·.op)).getD .bad) F ha v hb -> (al[i]?.bind (·.dst)).bind (get F) = some v -> FactH P F F ha (some hb) o := by
   intro i o v ha hb hi hdo hv
   rw [hi] at hdo hv
   unfold FactH
   rw [g7 o (List.mem_of_getElem? hi)]
   refine ⟨v, hb, rfl, .inr (hdo _ ⟨rfl, rfl⟩), fun d hd => ?_⟩
   simp only [Option.bind_some, hd] at hv
   exact hv
  have hw : Web P (clo o) al env F (fun _ => F) h h3 0 (chH h h1 h2 h3 a b c) := by
   refine chain_web g1 g2 g3 g4 g5 g6 (fun t ht => ?_) (fun i o' hi na nb nc hh hor => ?_) (fun o' hi => one a o' x _ _ hi da ex) (fun o' hi => one b o' y _ _ hi db ey) fun o' hi => one c o' z _ _ hi dc ez
   ·have key : ∀ (l : List AOper) (e : Env), writes t l = false -> get (l.foldr (fun o e => match o.dst with | some d => drop d e | none => e) e) t = get e t := by
     intro l
     induction l with
     | nil => intro e _; rfl
     | cons q l ih =>
      intro e hq'
      simp only [writes, List.any_cons, Bool.or_eq_false_iff] at hq'
      simp only [List.foldr_cons]
      have h2 := ih e (by simpa [writes] using hq'.2)
      cases hqd : q.dst with
      | none => simpa using h2
      | some d =>
       simp only
       rw [get_drop_eq, h2]
       rintro rfl
       have := hq'.1
       simp [hqd] at this
    rw [← key al F ht, hF, key al env ht]
   ·have hm : o' ∈ ((al.zipIdx).filter fun p => !(p.2 == a || p.2 == b || p.2 == c)).map (·.1) := by
     refine List.mem_map.2 ⟨(o', i), List.mem_filter.2 ⟨?_, by simp [na, nb, nc]⟩, rfl⟩
     rw [List.mem_zipIdx_iff_getElem?]; simpa using hi
    have he := List.map_inj_left.1 hq o' hm
    simp only [List.map_cons, List.map_nil, List.cons.injEq, and_true] at he
    have hdm := List.all_eq_true.1 hd o' (List.mem_of_getElem? hi)
    obtain ⟨v, hv⟩ := Option.isSome_iff_exists.1 hdm
    rw [hv] at he
    have fact : ∀ hp, aopF false noC o'.op F hp = some (v, hp) -> FactH P F F hp (some hp) o' := by
     intro hp hf
     unfold FactH
     rw [g7 o' (List.mem_of_getElem? hi)]
     refine ⟨v, hp, rfl, .inr (aopF_ok noC_ok hf ⟨rfl, rfl⟩), fun d2 hd2 => ?_⟩
     rw [hd2] at hv; exact hv
    rcases hor with rfl | rfl | rfl | rfl
    ·exact fact _ he.1
    ·exact fact _ he.2.1
    ·exact fact _ he.2.2.1
    ·exact fact _ he.2.2.2
  exact d_of_c ⟨asem_drawnS hw (vd_vops hk)⟩
 ·cases ho
theorem dC0 {g : FuncId} {gl : List (Nat × List AV)} {args : List AV} {r : AV} {F : Env} {h : AHeap} {o : AOp} (hc : PureN P gl g args r) (hp : plainL args = true) (ho : o = .call (.c (.clo (.func g) [] [])) (oA o) := by kernel_rfl) (ha : (evs F (oA o)).map (List.map nz) = some args := by kernel_rfl) (hg : h.globs = gl := by kernel_rfl) (hgl : plainG gl = true := by kernel_rfl) : Does P o F h r h := by
 subst hg
 rw [ho]
 exact x_call hc hp ha hgl
theorem dNw {α : Type} (E : En α) {g : FuncId} {l : List α} {F : Env} {h : AHeap} {o : AOp} (h0 : l ≠ []) (hc : NewC P E.f E.sz g l) (ho : o = .call (.c (.clo (.func g) [] [])) (oA o) := by kernel_rfl) (ha : (evs F (oA o)).map (List.map nz) = some [.sl (l.map E.f) .no] := by kernel_rfl) : Does P o F h (.row h.blks.length 0 E.sz l.length l.length) ⟨h.blks ++ [some (cellsOf E.f l)], h.bufs, h.globs⟩ := by
 rw [ho]
 exact x_new hc E.ro h0 ha
end
section
attribute [local irreducible] Ok run put putH br jn pos dr0 So
attribute [-simp] List.map_take List.map_drop List.map_append List.map_set List.map_replicate List.map_cons List.map_map
attribute [local simp] plain plainL lowE lowB keepB low lowL lowLL plm_I_i8 plm_I_i16 plm_I_i32 plm_I_i64 plm_I_u8 plm_I_u16 plm_I_u32 plm_I_u64 plm_Bool plm_Str gfn_fi gfn_cap plm_Fn pl_GRaw plm_GRaw pl_GValue plm_GValue pl_GPair plm_GPair pl_GSlot plm_GSlot eI_i8 eI_i16 eI_i32 eI_i64 eI_u8 eI_u16 eI_u32 eI_u64 eBool eStr eFn lwr_GValue lwr_GPair lwr_GSlot lwm_GValue lwm_GPair lwm_GSlot
theorem plr3 (r : Bool) : plain (e3 r) = true := rfl
theorem law34_TranscodeLoses_step (v : GValue) (r : Bool) (hw : ∃ y1, ref18_Few v 2000 y1 /\ (((!y1) = true -> ∃ y2, law34_awake  y2 /\ (r = y2)) /\ ((!y1) = false -> ∃ y3, transcode_Lose v y3 /\ (∃ y4, ref34_Lose v y4 /\ (∃ y5, ref17_Same y3 y4 y5 /\ ((y5 = true -> ∃ y6, transcode_Lose y3 y6 /\ (∃ y7, ref17_Same y6 y3 y7 /\ ((y7 = true -> ∃ y8, law34_awake  y8 /\ (r = y8)) /\ (y7 = false -> r = false)))) /\ (y5 = false -> r = false))))))) : law34_TranscodeLoses v r :=
 fP (KC 10 hw pl4 fun _ hw=>KW 3 hw (fun _ hw=>KC 2 hw pl5 fun _ hw=>KR 5 hw plr3) fun _ hw=>KC 5 hw pl6 fun _ hw=>KD 5 [0, 1]<|KC 2 hw pl8 fun _ hw=>KC 0 hw pl7 fun _ hw=>KW 1 hw (fun _ hw=>KC 1 hw pl6 fun _ hw=>KC 2 hw pl7 fun _ hw=>KW 2 hw (fun _ hw=>KC 0 hw pl5 fun _ hw=>KR 5 hw plr3) fun _ hw=>KR 6 hw plr3) fun _ hw=>KR 13 hw plr3)
theorem plr4 (r : Bool) : plain (e4 r) = true := rfl
theorem ref18_Few_step (v : GValue) (left : Int) (r : Bool) (hw : ∃ y1, ref18_count v 1 left y1 /\ (r = (decide (0 <= y1)))) : ref18_Few v left r :=
 fP (KC 10 hw pl9 fun _ hw=>KR 5 hw plr4)
theorem plr6 (r : GValue) : plain (e6 r) = true := (pl_GValue r)
def transcode_Lose_j3 (v : GValue) (r : GValue) : Prop := J Tryz.prog 6 (.ret (e6 r)) 19 [(60, aI 0), (59, aI (([] : List (Int × GValue)).length : Int)), (58, .sl (List.map eGSlot' ([] : List (Int × GValue))) .no), (2, .ptr 1 0), (1, .ptr 0 0)] ⟨[some [aI v.Kind, aU v.Bits, aS v.Text, .sl (List.map eGValue' ([] : List GValue)) .no, .sl (List.map eGPair' ([] : List (GValue × GValue))) .no, .sl (List.map eGSlot' ([] : List (Int × GValue))) .no, .nil], some zV], [], []⟩
def transcode_Lose_j2 (v : GValue) (r : GValue) : Prop := J Tryz.prog 6 (.ret (e6 r)) 12 [(40, aI 0), (39, aI (([] : List (GValue × GValue)).length : Int)), (38, .sl (List.map eGPair' ([] : List (GValue × GValue))) .no), (2, .ptr 1 0), (1, .ptr 0 0)] ⟨[some [aI v.Kind, aU v.Bits, aS v.Text, .sl (List.map eGValue' ([] : List GValue)) .no, .sl (List.map eGPair' ([] : List (GValue × GValue))) .no, .sl (List.map eGSlot' ([] : List (Int × GValue))) .no, .nil], some zV], [], []⟩
def transcode_Lose_j1 (v : GValue) (r : GValue) : Prop := J Tryz.prog 6 (.ret (e6 r)) 5 [(25, aI 0), (24, aI (([] : List GValue).length : Int)), (23, .sl (List.map eGValue' ([] : List GValue)) .no), (2, .ptr 1 0), (1, .ptr 0 0)] ⟨[some [aI v.Kind, aU v.Bits, aS v.Text, .sl (List.map eGValue' ([] : List GValue)) .no, .sl (List.map eGPair' ([] : List (GValue × GValue))) .no, .sl (List.map eGSlot' ([] : List (Int × GValue))) .no, .nil], some zV], [], []⟩
def transcode_Lose_j7 (ij1 : Int) (v : GValue) (lj2 : (List (Int × GValue))) (r : GValue) : Prop := J Tryz.prog 6 (.ret (e6 r)) 19 [(60, aI ij1), (59, aI (v.Slots.length : Int)), (58, .row 2 0 8 v.Slots.length v.Slots.length), (2, .ptr 1 0), (1, .ptr 0 0)] ⟨[some [aI v.Kind, aU v.Bits, aS v.Text, .sl (List.map eGValue' ([] : List GValue)) .no, .sl (List.map eGPair' ([] : List (GValue × GValue))) .no, .row 2 0 8 v.Slots.length v.Slots.length, .nil], some zV, some (cellsOf eGSlot' lj2)], [], []⟩
def transcode_Lose_j5 (v : GValue) (r : GValue) : Prop := J Tryz.prog 6 (.ret (e6 r)) 12 [(40, aI 0), (39, aI (([] : List (GValue × GValue)).length : Int)), (38, .sl (List.map eGPair' ([] : List (GValue × GValue))) .no), (2, .ptr 1 0), (1, .ptr 0 0)] ⟨[some [aI v.Kind, aU v.Bits, aS v.Text, .sl (List.map eGValue' ([] : List GValue)) .no, .sl (List.map eGPair' ([] : List (GValue × GValue))) .no, .row 2 0 8 v.Slots.length v.Slots.length, .nil], some zV, some (cellsOf eGSlot' v.Slots)], [], []⟩
def transcode_Lose_j4 (v : GValue) (r : GValue) : Prop := J Tryz.prog 6 (.ret (e6 r)) 5 [(25, aI 0), (24, aI (([] : List GValue).length : Int)), (23, .sl (List.map eGValue' ([] : List GValue)) .no), (2, .ptr 1 0), (1, .ptr 0 0)] ⟨[some [aI v.Kind, aU v.Bits, aS v.Text, .sl (List.map eGValue' ([] : List GValue)) .no, .sl (List.map eGPair' ([] : List (GValue × GValue))) .no, .row 2 0 8 v.Slots.length v.Slots.length, .nil], some zV, some (cellsOf eGSlot' v.Slots)], [], []⟩
def transcode_Lose_j12 (v : GValue) (lj4 : (List (GValue × GValue))) (r : GValue) : Prop := J Tryz.prog 6 (.ret (e6 r)) 19 [(60, aI 0), (59, aI (([] : List (Int × GValue)).length : Int)), (58, .sl (List.map eGSlot' ([] : List (Int × GValue))) .no), (2, .ptr 1 0), (1, .ptr 0 0)] ⟨[some [aI v.Kind, aU v.Bits, aS v.Text, .sl (List.map eGValue' ([] : List GValue)) .no, .row 2 0 14 v.Pairs.length v.Pairs.length, .sl (List.map eGSlot' ([] : List (Int × GValue))) .no, .nil], some zV, some (cellsOf eGPair' lj4)], [], []⟩
def transcode_Lose_j11 (ij3 : Int) (v : GValue) (lj4 : (List (GValue × GValue))) (r : GValue) : Prop := J Tryz.prog 6 (.ret (e6 r)) 12 [(40, aI ij3), (39, aI (v.Pairs.length : Int)), (38, .row 2 0 14 v.Pairs.length v.Pairs.length), (2, .ptr 1 0), (1, .ptr 0 0)] ⟨[some [aI v.Kind, aU v.Bits, aS v.Text, .sl (List.map eGValue' ([] : List GValue)) .no, .row 2 0 14 v.Pairs.length v.Pairs.length, .sl (List.map eGSlot' ([] : List (Int × GValue))) .no, .nil], some zV, some (cellsOf eGPair' lj4)], [], []⟩
def transcode_Lose_j8 (v : GValue) (r : GValue) : Prop := J Tryz.prog 6 (.ret (e6 r)) 5 [(25, aI 0), (24, aI (([] : List GValue).length : Int)), (23, .sl (List.map eGValue' ([] : List GValue)) .no), (2, .ptr 1 0), (1, .ptr 0 0)] ⟨[some [aI v.Kind, aU v.Bits, aS v.Text, .sl (List.map eGValue' ([] : List GValue)) .no, .row 2 0 14 v.Pairs.length v.Pairs.length, .sl (List.map eGSlot' ([] : List (Int × GValue))) .no, .nil], some zV, some (cellsOf eGPair' v.Pairs)], [], []⟩
def transcode_Lose_j19 (ij9 : Int) (v : GValue) (lj8 : (List (GValue × GValue))) (lj10 : (List (Int × GValue))) (r : GValue) : Prop := J Tryz.prog 6 (.ret (e6 r)) 19 [(60, aI ij9), (59, aI (v.Slots.length : Int)), (58, .row 3 0 8 v.Slots.length v.Slots.length), (2, .ptr 1 0), (1, .ptr 0 0)] ⟨[some [aI v.Kind, aU v.Bits, aS v.Text, .sl (List.map eGValue' ([] : List GValue)) .no, .row 2 0 14 v.Pairs.length v.Pairs.length, .row 3 0 8 v.Slots.length v.Slots.length, .nil], some zV, some (cellsOf eGPair' lj8), some (cellsOf eGSlot' lj10)], [], []⟩
def transcode_Lose_j17 (ij7 : Int) (v : GValue) (lj8 : (List (GValue × GValue))) (r : GValue) : Prop := J Tryz.prog 6 (.ret (e6 r)) 12 [(40, aI ij7), (39, aI (v.Pairs.length : Int)), (38, .row 2 0 14 v.Pairs.length v.Pairs.length), (2, .ptr 1 0), (1, .ptr 0 0)] ⟨[some [aI v.Kind, aU v.Bits, aS v.Text, .sl (List.map eGValue' ([] : List GValue)) .no, .row 2 0 14 v.Pairs.length v.Pairs.length, .row 3 0 8 v.Slots.length v.Slots.length, .nil], some zV, some (cellsOf eGPair' lj8), some (cellsOf eGSlot' v.Slots)], [], []⟩
def transcode_Lose_j13 (v : GValue) (r : GValue) : Prop := J Tryz.prog 6 (.ret (e6 r)) 5 [(25, aI 0), (24, aI (([] : List GValue).length : Int)), (23, .sl (List.map eGValue' ([] : List GValue)) .no), (2, .ptr 1 0), (1, .ptr 0 0)] ⟨[some [aI v.Kind, aU v.Bits, aS v.Text, .sl (List.map eGValue' ([] : List GValue)) .no, .row 2 0 14 v.Pairs.length v.Pairs.length, .row 3 0 8 v.Slots.length v.Slots.length, .nil], some zV, some (cellsOf eGPair' v.Pairs), some (cellsOf eGSlot' v.Slots)], [], []⟩
def transcode_Lose_j25 (v : GValue) (lj12 : (List GValue)) (r : GValue) : Prop := J Tryz.prog 6 (.ret (e6 r)) 19 [(60, aI 0), (59, aI (([] : List (Int × GValue)).length : Int)), (58, .sl (List.map eGSlot' ([] : List (Int × GValue))) .no), (2, .ptr 1 0), (1, .ptr 0 0)] ⟨[some [aI v.Kind, aU v.Bits, aS v.Text, .row 2 0 7 v.List_.length v.List_.length, .sl (List.map eGPair' ([] : List (GValue × GValue))) .no, .sl (List.map eGSlot' ([] : List (Int × GValue))) .no, .nil], some zV, some (cellsOf eGValue' lj12)], [], []⟩
def transcode_Lose_j24 (v : GValue) (lj12 : (List GValue)) (r : GValue) : Prop := J Tryz.prog 6 (.ret (e6 r)) 12 [(40, aI 0), (39, aI (([] : List (GValue × GValue)).length : Int)), (38, .sl (List.map eGPair' ([] : List (GValue × GValue))) .no), (2, .ptr 1 0), (1, .ptr 0 0)] ⟨[some [aI v.Kind, aU v.Bits, aS v.Text, .row 2 0 7 v.List_.length v.List_.length, .sl (List.map eGPair' ([] : List (GValue × GValue))) .no, .sl (List.map eGSlot' ([] : List (Int × GValue))) .no, .nil], some zV, some (cellsOf eGValue' lj12)], [], []⟩
def transcode_Lose_j23 (ij11 : Int) (v : GValue) (lj12 : (List GValue)) (r : GValue) : Prop := J Tryz.prog 6 (.ret (e6 r)) 5 [(25, aI ij11), (24, aI (v.List_.length : Int)), (23, .row 2 0 7 v.List_.length v.List_.length), (2, .ptr 1 0), (1, .ptr 0 0)] ⟨[some [aI v.Kind, aU v.Bits, aS v.Text, .row 2 0 7 v.List_.length v.List_.length, .sl (List.map eGPair' ([] : List (GValue × GValue))) .no, .sl (List.map eGSlot' ([] : List (Int × GValue))) .no, .nil], some zV, some (cellsOf eGValue' lj12)], [], []⟩
def transcode_Lose_j33 (ij17 : Int) (v : GValue) (lj16 : (List GValue)) (lj18 : (List (Int × GValue))) (r : GValue) : Prop := J Tryz.prog 6 (.ret (e6 r)) 19 [(60, aI ij17), (59, aI (v.Slots.length : Int)), (58, .row 3 0 8 v.Slots.length v.Slots.length), (2, .ptr 1 0), (1, .ptr 0 0)] ⟨[some [aI v.Kind, aU v.Bits, aS v.Text, .row 2 0 7 v.List_.length v.List_.length, .sl (List.map eGPair' ([] : List (GValue × GValue))) .no, .row 3 0 8 v.Slots.length v.Slots.length, .nil], some zV, some (cellsOf eGValue' lj16), some (cellsOf eGSlot' lj18)], [], []⟩
def transcode_Lose_j31 (v : GValue) (lj16 : (List GValue)) (r : GValue) : Prop := J Tryz.prog 6 (.ret (e6 r)) 12 [(40, aI 0), (39, aI (([] : List (GValue × GValue)).length : Int)), (38, .sl (List.map eGPair' ([] : List (GValue × GValue))) .no), (2, .ptr 1 0), (1, .ptr 0 0)] ⟨[some [aI v.Kind, aU v.Bits, aS v.Text, .row 2 0 7 v.List_.length v.List_.length, .sl (List.map eGPair' ([] : List (GValue × GValue))) .no, .row 3 0 8 v.Slots.length v.Slots.length, .nil], some zV, some (cellsOf eGValue' lj16), some (cellsOf eGSlot' v.Slots)], [], []⟩
def transcode_Lose_j30 (ij15 : Int) (v : GValue) (lj16 : (List GValue)) (r : GValue) : Prop := J Tryz.prog 6 (.ret (e6 r)) 5 [(25, aI ij15), (24, aI (v.List_.length : Int)), (23, .row 2 0 7 v.List_.length v.List_.length), (2, .ptr 1 0), (1, .ptr 0 0)] ⟨[some [aI v.Kind, aU v.Bits, aS v.Text, .row 2 0 7 v.List_.length v.List_.length, .sl (List.map eGPair' ([] : List (GValue × GValue))) .no, .row 3 0 8 v.Slots.length v.Slots.length, .nil], some zV, some (cellsOf eGValue' lj16), some (cellsOf eGSlot' v.Slots)], [], []⟩
def transcode_Lose_j43 (v : GValue) (lj22 : (List GValue)) (lj24 : (List (GValue × GValue))) (r : GValue) : Prop := J Tryz.prog 6 (.ret (e6 r)) 19 [(60, aI 0), (59, aI (([] : List (Int × GValue)).length : Int)), (58, .sl (List.map eGSlot' ([] : List (Int × GValue))) .no), (2, .ptr 1 0), (1, .ptr 0 0)] ⟨[some [aI v.Kind, aU v.Bits, aS v.Text, .row 2 0 7 v.List_.length v.List_.length, .row 3 0 14 v.Pairs.length v.Pairs.length, .sl (List.map eGSlot' ([] : List (Int × GValue))) .no, .nil], some zV, some (cellsOf eGValue' lj22), some (cellsOf eGPair' lj24)], [], []⟩
def transcode_Lose_j42 (ij23 : Int) (v : GValue) (lj22 : (List GValue)) (lj24 : (List (GValue × GValue))) (r : GValue) : Prop := J Tryz.prog 6 (.ret (e6 r)) 12 [(40, aI ij23), (39, aI (v.Pairs.length : Int)), (38, .row 3 0 14 v.Pairs.length v.Pairs.length), (2, .ptr 1 0), (1, .ptr 0 0)] ⟨[some [aI v.Kind, aU v.Bits, aS v.Text, .row 2 0 7 v.List_.length v.List_.length, .row 3 0 14 v.Pairs.length v.Pairs.length, .sl (List.map eGSlot' ([] : List (Int × GValue))) .no, .nil], some zV, some (cellsOf eGValue' lj22), some (cellsOf eGPair' lj24)], [], []⟩
def transcode_Lose_j39 (ij21 : Int) (v : GValue) (lj22 : (List GValue)) (r : GValue) : Prop := J Tryz.prog 6 (.ret (e6 r)) 5 [(25, aI ij21), (24, aI (v.List_.length : Int)), (23, .row 2 0 7 v.List_.length v.List_.length), (2, .ptr 1 0), (1, .ptr 0 0)] ⟨[some [aI v.Kind, aU v.Bits, aS v.Text, .row 2 0 7 v.List_.length v.List_.length, .row 3 0 14 v.Pairs.length v.Pairs.length, .sl (List.map eGSlot' ([] : List (Int × GValue))) .no, .nil], some zV, some (cellsOf eGValue' lj22), some (cellsOf eGPair' v.Pairs)], [], []⟩
def transcode_Lose_j57 (ij37 : Int) (v : GValue) (lj32 : (List GValue)) (lj36 : (List (GValue × GValue))) (lj38 : (List (Int × GValue))) (r : GValue) : Prop := J Tryz.prog 6 (.ret (e6 r)) 19 [(60, aI ij37), (59, aI (v.Slots.length : Int)), (58, .row 4 0 8 v.Slots.length v.Slots.length), (2, .ptr 1 0), (1, .ptr 0 0)] ⟨[some [aI v.Kind, aU v.Bits, aS v.Text, .row 2 0 7 v.List_.length v.List_.length, .row 3 0 14 v.Pairs.length v.Pairs.length, .row 4 0 8 v.Slots.length v.Slots.length, .nil], some zV, some (cellsOf eGValue' lj32), some (cellsOf eGPair' lj36), some (cellsOf eGSlot' lj38)], [], []⟩
def transcode_Lose_j55 (ij35 : Int) (v : GValue) (lj32 : (List GValue)) (lj36 : (List (GValue × GValue))) (r : GValue) : Prop := J Tryz.prog 6 (.ret (e6 r)) 12 [(40, aI ij35), (39, aI (v.Pairs.length : Int)), (38, .row 3 0 14 v.Pairs.length v.Pairs.length), (2, .ptr 1 0), (1, .ptr 0 0)] ⟨[some [aI v.Kind, aU v.Bits, aS v.Text, .row 2 0 7 v.List_.length v.List_.length, .row 3 0 14 v.Pairs.length v.Pairs.length, .row 4 0 8 v.Slots.length v.Slots.length, .nil], some zV, some (cellsOf eGValue' lj32), some (cellsOf eGPair' lj36), some (cellsOf eGSlot' v.Slots)], [], []⟩
def transcode_Lose_j51 (ij31 : Int) (v : GValue) (lj32 : (List GValue)) (r : GValue) : Prop := J Tryz.prog 6 (.ret (e6 r)) 5 [(25, aI ij31), (24, aI (v.List_.length : Int)), (23, .row 2 0 7 v.List_.length v.List_.length), (2, .ptr 1 0), (1, .ptr 0 0)] ⟨[some [aI v.Kind, aU v.Bits, aS v.Text, .row 2 0 7 v.List_.length v.List_.length, .row 3 0 14 v.Pairs.length v.Pairs.length, .row 4 0 8 v.Slots.length v.Slots.length, .nil], some zV, some (cellsOf eGValue' lj32), some (cellsOf eGPair' v.Pairs), some (cellsOf eGSlot' v.Slots)], [], []⟩
theorem transcode_Lose_j7_low {ij1 : Int} {v : GValue} {lj2 : (List (Int × GValue))} : lowE [true, true, true] 0 [(60, aI ij1), (59, aI (v.Slots.length : Int)), (58, .row 2 0 8 v.Slots.length v.Slots.length), (2, .ptr 1 0), (1, .ptr 0 0)] = true /\ lowB [true, true, true] 0 [some [aI v.Kind, aU v.Bits, aS v.Text, .sl (List.map eGValue' ([] : List GValue)) .no, .sl (List.map eGPair' ([] : List (GValue × GValue))) .no, .row 2 0 8 v.Slots.length v.Slots.length, .nil], some zV, some (cellsOf eGSlot' lj2)] = true := ⟨by first | rfl | simp, by first | rfl | simp⟩
theorem transcode_Lose_j11_low {ij3 : Int} {v : GValue} {lj4 : (List (GValue × GValue))} : lowE [true, true, true] 0 [(40, aI ij3), (39, aI (v.Pairs.length : Int)), (38, .row 2 0 14 v.Pairs.length v.Pairs.length), (2, .ptr 1 0), (1, .ptr 0 0)] = true /\ lowB [true, true, true] 0 [some [aI v.Kind, aU v.Bits, aS v.Text, .sl (List.map eGValue' ([] : List GValue)) .no, .row 2 0 14 v.Pairs.length v.Pairs.length, .sl (List.map eGSlot' ([] : List (Int × GValue))) .no, .nil], some zV, some (cellsOf eGPair' lj4)] = true := ⟨by first | rfl | simp, by first | rfl | simp⟩
theorem transcode_Lose_j19_low {ij9 : Int} {v : GValue} {lj8 : (List (GValue × GValue))} {lj10 : (List (Int × GValue))} : lowE [true, true, true, true] 0 [(60, aI ij9), (59, aI (v.Slots.length : Int)), (58, .row 3 0 8 v.Slots.length v.Slots.length), (2, .ptr 1 0), (1, .ptr 0 0)] = true /\ lowB [true, true, true, true] 0 [some [aI v.Kind, aU v.Bits, aS v.Text, .sl (List.map eGValue' ([] : List GValue)) .no, .row 2 0 14 v.Pairs.length v.Pairs.length, .row 3 0 8 v.Slots.length v.Slots.length, .nil], some zV, some (cellsOf eGPair' lj8), some (cellsOf eGSlot' lj10)] = true := ⟨by first | rfl | simp, by first | rfl | simp⟩
theorem transcode_Lose_j17_low {ij7 : Int} {v : GValue} {lj8 : (List (GValue × GValue))} : lowE [true, true, true, true] 0 [(40, aI ij7), (39, aI (v.Pairs.length : Int)), (38, .row 2 0 14 v.Pairs.length v.Pairs.length), (2, .ptr 1 0), (1, .ptr 0 0)] = true /\ lowB [true, true, true, true] 0 [some [aI v.Kind, aU v.Bits, aS v.Text, .sl (List.map eGValue' ([] : List GValue)) .no, .row 2 0 14 v.Pairs.length v.Pairs.length, .row 3 0 8 v.Slots.length v.Slots.length, .nil], some zV, some (cellsOf eGPair' lj8), some (cellsOf eGSlot' v.Slots)] = true := ⟨by first | rfl | simp, by first | rfl | simp⟩
theorem transcode_Lose_j23_low {ij11 : Int} {v : GValue} {lj12 : (List GValue)} : lowE [true, true, true] 0 [(25, aI ij11), (24, aI (v.List_.length : Int)), (23, .row 2 0 7 v.List_.length v.List_.length), (2, .ptr 1 0), (1, .ptr 0 0)] = true /\ lowB [true, true, true] 0 [some [aI v.Kind, aU v.Bits, aS v.Text, .row 2 0 7 v.List_.length v.List_.length, .sl (List.map eGPair' ([] : List (GValue × GValue))) .no, .sl (List.map eGSlot' ([] : List (Int × GValue))) .no, .nil], some zV, some (cellsOf eGValue' lj12)] = true := ⟨by first | rfl | simp, by first | rfl | simp⟩
theorem transcode_Lose_j33_low {ij17 : Int} {v : GValue} {lj16 : (List GValue)} {lj18 : (List (Int × GValue))} : lowE [true, true, true, true] 0 [(60, aI ij17), (59, aI (v.Slots.length : Int)), (58, .row 3 0 8 v.Slots.length v.Slots.length), (2, .ptr 1 0), (1, .ptr 0 0)] = true /\ lowB [true, true, true, true] 0 [some [aI v.Kind, aU v.Bits, aS v.Text, .row 2 0 7 v.List_.length v.List_.length, .sl (List.map eGPair' ([] : List (GValue × GValue))) .no, .row 3 0 8 v.Slots.length v.Slots.length, .nil], some zV, some (cellsOf eGValue' lj16), some (cellsOf eGSlot' lj18)] = true := ⟨by first | rfl | simp, by first | rfl | simp⟩
theorem transcode_Lose_j30_low {ij15 : Int} {v : GValue} {lj16 : (List GValue)} : lowE [true, true, true, true] 0 [(25, aI ij15), (24, aI (v.List_.length : Int)), (23, .row 2 0 7 v.List_.length v.List_.length), (2, .ptr 1 0), (1, .ptr 0 0)] = true /\ lowB [true, true, true, true] 0 [some [aI v.Kind, aU v.Bits, aS v.Text, .row 2 0 7 v.List_.length v.List_.length, .sl (List.map eGPair' ([] : List (GValue × GValue))) .no, .row 3 0 8 v.Slots.length v.Slots.length, .nil], some zV, some (cellsOf eGValue' lj16), some (cellsOf eGSlot' v.Slots)] = true := ⟨by first | rfl | simp, by first | rfl | simp⟩
theorem transcode_Lose_j42_low {ij23 : Int} {v : GValue} {lj22 : (List GValue)} {lj24 : (List (GValue × GValue))} : lowE [true, true, true, true] 0 [(40, aI ij23), (39, aI (v.Pairs.length : Int)), (38, .row 3 0 14 v.Pairs.length v.Pairs.length), (2, .ptr 1 0), (1, .ptr 0 0)] = true /\ lowB [true, true, true, true] 0 [some [aI v.Kind, aU v.Bits, aS v.Text, .row 2 0 7 v.List_.length v.List_.length, .row 3 0 14 v.Pairs.length v.Pairs.length, .sl (List.map eGSlot' ([] : List (Int × GValue))) .no, .nil], some zV, some (cellsOf eGValue' lj22), some (cellsOf eGPair' lj24)] = true := ⟨by first | rfl | simp, by first | rfl | simp⟩
theorem transcode_Lose_j39_low {ij21 : Int} {v : GValue} {lj22 : (List GValue)} : lowE [true, true, true, true] 0 [(25, aI ij21), (24, aI (v.List_.length : Int)), (23, .row 2 0 7 v.List_.length v.List_.length), (2, .ptr 1 0), (1, .ptr 0 0)] = true /\ lowB [true, true, true, true] 0 [some [aI v.Kind, aU v.Bits, aS v.Text, .row 2 0 7 v.List_.length v.List_.length, .row 3 0 14 v.Pairs.length v.Pairs.length, .sl (List.map eGSlot' ([] : List (Int × GValue))) .no, .nil], some zV, some (cellsOf eGValue' lj22), some (cellsOf eGPair' v.Pairs)] = true := ⟨by first | rfl | simp, by first | rfl | simp⟩
theorem transcode_Lose_j57_low {ij37 : Int} {v : GValue} {lj32 : (List GValue)} {lj36 : (List (GValue × GValue))} {lj38 : (List (Int × GValue))} : lowE [true, true, true, true, true] 0 [(60, aI ij37), (59, aI (v.Slots.length : Int)), (58, .row 4 0 8 v.Slots.length v.Slots.length), (2, .ptr 1 0), (1, .ptr 0 0)] = true /\ lowB [true, true, true, true, true] 0 [some [aI v.Kind, aU v.Bits, aS v.Text, .row 2 0 7 v.List_.length v.List_.length, .row 3 0 14 v.Pairs.length v.Pairs.length, .row 4 0 8 v.Slots.length v.Slots.length, .nil], some zV, some (cellsOf eGValue' lj32), some (cellsOf eGPair' lj36), some (cellsOf eGSlot' lj38)] = true := ⟨by first | rfl | simp, by first | rfl | simp⟩
theorem transcode_Lose_j55_low {ij35 : Int} {v : GValue} {lj32 : (List GValue)} {lj36 : (List (GValue × GValue))} : lowE [true, true, true, true, true] 0 [(40, aI ij35), (39, aI (v.Pairs.length : Int)), (38, .row 3 0 14 v.Pairs.length v.Pairs.length), (2, .ptr 1 0), (1, .ptr 0 0)] = true /\ lowB [true, true, true, true, true] 0 [some [aI v.Kind, aU v.Bits, aS v.Text, .row 2 0 7 v.List_.length v.List_.length, .row 3 0 14 v.Pairs.length v.Pairs.length, .row 4 0 8 v.Slots.length v.Slots.length, .nil], some zV, some (cellsOf eGValue' lj32), some (cellsOf eGPair' lj36), some (cellsOf eGSlot' v.Slots)] = true := ⟨by first | rfl | simp, by first | rfl | simp⟩
theorem transcode_Lose_j51_low {ij31 : Int} {v : GValue} {lj32 : (List GValue)} : lowE [true, true, true, true, true] 0 [(25, aI ij31), (24, aI (v.List_.length : Int)), (23, .row 2 0 7 v.List_.length v.List_.length), (2, .ptr 1 0), (1, .ptr 0 0)] = true /\ lowB [true, true, true, true, true] 0 [some [aI v.Kind, aU v.Bits, aS v.Text, .row 2 0 7 v.List_.length v.List_.length, .row 3 0 14 v.Pairs.length v.Pairs.length, .row 4 0 8 v.Slots.length v.Slots.length, .nil], some zV, some (cellsOf eGValue' lj32), some (cellsOf eGPair' v.Pairs), some (cellsOf eGSlot' v.Slots)] = true := ⟨by first | rfl | simp, by first | rfl | simp⟩
theorem transcode_Lose_j3_step (v : GValue) (r : GValue) (hw : ((decide (0 < (([] : List (Int × GValue)).length : Int))) = true -> ∃ y1, ([] : List (Int × GValue))[(0 : Int).toNat]? = some y1 /\ 0 <= (0 : Int) /\ (∃ y2, transcode_Lose y1.2 y2 /\ (∃ y3, ([] : List (Int × GValue))[(0 : Int).toNat]? = some y3 /\ 0 <= (0 : Int) /\ (False)))) /\ ((decide (0 < (([] : List (Int × GValue)).length : Int))) = false -> r = (⟨v.Kind, v.Bits, v.Text, ([] : List GValue), ([] : List (GValue × GValue)), ([] : List (Int × GValue)), ([] : (List GRaw))⟩ : GValue))) : transcode_Lose_j3 v r :=
 KW 7 hw (fun _ hw=>KI 7 nGSlot hw fun _ hw=>KD 6 [0, 2]<|KC 5 hw pl6 fun _ hw=>KI 1 nGSlot hw fun _ hw=>hw.elim) fun _ hw=>KR 12 hw plr6
theorem transcode_Lose_j2_step (v : GValue) (r : GValue) (hw : ((decide (0 < (([] : List (GValue × GValue)).length : Int))) = true -> ∃ y4, ([] : List (GValue × GValue))[(0 : Int).toNat]? = some y4 /\ 0 <= (0 : Int) /\ (∃ y5, transcode_Lose y4.1 y5 /\ (∃ y6, transcode_Lose y4.2 y6 /\ (∃ y7, ([] : List (GValue × GValue))[(0 : Int).toNat]? = some y7 /\ 0 <= (0 : Int) /\ (False))))) /\ ((decide (0 < (([] : List (GValue × GValue)).length : Int))) = false -> transcode_Lose_j3 v r)) : transcode_Lose_j2 v r :=
 KW 7 hw (fun _ hw=>KI 7 nGPair hw fun _ hw=>KD 6 [0, 2]<|KC 5 hw pl6 fun _ hw=>KC 2 hw pl6 fun _ hw=>KI 2 nGPair hw fun _ hw=>hw.elim) fun _ hw=>KL 10 nGSlot ([] : List (Int × GValue))<|KJ 5 [] hw
theorem transcode_Lose_j1_step (v : GValue) (r : GValue) (hw : ((decide (0 < (([] : List GValue).length : Int))) = true -> ∃ y8, ([] : List GValue)[(0 : Int).toNat]? = some y8 /\ 0 <= (0 : Int) /\ (∃ y9, transcode_Lose y8 y9 /\ (∃ y10, ([] : List GValue)[(0 : Int).toNat]? = some y10 /\ 0 <= (0 : Int) /\ (False)))) /\ ((decide (0 < (([] : List GValue).length : Int))) = false -> transcode_Lose_j2 v r)) : transcode_Lose_j1 v r :=
 KW 7 hw (fun _ hw=>KI 7 nGValue hw fun _ hw=>KD 6 [0, 2]<|KC 4 hw pl6 fun _ hw=>KI 1 nGValue hw fun _ hw=>hw.elim) fun _ hw=>KL 10 nGPair ([] : List (GValue × GValue))<|KJ 5 [] hw
theorem transcode_Lose_j7_step (ij1 : Int) (v : GValue) (lj2 : (List (Int × GValue))) (r : GValue) (hw : ((decide (ij1 < (v.Slots.length : Int))) = true -> (0 <= ij1 /\ ij1 < (v.Slots.length : Int)) /\ (∃ y14, lj2[ij1.toNat]? = some y14 /\ (∃ y15, transcode_Lose y14.2 y15 /\ ((0 <= ij1 /\ ij1 < (v.Slots.length : Int)) /\ (∃ y16, lj2[ij1.toNat]? = some y16 /\ (transcode_Lose_j7 (wI (ij1 + 1)) v (lj2.set ij1.toNat (y16.1, y15)) r)))))) /\ ((decide (ij1 < (v.Slots.length : Int))) = false -> lj2.length = v.Slots.length /\ (r = (⟨v.Kind, v.Bits, v.Text, ([] : List GValue), ([] : List (GValue × GValue)), lj2, ([] : (List GRaw))⟩ : GValue)))) : transcode_Lose_j7 ij1 v lj2 r :=
 KW 7 hw (fun _ hw=>KRI 7 8 hw fun hw=>KRn 0 nGSlot hw fun _ hw=>KD 5 [0, 3]<|KC 5 hw pl6 fun y15 hw=>KRI 1 8 hw fun hw=>KRP 1 nGSlot 1 7 (fun y16=>(y16.1, y15)) (eGValue y15) hw (fun _=>rfl) fun y16 hw=>KJl 8 [] hw transcode_Lose_j7_low) fun _ hw=>KDg 11 nGSlot 2 [true, true, false] 0 0 2 [(2, .ptr 1 0)] [some [aI v.Kind, aU v.Bits, aS v.Text, .sl (List.map eGValue' ([] : List GValue)) .no, .sl (List.map eGPair' ([] : List (GValue × GValue))) .no, .sl (List.map eGSlot' lj2) .no, .nil], some [aI v.Kind, aU v.Bits, aS v.Text, .sl (List.map eGValue' ([] : List GValue)) .no, .sl (List.map eGPair' ([] : List (GValue × GValue))) .no, .sl (List.map eGSlot' lj2) .no, .nil], none] ⟨by first | rfl | simp, by first | rfl | simp⟩ hw fun hw=>KR 1 hw plr6
theorem transcode_Lose_j5_step (v : GValue) (r : GValue) (hw : ((decide (0 < (([] : List (GValue × GValue)).length : Int))) = true -> ∃ y17, ([] : List (GValue × GValue))[(0 : Int).toNat]? = some y17 /\ 0 <= (0 : Int) /\ (∃ y18, transcode_Lose y17.1 y18 /\ (∃ y19, transcode_Lose y17.2 y19 /\ (∃ y20, ([] : List (GValue × GValue))[(0 : Int).toNat]? = some y20 /\ 0 <= (0 : Int) /\ (False))))) /\ ((decide (0 < (([] : List (GValue × GValue)).length : Int))) = false -> transcode_Lose_j7 0 v v.Slots r)) : transcode_Lose_j5 v r :=
 KW 7 hw (fun _ hw=>KI 7 nGPair hw fun _ hw=>KD 6 [0, 3]<|KC 5 hw pl6 fun _ hw=>KC 2 hw pl6 fun _ hw=>KI 2 nGPair hw fun _ hw=>hw.elim) fun _ hw=>KJ 16 [] hw
theorem transcode_Lose_j4_step (v : GValue) (r : GValue) (hw : ((decide (0 < (([] : List GValue).length : Int))) = true -> ∃ y21, ([] : List GValue)[(0 : Int).toNat]? = some y21 /\ 0 <= (0 : Int) /\ (∃ y22, transcode_Lose y21 y22 /\ (∃ y23, ([] : List GValue)[(0 : Int).toNat]? = some y23 /\ 0 <= (0 : Int) /\ (False)))) /\ ((decide (0 < (([] : List GValue).length : Int))) = false -> transcode_Lose_j5 v r)) : transcode_Lose_j4 v r :=
 KW 7 hw (fun _ hw=>KI 7 nGValue hw fun _ hw=>KD 6 [0, 3]<|KC 4 hw pl6 fun _ hw=>KI 1 nGValue hw fun _ hw=>hw.elim) fun _ hw=>KL 10 nGPair ([] : List (GValue × GValue))<|KJ 5 [] hw
theorem transcode_Lose_j12_step (v : GValue) (lj4 : (List (GValue × GValue))) (r : GValue) (hw : ((decide (0 < (([] : List (Int × GValue)).length : Int))) = true -> ∃ y30, ([] : List (Int × GValue))[(0 : Int).toNat]? = some y30 /\ 0 <= (0 : Int) /\ (∃ y31, transcode_Lose y30.2 y31 /\ (∃ y32, ([] : List (Int × GValue))[(0 : Int).toNat]? = some y32 /\ 0 <= (0 : Int) /\ (False)))) /\ ((decide (0 < (([] : List (Int × GValue)).length : Int))) = false -> lj4.length = v.Pairs.length /\ (r = (⟨v.Kind, v.Bits, v.Text, ([] : List GValue), lj4, ([] : List (Int × GValue)), ([] : (List GRaw))⟩ : GValue)))) : transcode_Lose_j12 v lj4 r :=
 KW 7 hw (fun _ hw=>KI 7 nGSlot hw fun _ hw=>KD 6 [0, 3]<|KC 5 hw pl6 fun _ hw=>KI 1 nGSlot hw fun _ hw=>hw.elim) fun _ hw=>KDg 11 nGPair 2 [true, true, false] 0 0 2 [(2, .ptr 1 0)] [some [aI v.Kind, aU v.Bits, aS v.Text, .sl (List.map eGValue' ([] : List GValue)) .no, .sl (List.map eGPair' lj4) .no, .sl (List.map eGSlot' ([] : List (Int × GValue))) .no, .nil], some [aI v.Kind, aU v.Bits, aS v.Text, .sl (List.map eGValue' ([] : List GValue)) .no, .sl (List.map eGPair' lj4) .no, .sl (List.map eGSlot' ([] : List (Int × GValue))) .no, .nil], none] ⟨by first | rfl | simp, by first | rfl | simp⟩ hw fun hw=>KR 1 hw plr6
theorem transcode_Lose_j11_step (ij3 : Int) (v : GValue) (lj4 : (List (GValue × GValue))) (r : GValue) (hw : ((decide (ij3 < (v.Pairs.length : Int))) = true -> (0 <= ij3 /\ ij3 < (v.Pairs.length : Int)) /\ (∃ y33, lj4[ij3.toNat]? = some y33 /\ (∃ y34, transcode_Lose y33.1 y34 /\ (∃ y35, transcode_Lose y33.2 y35 /\ ((0 <= ij3 /\ ij3 < (v.Pairs.length : Int)) /\ (ij3.toNat < lj4.length /\ (transcode_Lose_j11 (wI (ij3 + 1)) v (lj4.set ij3.toNat (y34, y35)) r))))))) /\ ((decide (ij3 < (v.Pairs.length : Int))) = false -> transcode_Lose_j12 v lj4 r)) : transcode_Lose_j11 ij3 v lj4 r :=
 KW 7 hw (fun _ hw=>KRI 7 14 hw fun hw=>KRn 0 nGPair hw fun _ hw=>KD 5 [0, 3]<|KC 5 hw pl6 fun y34 hw=>KC 2 hw pl6 fun y35 hw=>KRI 2 14 hw fun hw=>KRS 0 nGPair (y34, y35) hw fun hw=>KJl 8 [] hw transcode_Lose_j11_low) fun _ hw=>KL 10 nGSlot ([] : List (Int × GValue))<|KJ 5 [] hw
theorem transcode_Lose_j8_step (v : GValue) (r : GValue) (hw : ((decide (0 < (([] : List GValue).length : Int))) = true -> ∃ y36, ([] : List GValue)[(0 : Int).toNat]? = some y36 /\ 0 <= (0 : Int) /\ (∃ y37, transcode_Lose y36 y37 /\ (∃ y38, ([] : List GValue)[(0 : Int).toNat]? = some y38 /\ 0 <= (0 : Int) /\ (False)))) /\ ((decide (0 < (([] : List GValue).length : Int))) = false -> transcode_Lose_j11 0 v v.Pairs r)) : transcode_Lose_j8 v r :=
 KW 7 hw (fun _ hw=>KI 7 nGValue hw fun _ hw=>KD 6 [0, 3]<|KC 4 hw pl6 fun _ hw=>KI 1 nGValue hw fun _ hw=>hw.elim) fun _ hw=>KJ 16 [] hw
theorem transcode_Lose_j19_step (ij9 : Int) (v : GValue) (lj8 : (List (GValue × GValue))) (lj10 : (List (Int × GValue))) (r : GValue) (hw : ((decide (ij9 < (v.Slots.length : Int))) = true -> (0 <= ij9 /\ ij9 < (v.Slots.length : Int)) /\ (∃ y51, lj10[ij9.toNat]? = some y51 /\ (∃ y52, transcode_Lose y51.2 y52 /\ ((0 <= ij9 /\ ij9 < (v.Slots.length : Int)) /\ (∃ y53, lj10[ij9.toNat]? = some y53 /\ (transcode_Lose_j19 (wI (ij9 + 1)) v lj8 (lj10.set ij9.toNat (y53.1, y52)) r)))))) /\ ((decide (ij9 < (v.Slots.length : Int))) = false -> lj8.length = v.Pairs.length /\ (lj10.length = v.Slots.length /\ (r = (⟨v.Kind, v.Bits, v.Text, ([] : List GValue), lj8, lj10, ([] : (List GRaw))⟩ : GValue))))) : transcode_Lose_j19 ij9 v lj8 lj10 r :=
 KW 7 hw (fun _ hw=>KRI 7 8 hw fun hw=>KRn 0 nGSlot hw fun _ hw=>KD 5 [0, 4]<|KC 5 hw pl6 fun y52 hw=>KRI 1 8 hw fun hw=>KRP 1 nGSlot 1 7 (fun y53=>(y53.1, y52)) (eGValue y52) hw (fun _=>rfl) fun y53 hw=>KJl 8 [] hw transcode_Lose_j19_low) fun _ hw=>KD2 11 [true, true, false, false] 0 [(2, .ptr 1 0)] [some [aI v.Kind, aU v.Bits, aS v.Text, .sl (List.map eGValue' ([] : List GValue)) .no, .sl (List.map eGPair' lj8) .no, .sl (List.map eGSlot' lj10) .no, .nil], some [aI v.Kind, aU v.Bits, aS v.Text, .sl (List.map eGValue' ([] : List GValue)) .no, .sl (List.map eGPair' lj8) .no, .sl (List.map eGSlot' lj10) .no, .nil], none, none] nGPair 2 0 2 nGSlot 3 0 2 ⟨by first | rfl | simp, by first | rfl | simp⟩ hw fun hw=>KR 1 hw plr6
theorem transcode_Lose_j17_step (ij7 : Int) (v : GValue) (lj8 : (List (GValue × GValue))) (r : GValue) (hw : ((decide (ij7 < (v.Pairs.length : Int))) = true -> (0 <= ij7 /\ ij7 < (v.Pairs.length : Int)) /\ (∃ y54, lj8[ij7.toNat]? = some y54 /\ (∃ y55, transcode_Lose y54.1 y55 /\ (∃ y56, transcode_Lose y54.2 y56 /\ ((0 <= ij7 /\ ij7 < (v.Pairs.length : Int)) /\ (ij7.toNat < lj8.length /\ (transcode_Lose_j17 (wI (ij7 + 1)) v (lj8.set ij7.toNat (y55, y56)) r))))))) /\ ((decide (ij7 < (v.Pairs.length : Int))) = false -> transcode_Lose_j19 0 v lj8 v.Slots r)) : transcode_Lose_j17 ij7 v lj8 r :=
 KW 7 hw (fun _ hw=>KRI 7 14 hw fun hw=>KRn 0 nGPair hw fun _ hw=>KD 5 [0, 4]<|KC 5 hw pl6 fun y55 hw=>KC 2 hw pl6 fun y56 hw=>KRI 2 14 hw fun hw=>KRS 0 nGPair (y55, y56) hw fun hw=>KJl 8 [] hw transcode_Lose_j17_low) fun _ hw=>KJ 16 [] hw
theorem transcode_Lose_j13_step (v : GValue) (r : GValue) (hw : ((decide (0 < (([] : List GValue).length : Int))) = true -> ∃ y57, ([] : List GValue)[(0 : Int).toNat]? = some y57 /\ 0 <= (0 : Int) /\ (∃ y58, transcode_Lose y57 y58 /\ (∃ y59, ([] : List GValue)[(0 : Int).toNat]? = some y59 /\ 0 <= (0 : Int) /\ (False)))) /\ ((decide (0 < (([] : List GValue).length : Int))) = false -> transcode_Lose_j17 0 v v.Pairs r)) : transcode_Lose_j13 v r :=
 KW 7 hw (fun _ hw=>KI 7 nGValue hw fun _ hw=>KD 6 [0, 4]<|KC 4 hw pl6 fun _ hw=>KI 1 nGValue hw fun _ hw=>hw.elim) fun _ hw=>KJ 16 [] hw
theorem transcode_Lose_j25_step (v : GValue) (lj12 : (List GValue)) (r : GValue) (hw : ((decide (0 < (([] : List (Int × GValue)).length : Int))) = true -> ∃ y69, ([] : List (Int × GValue))[(0 : Int).toNat]? = some y69 /\ 0 <= (0 : Int) /\ (∃ y70, transcode_Lose y69.2 y70 /\ (∃ y71, ([] : List (Int × GValue))[(0 : Int).toNat]? = some y71 /\ 0 <= (0 : Int) /\ (False)))) /\ ((decide (0 < (([] : List (Int × GValue)).length : Int))) = false -> lj12.length = v.List_.length /\ (r = (⟨v.Kind, v.Bits, v.Text, lj12, ([] : List (GValue × GValue)), ([] : List (Int × GValue)), ([] : (List GRaw))⟩ : GValue)))) : transcode_Lose_j25 v lj12 r :=
 KW 7 hw (fun _ hw=>KI 7 nGSlot hw fun _ hw=>KD 6 [0, 3]<|KC 5 hw pl6 fun _ hw=>KI 1 nGSlot hw fun _ hw=>hw.elim) fun _ hw=>KDg 11 nGValue 2 [true, true, false] 0 0 2 [(2, .ptr 1 0)] [some [aI v.Kind, aU v.Bits, aS v.Text, .sl (List.map eGValue' lj12) .no, .sl (List.map eGPair' ([] : List (GValue × GValue))) .no, .sl (List.map eGSlot' ([] : List (Int × GValue))) .no, .nil], some [aI v.Kind, aU v.Bits, aS v.Text, .sl (List.map eGValue' lj12) .no, .sl (List.map eGPair' ([] : List (GValue × GValue))) .no, .sl (List.map eGSlot' ([] : List (Int × GValue))) .no, .nil], none] ⟨by first | rfl | simp, by first | rfl | simp⟩ hw fun hw=>KR 1 hw plr6
theorem transcode_Lose_j24_step (v : GValue) (lj12 : (List GValue)) (r : GValue) (hw : ((decide (0 < (([] : List (GValue × GValue)).length : Int))) = true -> ∃ y72, ([] : List (GValue × GValue))[(0 : Int).toNat]? = some y72 /\ 0 <= (0 : Int) /\ (∃ y73, transcode_Lose y72.1 y73 /\ (∃ y74, transcode_Lose y72.2 y74 /\ (∃ y75, ([] : List (GValue × GValue))[(0 : Int).toNat]? = some y75 /\ 0 <= (0 : Int) /\ (False))))) /\ ((decide (0 < (([] : List (GValue × GValue)).length : Int))) = false -> transcode_Lose_j25 v lj12 r)) : transcode_Lose_j24 v lj12 r :=
 KW 7 hw (fun _ hw=>KI 7 nGPair hw fun _ hw=>KD 6 [0, 3]<|KC 5 hw pl6 fun _ hw=>KC 2 hw pl6 fun _ hw=>KI 2 nGPair hw fun _ hw=>hw.elim) fun _ hw=>KL 10 nGSlot ([] : List (Int × GValue))<|KJ 5 [] hw
theorem transcode_Lose_j23_step (ij11 : Int) (v : GValue) (lj12 : (List GValue)) (r : GValue) (hw : ((decide (ij11 < (v.List_.length : Int))) = true -> (0 <= ij11 /\ ij11 < (v.List_.length : Int)) /\ (∃ y76, lj12[ij11.toNat]? = some y76 /\ (∃ y77, transcode_Lose y76 y77 /\ ((0 <= ij11 /\ ij11 < (v.List_.length : Int)) /\ (ij11.toNat < lj12.length /\ (transcode_Lose_j23 (wI (ij11 + 1)) v (lj12.set ij11.toNat y77) r)))))) /\ ((decide (ij11 < (v.List_.length : Int))) = false -> transcode_Lose_j24 v lj12 r)) : transcode_Lose_j23 ij11 v lj12 r :=
 KW 7 hw (fun _ hw=>KRI 7 7 hw fun hw=>KRn 0 nGValue hw fun _ hw=>KD 5 [0, 3]<|KC 4 hw pl6 fun y77 hw=>KRI 1 7 hw fun hw=>KRS 0 nGValue y77 hw fun hw=>KJl 8 [] hw transcode_Lose_j23_low) fun _ hw=>KL 10 nGPair ([] : List (GValue × GValue))<|KJ 5 [] hw
theorem transcode_Lose_j33_step (ij17 : Int) (v : GValue) (lj16 : (List GValue)) (lj18 : (List (Int × GValue))) (r : GValue) (hw : ((decide (ij17 < (v.Slots.length : Int))) = true -> (0 <= ij17 /\ ij17 < (v.Slots.length : Int)) /\ (∃ y93, lj18[ij17.toNat]? = some y93 /\ (∃ y94, transcode_Lose y93.2 y94 /\ ((0 <= ij17 /\ ij17 < (v.Slots.length : Int)) /\ (∃ y95, lj18[ij17.toNat]? = some y95 /\ (transcode_Lose_j33 (wI (ij17 + 1)) v lj16 (lj18.set ij17.toNat (y95.1, y94)) r)))))) /\ ((decide (ij17 < (v.Slots.length : Int))) = false -> lj16.length = v.List_.length /\ (lj18.length = v.Slots.length /\ (r = (⟨v.Kind, v.Bits, v.Text, lj16, ([] : List (GValue × GValue)), lj18, ([] : (List GRaw))⟩ : GValue))))) : transcode_Lose_j33 ij17 v lj16 lj18 r :=
 KW 7 hw (fun _ hw=>KRI 7 8 hw fun hw=>KRn 0 nGSlot hw fun _ hw=>KD 5 [0, 4]<|KC 5 hw pl6 fun y94 hw=>KRI 1 8 hw fun hw=>KRP 1 nGSlot 1 7 (fun y95=>(y95.1, y94)) (eGValue y94) hw (fun _=>rfl) fun y95 hw=>KJl 8 [] hw transcode_Lose_j33_low) fun _ hw=>KD2 11 [true, true, false, false] 0 [(2, .ptr 1 0)] [some [aI v.Kind, aU v.Bits, aS v.Text, .sl (List.map eGValue' lj16) .no, .sl (List.map eGPair' ([] : List (GValue × GValue))) .no, .sl (List.map eGSlot' lj18) .no, .nil], some [aI v.Kind, aU v.Bits, aS v.Text, .sl (List.map eGValue' lj16) .no, .sl (List.map eGPair' ([] : List (GValue × GValue))) .no, .sl (List.map eGSlot' lj18) .no, .nil], none, none] nGValue 2 0 2 nGSlot 3 0 2 ⟨by first | rfl | simp, by first | rfl | simp⟩ hw fun hw=>KR 1 hw plr6
theorem transcode_Lose_j31_step (v : GValue) (lj16 : (List GValue)) (r : GValue) (hw : ((decide (0 < (([] : List (GValue × GValue)).length : Int))) = true -> ∃ y96, ([] : List (GValue × GValue))[(0 : Int).toNat]? = some y96 /\ 0 <= (0 : Int) /\ (∃ y97, transcode_Lose y96.1 y97 /\ (∃ y98, transcode_Lose y96.2 y98 /\ (∃ y99, ([] : List (GValue × GValue))[(0 : Int).toNat]? = some y99 /\ 0 <= (0 : Int) /\ (False))))) /\ ((decide (0 < (([] : List (GValue × GValue)).length : Int))) = false -> transcode_Lose_j33 0 v lj16 v.Slots r)) : transcode_Lose_j31 v lj16 r :=
 KW 7 hw (fun _ hw=>KI 7 nGPair hw fun _ hw=>KD 6 [0, 4]<|KC 5 hw pl6 fun _ hw=>KC 2 hw pl6 fun _ hw=>KI 2 nGPair hw fun _ hw=>hw.elim) fun _ hw=>KJ 16 [] hw
theorem transcode_Lose_j30_step (ij15 : Int) (v : GValue) (lj16 : (List GValue)) (r : GValue) (hw : ((decide (ij15 < (v.List_.length : Int))) = true -> (0 <= ij15 /\ ij15 < (v.List_.length : Int)) /\ (∃ y100, lj16[ij15.toNat]? = some y100 /\ (∃ y101, transcode_Lose y100 y101 /\ ((0 <= ij15 /\ ij15 < (v.List_.length : Int)) /\ (ij15.toNat < lj16.length /\ (transcode_Lose_j30 (wI (ij15 + 1)) v (lj16.set ij15.toNat y101) r)))))) /\ ((decide (ij15 < (v.List_.length : Int))) = false -> transcode_Lose_j31 v lj16 r)) : transcode_Lose_j30 ij15 v lj16 r :=
 KW 7 hw (fun _ hw=>KRI 7 7 hw fun hw=>KRn 0 nGValue hw fun _ hw=>KD 5 [0, 4]<|KC 4 hw pl6 fun y101 hw=>KRI 1 7 hw fun hw=>KRS 0 nGValue y101 hw fun hw=>KJl 8 [] hw transcode_Lose_j30_low) fun _ hw=>KL 10 nGPair ([] : List (GValue × GValue))<|KJ 5 [] hw
theorem transcode_Lose_j43_step (v : GValue) (lj22 : (List GValue)) (lj24 : (List (GValue × GValue))) (r : GValue) (hw : ((decide (0 < (([] : List (Int × GValue)).length : Int))) = true -> ∃ y122, ([] : List (Int × GValue))[(0 : Int).toNat]? = some y122 /\ 0 <= (0 : Int) /\ (∃ y123, transcode_Lose y122.2 y123 /\ (∃ y124, ([] : List (Int × GValue))[(0 : Int).toNat]? = some y124 /\ 0 <= (0 : Int) /\ (False)))) /\ ((decide (0 < (([] : List (Int × GValue)).length : Int))) = false -> lj22.length = v.List_.length /\ (lj24.length = v.Pairs.length /\ (r = (⟨v.Kind, v.Bits, v.Text, lj22, lj24, ([] : List (Int × GValue)), ([] : (List GRaw))⟩ : GValue))))) : transcode_Lose_j43 v lj22 lj24 r :=
 KW 7 hw (fun _ hw=>KI 7 nGSlot hw fun _ hw=>KD 6 [0, 4]<|KC 5 hw pl6 fun _ hw=>KI 1 nGSlot hw fun _ hw=>hw.elim) fun _ hw=>KD2 11 [true, true, false, false] 0 [(2, .ptr 1 0)] [some [aI v.Kind, aU v.Bits, aS v.Text, .sl (List.map eGValue' lj22) .no, .sl (List.map eGPair' lj24) .no, .sl (List.map eGSlot' ([] : List (Int × GValue))) .no, .nil], some [aI v.Kind, aU v.Bits, aS v.Text, .sl (List.map eGValue' lj22) .no, .sl (List.map eGPair' lj24) .no, .sl (List.map eGSlot' ([] : List (Int × GValue))) .no, .nil], none, none] nGValue 2 0 2 nGPair 3 0 2 ⟨by first | rfl | simp, by first | rfl | simp⟩ hw fun hw=>KR 1 hw plr6
theorem transcode_Lose_j42_step (ij23 : Int) (v : GValue) (lj22 : (List GValue)) (lj24 : (List (GValue × GValue))) (r : GValue) (hw : ((decide (ij23 < (v.Pairs.length : Int))) = true -> (0 <= ij23 /\ ij23 < (v.Pairs.length : Int)) /\ (∃ y125, lj24[ij23.toNat]? = some y125 /\ (∃ y126, transcode_Lose y125.1 y126 /\ (∃ y127, transcode_Lose y125.2 y127 /\ ((0 <= ij23 /\ ij23 < (v.Pairs.length : Int)) /\ (ij23.toNat < lj24.length /\ (transcode_Lose_j42 (wI (ij23 + 1)) v lj22 (lj24.set ij23.toNat (y126, y127)) r))))))) /\ ((decide (ij23 < (v.Pairs.length : Int))) = false -> transcode_Lose_j43 v lj22 lj24 r)) : transcode_Lose_j42 ij23 v lj22 lj24 r :=
 KW 7 hw (fun _ hw=>KRI 7 14 hw fun hw=>KRn 0 nGPair hw fun _ hw=>KD 5 [0, 4]<|KC 5 hw pl6 fun y126 hw=>KC 2 hw pl6 fun y127 hw=>KRI 2 14 hw fun hw=>KRS 0 nGPair (y126, y127) hw fun hw=>KJl 8 [] hw transcode_Lose_j42_low) fun _ hw=>KL 10 nGSlot ([] : List (Int × GValue))<|KJ 5 [] hw
theorem transcode_Lose_j39_step (ij21 : Int) (v : GValue) (lj22 : (List GValue)) (r : GValue) (hw : ((decide (ij21 < (v.List_.length : Int))) = true -> (0 <= ij21 /\ ij21 < (v.List_.length : Int)) /\ (∃ y128, lj22[ij21.toNat]? = some y128 /\ (∃ y129, transcode_Lose y128 y129 /\ ((0 <= ij21 /\ ij21 < (v.List_.length : Int)) /\ (ij21.toNat < lj22.length /\ (transcode_Lose_j39 (wI (ij21 + 1)) v (lj22.set ij21.toNat y129) r)))))) /\ ((decide (ij21 < (v.List_.length : Int))) = false -> transcode_Lose_j42 0 v lj22 v.Pairs r)) : transcode_Lose_j39 ij21 v lj22 r :=
 KW 7 hw (fun _ hw=>KRI 7 7 hw fun hw=>KRn 0 nGValue hw fun _ hw=>KD 5 [0, 4]<|KC 4 hw pl6 fun y129 hw=>KRI 1 7 hw fun hw=>KRS 0 nGValue y129 hw fun hw=>KJl 8 [] hw transcode_Lose_j39_low) fun _ hw=>KJ 16 [] hw
theorem transcode_Lose_j57_step (ij37 : Int) (v : GValue) (lj32 : (List GValue)) (lj36 : (List (GValue × GValue))) (lj38 : (List (Int × GValue))) (r : GValue) (hw : ((decide (ij37 < (v.Slots.length : Int))) = true -> (0 <= ij37 /\ ij37 < (v.Slots.length : Int)) /\ (∃ y162, lj38[ij37.toNat]? = some y162 /\ (∃ y163, transcode_Lose y162.2 y163 /\ ((0 <= ij37 /\ ij37 < (v.Slots.length : Int)) /\ (∃ y164, lj38[ij37.toNat]? = some y164 /\ (transcode_Lose_j57 (wI (ij37 + 1)) v lj32 lj36 (lj38.set ij37.toNat (y164.1, y163)) r)))))) /\ ((decide (ij37 < (v.Slots.length : Int))) = false -> lj32.length = v.List_.length /\ (lj36.length = v.Pairs.length /\ (lj38.length = v.Slots.length /\ (r = (⟨v.Kind, v.Bits, v.Text, lj32, lj36, lj38, ([] : (List GRaw))⟩ : GValue)))))) : transcode_Lose_j57 ij37 v lj32 lj36 lj38 r :=
 KW 7 hw (fun _ hw=>KRI 7 8 hw fun hw=>KRn 0 nGSlot hw fun _ hw=>KD 5 [0, 5]<|KC 5 hw pl6 fun y163 hw=>KRI 1 8 hw fun hw=>KRP 1 nGSlot 1 7 (fun y164=>(y164.1, y163)) (eGValue y163) hw (fun _=>rfl) fun y164 hw=>KJl 8 [] hw transcode_Lose_j57_low) fun _ hw=>KD3 11 [true, true, false, false, false] 0 [(2, .ptr 1 0)] [some [aI v.Kind, aU v.Bits, aS v.Text, .sl (List.map eGValue' lj32) .no, .sl (List.map eGPair' lj36) .no, .sl (List.map eGSlot' lj38) .no, .nil], some [aI v.Kind, aU v.Bits, aS v.Text, .sl (List.map eGValue' lj32) .no, .sl (List.map eGPair' lj36) .no, .sl (List.map eGSlot' lj38) .no, .nil], none, none, none] nGValue 2 0 2 nGPair 3 0 2 nGSlot 4 0 2 ⟨by first | rfl | simp, by first | rfl | simp⟩ hw fun hw=>KR 1 hw plr6
theorem transcode_Lose_j55_step (ij35 : Int) (v : GValue) (lj32 : (List GValue)) (lj36 : (List (GValue × GValue))) (r : GValue) (hw : ((decide (ij35 < (v.Pairs.length : Int))) = true -> (0 <= ij35 /\ ij35 < (v.Pairs.length : Int)) /\ (∃ y165, lj36[ij35.toNat]? = some y165 /\ (∃ y166, transcode_Lose y165.1 y166 /\ (∃ y167, transcode_Lose y165.2 y167 /\ ((0 <= ij35 /\ ij35 < (v.Pairs.length : Int)) /\ (ij35.toNat < lj36.length /\ (transcode_Lose_j55 (wI (ij35 + 1)) v lj32 (lj36.set ij35.toNat (y166, y167)) r))))))) /\ ((decide (ij35 < (v.Pairs.length : Int))) = false -> transcode_Lose_j57 0 v lj32 lj36 v.Slots r)) : transcode_Lose_j55 ij35 v lj32 lj36 r :=
 KW 7 hw (fun _ hw=>KRI 7 14 hw fun hw=>KRn 0 nGPair hw fun _ hw=>KD 5 [0, 5]<|KC 5 hw pl6 fun y166 hw=>KC 2 hw pl6 fun y167 hw=>KRI 2 14 hw fun hw=>KRS 0 nGPair (y166, y167) hw fun hw=>KJl 8 [] hw transcode_Lose_j55_low) fun _ hw=>KJ 16 [] hw
theorem transcode_Lose_j51_step (ij31 : Int) (v : GValue) (lj32 : (List GValue)) (r : GValue) (hw : ((decide (ij31 < (v.List_.length : Int))) = true -> (0 <= ij31 /\ ij31 < (v.List_.length : Int)) /\ (∃ y168, lj32[ij31.toNat]? = some y168 /\ (∃ y169, transcode_Lose y168 y169 /\ ((0 <= ij31 /\ ij31 < (v.List_.length : Int)) /\ (ij31.toNat < lj32.length /\ (transcode_Lose_j51 (wI (ij31 + 1)) v (lj32.set ij31.toNat y169) r)))))) /\ ((decide (ij31 < (v.List_.length : Int))) = false -> transcode_Lose_j55 0 v lj32 v.Pairs r)) : transcode_Lose_j51 ij31 v lj32 r :=
 KW 7 hw (fun _ hw=>KRI 7 7 hw fun hw=>KRn 0 nGValue hw fun _ hw=>KD 5 [0, 5]<|KC 4 hw pl6 fun y169 hw=>KRI 1 7 hw fun hw=>KRS 0 nGValue y169 hw fun hw=>KJl 8 [] hw transcode_Lose_j51_low) fun _ hw=>KJ 16 [] hw
theorem transcode_Lose_step (v : GValue) (r : GValue) (hw : (v.List_ = [] -> slices_Clone_LValue_Value v.List_ ([] : List GValue) /\ ((v.Pairs = [] -> slices_Clone_LPair_Pair v.Pairs ([] : List (GValue × GValue)) /\ ((v.Slots = [] -> slices_Clone_LSlot_Slot v.Slots ([] : List (Int × GValue)) /\ (transcode_Lose_j1 v r)) /\ (v.Slots ≠ [] -> slices_Clone_LSlot_Slot_new v.Slots /\ (transcode_Lose_j4 v r)))) /\ (v.Pairs ≠ [] -> slices_Clone_LPair_Pair_new v.Pairs /\ ((v.Slots = [] -> slices_Clone_LSlot_Slot v.Slots ([] : List (Int × GValue)) /\ (transcode_Lose_j8 v r)) /\ (v.Slots ≠ [] -> slices_Clone_LSlot_Slot_new v.Slots /\ (transcode_Lose_j13 v r)))))) /\ (v.List_ ≠ [] -> slices_Clone_LValue_Value_new v.List_ /\ ((v.Pairs = [] -> slices_Clone_LPair_Pair v.Pairs ([] : List (GValue × GValue)) /\ ((v.Slots = [] -> slices_Clone_LSlot_Slot v.Slots ([] : List (Int × GValue)) /\ (transcode_Lose_j23 0 v v.List_ r)) /\ (v.Slots ≠ [] -> slices_Clone_LSlot_Slot_new v.Slots /\ (transcode_Lose_j30 0 v v.List_ r)))) /\ (v.Pairs ≠ [] -> slices_Clone_LPair_Pair_new v.Pairs /\ ((v.Slots = [] -> slices_Clone_LSlot_Slot v.Slots ([] : List (Int × GValue)) /\ (transcode_Lose_j39 0 v v.List_ r)) /\ (v.Slots ≠ [] -> slices_Clone_LSlot_Slot_new v.Slots /\ (transcode_Lose_j51 0 v v.List_ r))))))) : transcode_Lose v r :=
 fP (vemp v.List_ (fun a=>vemp v.Pairs (fun b=>vemp v.Slots (fun c=>KDw 13 ((12, (.sl (List.map eGValue' ([] : List (GValue))) .no)) :: (15, (.sl (List.map eGPair' ([] : List (GValue × GValue))) .no)) :: (18, (.sl (List.map eGSlot' ([] : List (Int × GValue))) .no)) :: (10, .ptr 0 3) :: (11, .sl (List.map eGValue' v.List_) .no) :: (13, .ptr 0 4) :: (14, .sl (List.map eGPair' v.Pairs) .no) :: (16, .ptr 0 5) :: (19, .ptr 0 3) :: (17, .sl (List.map eGSlot' v.Slots) .no) :: (run 13 (s0 Tryz.prog 6 [AV.agg (eGValue v)] ⟨[], [], []⟩)).env) 2 5 8 (run 13 (s0 Tryz.prog 6 [AV.agg (eGValue v)] ⟨[], [], []⟩)).h (run 13 (s0 Tryz.prog 6 [AV.agg (eGValue v)] ⟨[], [], []⟩)).h (run 13 (s0 Tryz.prog 6 [AV.agg (eGValue v)] ⟨[], [], []⟩)).h (dC0 (hw.1 a).1 pl15) (dC0 ((hw.1 a).2.1 b).1 pl16) (dC0 (((hw.1 a).2.1 b).2.1 c).1 pl17)<|KL 12 nGValue ([] : List GValue)<|KJ 5 [] (((hw.1 a).2.1 b).2.1 c).2) fun c=>KDw 13 ((12, (.sl (List.map eGValue' ([] : List (GValue))) .no)) :: (15, (.sl (List.map eGPair' ([] : List (GValue × GValue))) .no)) :: (18, (.row 2 0 8 v.Slots.length v.Slots.length)) :: (10, .ptr 0 3) :: (11, .sl (List.map eGValue' v.List_) .no) :: (13, .ptr 0 4) :: (14, .sl (List.map eGPair' v.Pairs) .no) :: (16, .ptr 0 5) :: (19, .ptr 0 3) :: (17, .sl (List.map eGSlot' v.Slots) .no) :: (run 13 (s0 Tryz.prog 6 [AV.agg (eGValue v)] ⟨[], [], []⟩)).env) 2 5 8 (run 13 (s0 Tryz.prog 6 [AV.agg (eGValue v)] ⟨[], [], []⟩)).h (run 13 (s0 Tryz.prog 6 [AV.agg (eGValue v)] ⟨[], [], []⟩)).h ⟨((run 13 (s0 Tryz.prog 6 [AV.agg (eGValue v)] ⟨[], [], []⟩)).h).blks ++ [some (cellsOf nGSlot.f v.Slots)], ((run 13 (s0 Tryz.prog 6 [AV.agg (eGValue v)] ⟨[], [], []⟩)).h).bufs, ((run 13 (s0 Tryz.prog 6 [AV.agg (eGValue v)] ⟨[], [], []⟩)).h).globs⟩ (dC0 (hw.1 a).1 pl15) (dC0 ((hw.1 a).2.1 b).1 pl16) (dNw nGSlot c (((hw.1 a).2.1 b).2.2 c).1)<|KL 12 nGValue ([] : List GValue)<|KJ 5 [] (((hw.1 a).2.1 b).2.2 c).2) fun b=>vemp v.Slots (fun c=>KDw 13 ((12, (.sl (List.map eGValue' ([] : List (GValue))) .no)) :: (15, (.row 2 0 14 v.Pairs.length v.Pairs.length)) :: (18, (.sl (List.map eGSlot' ([] : List (Int × GValue))) .no)) :: (10, .ptr 0 3) :: (11, .sl (List.map eGValue' v.List_) .no) :: (13, .ptr 0 4) :: (14, .sl (List.map eGPair' v.Pairs) .no) :: (16, .ptr 0 5) :: (19, .ptr 0 3) :: (17, .sl (List.map eGSlot' v.Slots) .no) :: (run 13 (s0 Tryz.prog 6 [AV.agg (eGValue v)] ⟨[], [], []⟩)).env) 2 5 8 (run 13 (s0 Tryz.prog 6 [AV.agg (eGValue v)] ⟨[], [], []⟩)).h ⟨((run 13 (s0 Tryz.prog 6 [AV.agg (eGValue v)] ⟨[], [], []⟩)).h).blks ++ [some (cellsOf nGPair.f v.Pairs)], ((run 13 (s0 Tryz.prog 6 [AV.agg (eGValue v)] ⟨[], [], []⟩)).h).bufs, ((run 13 (s0 Tryz.prog 6 [AV.agg (eGValue v)] ⟨[], [], []⟩)).h).globs⟩ ⟨((run 13 (s0 Tryz.prog 6 [AV.agg (eGValue v)] ⟨[], [], []⟩)).h).blks ++ [some (cellsOf nGPair.f v.Pairs)], ((run 13 (s0 Tryz.prog 6 [AV.agg (eGValue v)] ⟨[], [], []⟩)).h).bufs, ((run 13 (s0 Tryz.prog 6 [AV.agg (eGValue v)] ⟨[], [], []⟩)).h).globs⟩ (dC0 (hw.1 a).1 pl15) (dNw nGPair b ((hw.1 a).2.2 b).1) (dC0 (((hw.1 a).2.2 b).2.1 c).1 pl17)<|KL 12 nGValue ([] : List GValue)<|KJ 5 [] (((hw.1 a).2.2 b).2.1 c).2) fun c=>KDw 13 ((12, (.sl (List.map eGValue' ([] : List (GValue))) .no)) :: (15, (.row 2 0 14 v.Pairs.length v.Pairs.length)) :: (18, (.row 3 0 8 v.Slots.length v.Slots.length)) :: (10, .ptr 0 3) :: (11, .sl (List.map eGValue' v.List_) .no) :: (13, .ptr 0 4) :: (14, .sl (List.map eGPair' v.Pairs) .no) :: (16, .ptr 0 5) :: (19, .ptr 0 3) :: (17, .sl (List.map eGSlot' v.Slots) .no) :: (run 13 (s0 Tryz.prog 6 [AV.agg (eGValue v)] ⟨[], [], []⟩)).env) 2 5 8 (run 13 (s0 Tryz.prog 6 [AV.agg (eGValue v)] ⟨[], [], []⟩)).h ⟨((run 13 (s0 Tryz.prog 6 [AV.agg (eGValue v)] ⟨[], [], []⟩)).h).blks ++ [some (cellsOf nGPair.f v.Pairs)], ((run 13 (s0 Tryz.prog 6 [AV.agg (eGValue v)] ⟨[], [], []⟩)).h).bufs, ((run 13 (s0 Tryz.prog 6 [AV.agg (eGValue v)] ⟨[], [], []⟩)).h).globs⟩ ⟨(⟨((run 13 (s0 Tryz.prog 6 [AV.agg (eGValue v)] ⟨[], [], []⟩)).h).blks ++ [some (cellsOf nGPair.f v.Pairs)], ((run 13 (s0 Tryz.prog 6 [AV.agg (eGValue v)] ⟨[], [], []⟩)).h).bufs, ((run 13 (s0 Tryz.prog 6 [AV.agg (eGValue v)] ⟨[], [], []⟩)).h).globs⟩ : AHeap).blks ++ [some (cellsOf nGSlot.f v.Slots)], (⟨((run 13 (s0 Tryz.prog 6 [AV.agg (eGValue v)] ⟨[], [], []⟩)).h).blks ++ [some (cellsOf nGPair.f v.Pairs)], ((run 13 (s0 Tryz.prog 6 [AV.agg (eGValue v)] ⟨[], [], []⟩)).h).bufs, ((run 13 (s0 Tryz.prog 6 [AV.agg (eGValue v)] ⟨[], [], []⟩)).h).globs⟩ : AHeap).bufs, (⟨((run 13 (s0 Tryz.prog 6 [AV.agg (eGValue v)] ⟨[], [], []⟩)).h).blks ++ [some (cellsOf nGPair.f v.Pairs)], ((run 13 (s0 Tryz.prog 6 [AV.agg (eGValue v)] ⟨[], [], []⟩)).h).bufs, ((run 13 (s0 Tryz.prog 6 [AV.agg (eGValue v)] ⟨[], [], []⟩)).h).globs⟩ : AHeap).globs⟩ (dC0 (hw.1 a).1 pl15) (dNw nGPair b ((hw.1 a).2.2 b).1) (dNw nGSlot c (((hw.1 a).2.2 b).2.2 c).1)<|KL 12 nGValue ([] : List GValue)<|KJ 5 [] (((hw.1 a).2.2 b).2.2 c).2) fun a=>vemp v.Pairs (fun b=>vemp v.Slots (fun c=>KDw 13 ((12, (.row 2 0 7 v.List_.length v.List_.length)) :: (15, (.sl (List.map eGPair' ([] : List (GValue × GValue))) .no)) :: (18, (.sl (List.map eGSlot' ([] : List (Int × GValue))) .no)) :: (10, .ptr 0 3) :: (11, .sl (List.map eGValue' v.List_) .no) :: (13, .ptr 0 4) :: (14, .sl (List.map eGPair' v.Pairs) .no) :: (16, .ptr 0 5) :: (19, .ptr 0 3) :: (17, .sl (List.map eGSlot' v.Slots) .no) :: (run 13 (s0 Tryz.prog 6 [AV.agg (eGValue v)] ⟨[], [], []⟩)).env) 2 5 8 ⟨((run 13 (s0 Tryz.prog 6 [AV.agg (eGValue v)] ⟨[], [], []⟩)).h).blks ++ [some (cellsOf nGValue.f v.List_)], ((run 13 (s0 Tryz.prog 6 [AV.agg (eGValue v)] ⟨[], [], []⟩)).h).bufs, ((run 13 (s0 Tryz.prog 6 [AV.agg (eGValue v)] ⟨[], [], []⟩)).h).globs⟩ ⟨((run 13 (s0 Tryz.prog 6 [AV.agg (eGValue v)] ⟨[], [], []⟩)).h).blks ++ [some (cellsOf nGValue.f v.List_)], ((run 13 (s0 Tryz.prog 6 [AV.agg (eGValue v)] ⟨[], [], []⟩)).h).bufs, ((run 13 (s0 Tryz.prog 6 [AV.agg (eGValue v)] ⟨[], [], []⟩)).h).globs⟩ ⟨((run 13 (s0 Tryz.prog 6 [AV.agg (eGValue v)] ⟨[], [], []⟩)).h).blks ++ [some (cellsOf nGValue.f v.List_)], ((run 13 (s0 Tryz.prog 6 [AV.agg (eGValue v)] ⟨[], [], []⟩)).h).bufs, ((run 13 (s0 Tryz.prog 6 [AV.agg (eGValue v)] ⟨[], [], []⟩)).h).globs⟩ (dNw nGValue a (hw.2 a).1) (dC0 ((hw.2 a).2.1 b).1 pl16) (dC0 (((hw.2 a).2.1 b).2.1 c).1 pl17)<|KJ 18 [] (((hw.2 a).2.1 b).2.1 c).2) fun c=>KDw 13 ((12, (.row 2 0 7 v.List_.length v.List_.length)) :: (15, (.sl (List.map eGPair' ([] : List (GValue × GValue))) .no)) :: (18, (.row 3 0 8 v.Slots.length v.Slots.length)) :: (10, .ptr 0 3) :: (11, .sl (List.map eGValue' v.List_) .no) :: (13, .ptr 0 4) :: (14, .sl (List.map eGPair' v.Pairs) .no) :: (16, .ptr 0 5) :: (19, .ptr 0 3) :: (17, .sl (List.map eGSlot' v.Slots) .no) :: (run 13 (s0 Tryz.prog 6 [AV.agg (eGValue v)] ⟨[], [], []⟩)).env) 2 5 8 ⟨((run 13 (s0 Tryz.prog 6 [AV.agg (eGValue v)] ⟨[], [], []⟩)).h).blks ++ [some (cellsOf nGValue.f v.List_)], ((run 13 (s0 Tryz.prog 6 [AV.agg (eGValue v)] ⟨[], [], []⟩)).h).bufs, ((run 13 (s0 Tryz.prog 6 [AV.agg (eGValue v)] ⟨[], [], []⟩)).h).globs⟩ ⟨((run 13 (s0 Tryz.prog 6 [AV.agg (eGValue v)] ⟨[], [], []⟩)).h).blks ++ [some (cellsOf nGValue.f v.List_)], ((run 13 (s0 Tryz.prog 6 [AV.agg (eGValue v)] ⟨[], [], []⟩)).h).bufs, ((run 13 (s0 Tryz.prog 6 [AV.agg (eGValue v)] ⟨[], [], []⟩)).h).globs⟩ ⟨(⟨((run 13 (s0 Tryz.prog 6 [AV.agg (eGValue v)] ⟨[], [], []⟩)).h).blks ++ [some (cellsOf nGValue.f v.List_)], ((run 13 (s0 Tryz.prog 6 [AV.agg (eGValue v)] ⟨[], [], []⟩)).h).bufs, ((run 13 (s0 Tryz.prog 6 [AV.agg (eGValue v)] ⟨[], [], []⟩)).h).globs⟩ : AHeap).blks ++ [some (cellsOf nGSlot.f v.Slots)], (⟨((run 13 (s0 Tryz.prog 6 [AV.agg (eGValue v)] ⟨[], [], []⟩)).h).blks ++ [some (cellsOf nGValue.f v.List_)], ((run 13 (s0 Tryz.prog 6 [AV.agg (eGValue v)] ⟨[], [], []⟩)).h).bufs, ((run 13 (s0 Tryz.prog 6 [AV.agg (eGValue v)] ⟨[], [], []⟩)).h).globs⟩ : AHeap).bufs, (⟨((run 13 (s0 Tryz.prog 6 [AV.agg (eGValue v)] ⟨[], [], []⟩)).h).blks ++ [some (cellsOf nGValue.f v.List_)], ((run 13 (s0 Tryz.prog 6 [AV.agg (eGValue v)] ⟨[], [], []⟩)).h).bufs, ((run 13 (s0 Tryz.prog 6 [AV.agg (eGValue v)] ⟨[], [], []⟩)).h).globs⟩ : AHeap).globs⟩ (dNw nGValue a (hw.2 a).1) (dC0 ((hw.2 a).2.1 b).1 pl16) (dNw nGSlot c (((hw.2 a).2.1 b).2.2 c).1)<|KJ 18 [] (((hw.2 a).2.1 b).2.2 c).2) fun b=>vemp v.Slots (fun c=>KDw 13 ((12, (.row 2 0 7 v.List_.length v.List_.length)) :: (15, (.row 3 0 14 v.Pairs.length v.Pairs.length)) :: (18, (.sl (List.map eGSlot' ([] : List (Int × GValue))) .no)) :: (10, .ptr 0 3) :: (11, .sl (List.map eGValue' v.List_) .no) :: (13, .ptr 0 4) :: (14, .sl (List.map eGPair' v.Pairs) .no) :: (16, .ptr 0 5) :: (19, .ptr 0 3) :: (17, .sl (List.map eGSlot' v.Slots) .no) :: (run 13 (s0 Tryz.prog 6 [AV.agg (eGValue v)] ⟨[], [], []⟩)).env) 2 5 8 ⟨((run 13 (s0 Tryz.prog 6 [AV.agg (eGValue v)] ⟨[], [], []⟩)).h).blks ++ [some (cellsOf nGValue.f v.List_)], ((run 13 (s0 Tryz.prog 6 [AV.agg (eGValue v)] ⟨[], [], []⟩)).h).bufs, ((run 13 (s0 Tryz.prog 6 [AV.agg (eGValue v)] ⟨[], [], []⟩)).h).globs⟩ ⟨(⟨((run 13 (s0 Tryz.prog 6 [AV.agg (eGValue v)] ⟨[], [], []⟩)).h).blks ++ [some (cellsOf nGValue.f v.List_)], ((run 13 (s0 Tryz.prog 6 [AV.agg (eGValue v)] ⟨[], [], []⟩)).h).bufs, ((run 13 (s0 Tryz.prog 6 [AV.agg (eGValue v)] ⟨[], [], []⟩)).h).globs⟩ : AHeap).blks ++ [some (cellsOf nGPair.f v.Pairs)], (⟨((run 13 (s0 Tryz.prog 6 [AV.agg (eGValue v)] ⟨[], [], []⟩)).h).blks ++ [some (cellsOf nGValue.f v.List_)], ((run 13 (s0 Tryz.prog 6 [AV.agg (eGValue v)] ⟨[], [], []⟩)).h).bufs, ((run 13 (s0 Tryz.prog 6 [AV.agg (eGValue v)] ⟨[], [], []⟩)).h).globs⟩ : AHeap).bufs, (⟨((run 13 (s0 Tryz.prog 6 [AV.agg (eGValue v)] ⟨[], [], []⟩)).h).blks ++ [some (cellsOf nGValue.f v.List_)], ((run 13 (s0 Tryz.prog 6 [AV.agg (eGValue v)] ⟨[], [], []⟩)).h).bufs, ((run 13 (s0 Tryz.prog 6 [AV.agg (eGValue v)] ⟨[], [], []⟩)).h).globs⟩ : AHeap).globs⟩ ⟨(⟨((run 13 (s0 Tryz.prog 6 [AV.agg (eGValue v)] ⟨[], [], []⟩)).h).blks ++ [some (cellsOf nGValue.f v.List_)], ((run 13 (s0 Tryz.prog 6 [AV.agg (eGValue v)] ⟨[], [], []⟩)).h).bufs, ((run 13 (s0 Tryz.prog 6 [AV.agg (eGValue v)] ⟨[], [], []⟩)).h).globs⟩ : AHeap).blks ++ [some (cellsOf nGPair.f v.Pairs)], (⟨((run 13 (s0 Tryz.prog 6 [AV.agg (eGValue v)] ⟨[], [], []⟩)).h).blks ++ [some (cellsOf nGValue.f v.List_)], ((run 13 (s0 Tryz.prog 6 [AV.agg (eGValue v)] ⟨[], [], []⟩)).h).bufs, ((run 13 (s0 Tryz.prog 6 [AV.agg (eGValue v)] ⟨[], [], []⟩)).h).globs⟩ : AHeap).bufs, (⟨((run 13 (s0 Tryz.prog 6 [AV.agg (eGValue v)] ⟨[], [], []⟩)).h).blks ++ [some (cellsOf nGValue.f v.List_)], ((run 13 (s0 Tryz.prog 6 [AV.agg (eGValue v)] ⟨[], [], []⟩)).h).bufs, ((run 13 (s0 Tryz.prog 6 [AV.agg (eGValue v)] ⟨[], [], []⟩)).h).globs⟩ : AHeap).globs⟩ (dNw nGValue a (hw.2 a).1) (dNw nGPair b ((hw.2 a).2.2 b).1) (dC0 (((hw.2 a).2.2 b).2.1 c).1 pl17)<|KJ 18 [] (((hw.2 a).2.2 b).2.1 c).2) fun c=>KDw 13 ((12, (.row 2 0 7 v.List_.length v.List_.length)) :: (15, (.row 3 0 14 v.Pairs.length v.Pairs.length)) :: (18, (.row 4 0 8 v.Slots.length v.Slots.length)) :: (10, .ptr 0 3) :: (11, .sl (List.map eGValue' v.List_) .no) :: (13, .ptr 0 4) :: (14, .sl (List.map eGPair' v.Pairs) .no) :: (16, .ptr 0 5) :: (19, .ptr 0 3) :: (17, .sl (List.map eGSlot' v.Slots) .no) :: (run 13 (s0 Tryz.prog 6 [AV.agg (eGValue v)] ⟨[], [], []⟩)).env) 2 5 8 ⟨((run 13 (s0 Tryz.prog 6 [AV.agg (eGValue v)] ⟨[], [], []⟩)).h).blks ++ [some (cellsOf nGValue.f v.List_)], ((run 13 (s0 Tryz.prog 6 [AV.agg (eGValue v)] ⟨[], [], []⟩)).h).bufs, ((run 13 (s0 Tryz.prog 6 [AV.agg (eGValue v)] ⟨[], [], []⟩)).h).globs⟩ ⟨(⟨((run 13 (s0 Tryz.prog 6 [AV.agg (eGValue v)] ⟨[], [], []⟩)).h).blks ++ [some (cellsOf nGValue.f v.List_)], ((run 13 (s0 Tryz.prog 6 [AV.agg (eGValue v)] ⟨[], [], []⟩)).h).bufs, ((run 13 (s0 Tryz.prog 6 [AV.agg (eGValue v)] ⟨[], [], []⟩)).h).globs⟩ : AHeap).blks ++ [some (cellsOf nGPair.f v.Pairs)], (⟨((run 13 (s0 Tryz.prog 6 [AV.agg (eGValue v)] ⟨[], [], []⟩)).h).blks ++ [some (cellsOf nGValue.f v.List_)], ((run 13 (s0 Tryz.prog 6 [AV.agg (eGValue v)] ⟨[], [], []⟩)).h).bufs, ((run 13 (s0 Tryz.prog 6 [AV.agg (eGValue v)] ⟨[], [], []⟩)).h).globs⟩ : AHeap).bufs, (⟨((run 13 (s0 Tryz.prog 6 [AV.agg (eGValue v)] ⟨[], [], []⟩)).h).blks ++ [some (cellsOf nGValue.f v.List_)], ((run 13 (s0 Tryz.prog 6 [AV.agg (eGValue v)] ⟨[], [], []⟩)).h).bufs, ((run 13 (s0 Tryz.prog 6 [AV.agg (eGValue v)] ⟨[], [], []⟩)).h).globs⟩ : AHeap).globs⟩ ⟨(⟨(⟨((run 13 (s0 Tryz.prog 6 [AV.agg (eGValue v)] ⟨[], [], []⟩)).h).blks ++ [some (cellsOf nGValue.f v.List_)], ((run 13 (s0 Tryz.prog 6 [AV.agg (eGValue v)] ⟨[], [], []⟩)).h).bufs, ((run 13 (s0 Tryz.prog 6 [AV.agg (eGValue v)] ⟨[], [], []⟩)).h).globs⟩ : AHeap).blks ++ [some (cellsOf nGPair.f v.Pairs)], (⟨((run 13 (s0 Tryz.prog 6 [AV.agg (eGValue v)] ⟨[], [], []⟩)).h).blks ++ [some (cellsOf nGValue.f v.List_)], ((run 13 (s0 Tryz.prog 6 [AV.agg (eGValue v)] ⟨[], [], []⟩)).h).bufs, ((run 13 (s0 Tryz.prog 6 [AV.agg (eGValue v)] ⟨[], [], []⟩)).h).globs⟩ : AHeap).bufs, (⟨((run 13 (s0 Tryz.prog 6 [AV.agg (eGValue v)] ⟨[], [], []⟩)).h).blks ++ [some (cellsOf nGValue.f v.List_)], ((run 13 (s0 Tryz.prog 6 [AV.agg (eGValue v)] ⟨[], [], []⟩)).h).bufs, ((run 13 (s0 Tryz.prog 6 [AV.agg (eGValue v)] ⟨[], [], []⟩)).h).globs⟩ : AHeap).globs⟩ : AHeap).blks ++ [some (cellsOf nGSlot.f v.Slots)], (⟨(⟨((run 13 (s0 Tryz.prog 6 [AV.agg (eGValue v)] ⟨[], [], []⟩)).h).blks ++ [some (cellsOf nGValue.f v.List_)], ((run 13 (s0 Tryz.prog 6 [AV.agg (eGValue v)] ⟨[], [], []⟩)).h).bufs, ((run 13 (s0 Tryz.prog 6 [AV.agg (eGValue v)] ⟨[], [], []⟩)).h).globs⟩ : AHeap).blks ++ [some (cellsOf nGPair.f v.Pairs)], (⟨((run 13 (s0 Tryz.prog 6 [AV.agg (eGValue v)] ⟨[], [], []⟩)).h).blks ++ [some (cellsOf nGValue.f v.List_)], ((run 13 (s0 Tryz.prog 6 [AV.agg (eGValue v)] ⟨[], [], []⟩)).h).bufs, ((run 13 (s0 Tryz.prog 6 [AV.agg (eGValue v)] ⟨[], [], []⟩)).h).globs⟩ : AHeap).bufs, (⟨((run 13 (s0 Tryz.prog 6 [AV.agg (eGValue v)] ⟨[], [], []⟩)).h).blks ++ [some (cellsOf nGValue.f v.List_)], ((run 13 (s0 Tryz.prog 6 [AV.agg (eGValue v)] ⟨[], [], []⟩)).h).bufs, ((run 13 (s0 Tryz.prog 6 [AV.agg (eGValue v)] ⟨[], [], []⟩)).h).globs⟩ : AHeap).globs⟩ : AHeap).bufs, (⟨(⟨((run 13 (s0 Tryz.prog 6 [AV.agg (eGValue v)] ⟨[], [], []⟩)).h).blks ++ [some (cellsOf nGValue.f v.List_)], ((run 13 (s0 Tryz.prog 6 [AV.agg (eGValue v)] ⟨[], [], []⟩)).h).bufs, ((run 13 (s0 Tryz.prog 6 [AV.agg (eGValue v)] ⟨[], [], []⟩)).h).globs⟩ : AHeap).blks ++ [some (cellsOf nGPair.f v.Pairs)], (⟨((run 13 (s0 Tryz.prog 6 [AV.agg (eGValue v)] ⟨[], [], []⟩)).h).blks ++ [some (cellsOf nGValue.f v.List_)], ((run 13 (s0 Tryz.prog 6 [AV.agg (eGValue v)] ⟨[], [], []⟩)).h).bufs, ((run 13 (s0 Tryz.prog 6 [AV.agg (eGValue v)] ⟨[], [], []⟩)).h).globs⟩ : AHeap).bufs, (⟨((run 13 (s0 Tryz.prog 6 [AV.agg (eGValue v)] ⟨[], [], []⟩)).h).blks ++ [some (cellsOf nGValue.f v.List_)], ((run 13 (s0 Tryz.prog 6 [AV.agg (eGValue v)] ⟨[], [], []⟩)).h).bufs, ((run 13 (s0 Tryz.prog 6 [AV.agg (eGValue v)] ⟨[], [], []⟩)).h).globs⟩ : AHeap).globs⟩ : AHeap).globs⟩ (dNw nGValue a (hw.2 a).1) (dNw nGPair b ((hw.2 a).2.2 b).1) (dNw nGSlot c (((hw.2 a).2.2 b).2.2 c).1)<|KJ 18 [] (((hw.2 a).2.2 b).2.2 c).2)
theorem plr7 (r : Bool) : plain (e7 r) = true := rfl
def ref17_Same_j30 (ij15 : Int) (a : GValue) (b : GValue) (r : Bool) : Prop := J Tryz.prog 7 (.ret (e7 r)) 30 [(8, aI ij15), (3, .ptr 1 0), (2, .ptr 0 0)] ⟨[some (eGValue a), some (eGValue b)], [], []⟩
def ref17_Same_j28 (ij14 : Int) (a : GValue) (b : GValue) (r : Bool) : Prop := J Tryz.prog 7 (.ret (e7 r)) 22 [(7, aI ij14), (3, .ptr 1 0), (2, .ptr 0 0)] ⟨[some (eGValue a), some (eGValue b)], [], []⟩
def ref17_Same_j24 (ij12 : Int) (a : GValue) (b : GValue) (r : Bool) : Prop := J Tryz.prog 7 (.ret (e7 r)) 14 [(6, aI ij12), (3, .ptr 1 0), (2, .ptr 0 0)] ⟨[some (eGValue a), some (eGValue b)], [], []⟩
def ref17_Same_j16 (ij8 : Int) (a : GValue) (b : GValue) (r : Bool) : Prop := J Tryz.prog 7 (.ret (e7 r)) 6 [(5, aI ij8), (3, .ptr 1 0), (2, .ptr 0 0)] ⟨[some (eGValue a), some (eGValue b)], [], []⟩
theorem ref17_Same_j30_step (ij15 : Int) (a : GValue) (b : GValue) (r : Bool) (hw : ((decide (ij15 < (a.Raws.length : Int))) = true -> ∃ y87, a.Raws[ij15.toNat]? = some y87 /\ 0 <= ij15 /\ (∃ y88, b.Raws[ij15.toNat]? = some y88 /\ 0 <= ij15 /\ (((!(y87.Num == y88.Num && (y87.Wire == y88.Wire && (y87.Bits == y88.Bits && (y87.Data == y88.Data && true))))) = true -> r = false) /\ ((!(y87.Num == y88.Num && (y87.Wire == y88.Wire && (y87.Bits == y88.Bits && (y87.Data == y88.Data && true))))) = false -> ref17_Same_j30 (wI (ij15 + 1)) a b r)))) /\ ((decide (ij15 < (a.Raws.length : Int))) = false -> r = true)) : ref17_Same_j30 ij15 a b r :=
 KL 7 nGRaw a.Raws<|KW 3 hw (fun _ hw=>KD 5 [0, 1]<|KI 3 nGRaw hw fun _ hw=>KI 4 nGRaw hw fun _ hw=>KW 5 hw (fun _ hw=>KR 11 hw plr7) fun _ hw=>KJ 9 [] hw) fun _ hw=>KR 11 hw plr7
theorem ref17_Same_j28_step (ij14 : Int) (a : GValue) (b : GValue) (r : Bool) (hw : ((decide (ij14 < (a.Slots.length : Int))) = true -> ∃ y89, a.Slots[ij14.toNat]? = some y89 /\ 0 <= ij14 /\ (∃ y90, b.Slots[ij14.toNat]? = some y90 /\ 0 <= ij14 /\ (((y89.1 != y90.1) = true -> r = false) /\ ((y89.1 != y90.1) = false -> ∃ y91, a.Slots[ij14.toNat]? = some y91 /\ 0 <= ij14 /\ (∃ y92, b.Slots[ij14.toNat]? = some y92 /\ 0 <= ij14 /\ (∃ y93, ref17_Same y91.2 y92.2 y93 /\ (((!y93) = true -> r = false) /\ ((!y93) = false -> ref17_Same_j28 (wI (ij14 + 1)) a b r)))))))) /\ ((decide (ij14 < (a.Slots.length : Int))) = false -> ref17_Same_j30 0 a b r)) : ref17_Same_j28 ij14 a b r :=
 KL 7 nGSlot a.Slots<|KW 3 hw (fun _ hw=>KD 5 [0, 1]<|KI 3 nGSlot hw fun _ hw=>KI 5 nGSlot hw fun _ hw=>KW 4 hw (fun _ hw=>KR 30 hw plr7) fun _ hw=>KI 3 nGSlot hw fun _ hw=>KI 5 nGSlot hw fun _ hw=>KC 3 hw pl7 fun _ hw=>KW 4 hw (fun _ hw=>KR 11 hw plr7) fun _ hw=>KJ 9 [] hw) fun _ hw=>KJ 13 [] hw
theorem ref17_Same_j24_step (ij12 : Int) (a : GValue) (b : GValue) (r : Bool) (hw : ((decide (ij12 < (a.Pairs.length : Int))) = true -> ∃ y94, a.Pairs[ij12.toNat]? = some y94 /\ 0 <= ij12 /\ (∃ y95, b.Pairs[ij12.toNat]? = some y95 /\ 0 <= ij12 /\ (∃ y96, ref17_Same y94.1 y95.1 y96 /\ (((!y96) = true -> r = false) /\ ((!y96) = false -> ∃ y97, a.Pairs[ij12.toNat]? = some y97 /\ 0 <= ij12 /\ (∃ y98, b.Pairs[ij12.toNat]? = some y98 /\ 0 <= ij12 /\ (∃ y99, ref17_Same y97.2 y98.2 y99 /\ (((!y99) = true -> r = false) /\ ((!y99) = false -> ref17_Same_j24 (wI (ij12 + 1)) a b r))))))))) /\ ((decide (ij12 < (a.Pairs.length : Int))) = false -> ref17_Same_j28 0 a b r)) : ref17_Same_j24 ij12 a b r :=
 KL 7 nGPair a.Pairs<|KW 3 hw (fun _ hw=>KD 5 [0, 1]<|KI 3 nGPair hw fun _ hw=>KI 5 nGPair hw fun _ hw=>KC 2 hw pl7 fun _ hw=>KW 2 hw (fun _ hw=>KR 30 hw plr7) fun _ hw=>KI 3 nGPair hw fun _ hw=>KI 5 nGPair hw fun _ hw=>KC 3 hw pl7 fun _ hw=>KW 4 hw (fun _ hw=>KR 11 hw plr7) fun _ hw=>KJ 9 [] hw) fun _ hw=>KJ 13 [] hw
theorem ref17_Same_j16_step (ij8 : Int) (a : GValue) (b : GValue) (r : Bool) (hw : ((decide (ij8 < (a.List_.length : Int))) = true -> ∃ y100, a.List_[ij8.toNat]? = some y100 /\ 0 <= ij8 /\ (∃ y101, b.List_[ij8.toNat]? = some y101 /\ 0 <= ij8 /\ (∃ y102, ref17_Same y100 y101 y102 /\ (((!y102) = true -> r = false) /\ ((!y102) = false -> ref17_Same_j16 (wI (ij8 + 1)) a b r))))) /\ ((decide (ij8 < (a.List_.length : Int))) = false -> ref17_Same_j24 0 a b r)) : ref17_Same_j16 ij8 a b r :=
 KL 7 nGValue a.List_<|KW 3 hw (fun _ hw=>KD 5 [0, 1]<|KI 3 nGValue hw fun _ hw=>KI 4 nGValue hw fun _ hw=>KC 2 hw pl7 fun _ hw=>KW 3 hw (fun _ hw=>KR 11 hw plr7) fun _ hw=>KJ 9 [] hw) fun _ hw=>KJ 13 [] hw
theorem ref17_Same_step (a : GValue) (b : GValue) (r : Bool) (hw : ((((((((a.Kind != b.Kind) || (a.Bits != b.Bits)) || (!(decide (a.Text = b.Text)))) || ((a.List_.length : Int) != (b.List_.length : Int))) || ((a.Pairs.length : Int) != (b.Pairs.length : Int))) || ((a.Slots.length : Int) != (b.Slots.length : Int))) || ((a.Raws.length : Int) != (b.Raws.length : Int))) = true -> r = false) /\ ((((((((a.Kind != b.Kind) || (a.Bits != b.Bits)) || (!(decide (a.Text = b.Text)))) || ((a.List_.length : Int) != (b.List_.length : Int))) || ((a.Pairs.length : Int) != (b.Pairs.length : Int))) || ((a.Slots.length : Int) != (b.Slots.length : Int))) || ((a.Raws.length : Int) != (b.Raws.length : Int))) = false -> ref17_Same_j16 0 a b r)) : ref17_Same a b r :=
 fP (KT 16 6<|KT 1 6<|KT2 1 8 (((a.Kind != b.Kind) || (a.Bits != b.Bits)) || (!(decide (a.Text = b.Text)))) (fun z=>aB (z || ((a.List_.length : Int) != (b.List_.length : Int)))) (fun _ key=>KE2 8 key) (fun _ key=>KL 2 nGValue a.List_<|KL 2 nGValue b.List_<|KE2 2 key)<|KT2 1 8 ((((a.Kind != b.Kind) || (a.Bits != b.Bits)) || (!(decide (a.Text = b.Text)))) || ((a.List_.length : Int) != (b.List_.length : Int))) (fun z=>aB (z || ((a.Pairs.length : Int) != (b.Pairs.length : Int)))) (fun _ key=>KE2 8 key) (fun _ key=>KL 2 nGPair a.Pairs<|KL 2 nGPair b.Pairs<|KE2 2 key)<|KT2 1 8 (((((a.Kind != b.Kind) || (a.Bits != b.Bits)) || (!(decide (a.Text = b.Text)))) || ((a.List_.length : Int) != (b.List_.length : Int))) || ((a.Pairs.length : Int) != (b.Pairs.length : Int))) (fun z=>aB (z || ((a.Slots.length : Int) != (b.Slots.length : Int)))) (fun _ key=>KE2 8 key) (fun _ key=>KL 2 nGSlot a.Slots<|KL 2 nGSlot b.Slots<|KE2 2 key)<|KT2 1 8 ((((((a.Kind != b.Kind) || (a.Bits != b.Bits)) || (!(decide (a.Text = b.Text)))) || ((a.List_.length : Int) != (b.List_.length : Int))) || ((a.Pairs.length : Int) != (b.Pairs.length : Int))) || ((a.Slots.length : Int) != (b.Slots.length : Int))) (fun z=>aB (z || ((a.Raws.length : Int) != (b.Raws.length : Int)))) (fun _ key=>KE2 8 key) (fun _ key=>KL 2 nGRaw a.Raws<|KL 2 nGRaw b.Raws<|KE2 2 key)<|KW 2 hw (fun _ hw=>KR 7 hw plr7) fun _ hw=>KJ 10 [] hw)
theorem plr8 (r : GValue) : plain (e8 r) = true := (pl_GValue r)
def ref34_Lose_j14 (ij13 : Int) (v : GValue) (lj8 : (List GValue)) (lj12 : (List (GValue × GValue))) (lj14 : (List (Int × GValue))) (r : GValue) : Prop := J Tryz.prog 8 (.ret (e8 r)) 16 [(6, aI ij13), (3, .ptr 2 0), (2, .ptr 1 0), (1, .ptr 0 0)] ⟨[some (eGValue v), some zV, some [aI v.Kind, aU v.Bits, aS v.Text, .sl (List.map eGValue' lj8) (.own 0), .sl (List.map eGPair' lj12) (.own 1), .sl (List.map eGSlot' lj14) (.own 2), .nil]], [(lj8.length, 7), (lj12.length, 14), (lj14.length, 8)], []⟩
def ref34_Lose_j12 (ij11 : Int) (v : GValue) (lj8 : (List GValue)) (lj12 : (List (GValue × GValue))) (r : GValue) : Prop := J Tryz.prog 8 (.ret (e8 r)) 10 [(5, aI ij11), (3, .ptr 2 0), (2, .ptr 1 0), (1, .ptr 0 0)] ⟨[some (eGValue v), some zV, some [aI v.Kind, aU v.Bits, aS v.Text, .sl (List.map eGValue' lj8) (.own 0), .sl (List.map eGPair' lj12) (.own 1), .nil, .nil]], [(lj8.length, 7), (lj12.length, 14)], []⟩
def ref34_Lose_j8 (ij7 : Int) (v : GValue) (lj8 : (List GValue)) (r : GValue) : Prop := J Tryz.prog 8 (.ret (e8 r)) 4 [(4, aI ij7), (3, .ptr 2 0), (2, .ptr 1 0), (1, .ptr 0 0)] ⟨[some (eGValue v), some zV, some [aI v.Kind, aU v.Bits, aS v.Text, .sl (List.map eGValue' lj8) (.own 0), .nil, .nil, .nil]], [(lj8.length, 7)], []⟩
theorem ref34_Lose_j14_step (ij13 : Int) (v : GValue) (lj8 : (List GValue)) (lj12 : (List (GValue × GValue))) (lj14 : (List (Int × GValue))) (r : GValue) (hw : ((decide (ij13 < (v.Slots.length : Int))) = true -> ∃ y36, v.Slots[ij13.toNat]? = some y36 /\ 0 <= ij13 /\ (∃ y37, v.Slots[ij13.toNat]? = some y37 /\ 0 <= ij13 /\ (∃ y38, ref34_Lose y37.2 y38 /\ ((lj14.length + [(y36.1, y38)].length) * 136 <= 140737488355328 /\ (ref34_Lose_j14 (wI (ij13 + 1)) v lj8 lj12 (lj14 ++ [(y36.1, y38)]) r))))) /\ ((decide (ij13 < (v.Slots.length : Int))) = false -> r = (⟨v.Kind, v.Bits, v.Text, lj8, lj12, lj14, ([] : (List GRaw))⟩ : GValue))) : ref34_Lose_j14 ij13 v lj8 lj12 lj14 r :=
 KL 7 nGSlot v.Slots<|KW 3 hw (fun _ hw=>KD 4 [0, 2]<|KI 5 nGSlot hw fun _ hw=>KI 5 nGSlot hw fun _ hw=>KC 2 hw pl8 fun _ hw=>KA 3 nGSlot hw mE fun hw=>KJ 11 [] hw) fun _ hw=>KR 12 hw plr8
theorem ref34_Lose_j12_step (ij11 : Int) (v : GValue) (lj8 : (List GValue)) (lj12 : (List (GValue × GValue))) (r : GValue) (hw : ((decide (ij11 < (v.Pairs.length : Int))) = true -> ∃ y39, v.Pairs[ij11.toNat]? = some y39 /\ 0 <= ij11 /\ (∃ y40, ref34_Lose y39.1 y40 /\ (∃ y41, v.Pairs[ij11.toNat]? = some y41 /\ 0 <= ij11 /\ (∃ y42, ref34_Lose y41.2 y42 /\ ((lj12.length + [(y40, y42)].length) * 256 <= 140737488355328 /\ (ref34_Lose_j12 (wI (ij11 + 1)) v lj8 (lj12 ++ [(y40, y42)]) r)))))) /\ ((decide (ij11 < (v.Pairs.length : Int))) = false -> ref34_Lose_j14 0 v lj8 lj12 ([] : List (Int × GValue)) r)) : ref34_Lose_j12 ij11 v lj8 lj12 r :=
 KL 7 nGPair v.Pairs<|KW 3 hw (fun _ hw=>KD 4 [0, 2]<|KI 5 nGPair hw fun _ hw=>KC 2 hw pl8 fun _ hw=>KI 3 nGPair hw fun _ hw=>KC 2 hw pl8 fun _ hw=>KA 3 nGPair hw mE fun hw=>KJ 11 [] hw) fun _ hw=>KOb 13 2 5 8<|KJ 0 [] hw
theorem ref34_Lose_j8_step (ij7 : Int) (v : GValue) (lj8 : (List GValue)) (r : GValue) (hw : ((decide (ij7 < (v.List_.length : Int))) = true -> ∃ y43, v.List_[ij7.toNat]? = some y43 /\ 0 <= ij7 /\ (∃ y44, ref34_Lose y43 y44 /\ ((lj8.length + [y44].length) * 128 <= 140737488355328 /\ (ref34_Lose_j8 (wI (ij7 + 1)) v (lj8 ++ [y44]) r)))) /\ ((decide (ij7 < (v.List_.length : Int))) = false -> ref34_Lose_j12 0 v lj8 ([] : List (GValue × GValue)) r)) : ref34_Lose_j8 ij7 v lj8 r :=
 KL 7 nGValue v.List_<|KW 3 hw (fun _ hw=>KD 4 [0, 2]<|KI 5 nGValue hw fun _ hw=>KC 1 hw pl8 fun _ hw=>KA 2 nGValue hw mE fun hw=>KJ 11 [] hw) fun _ hw=>KOb 13 2 4 14<|KJ 0 [] hw
theorem ref34_Lose_step (v : GValue) (r : GValue) (hw : ref34_Lose_j8 0 v ([] : List GValue) r) : ref34_Lose v r :=
 fP (KOb 27 2 3 7<|KJ 0 [] hw)
theorem plr9 (r : Int) : plain (e9 r) = true := rfl
def ref18_count_j30 (ij28 : Int) (ij29 : Int) (level : Int) (v : GValue) (r : Int) : Prop := J Tryz.prog 9 (.ret (e9 r)) 30 [(10, aI ij28), (2, aI ij29), (3, .ptr 0 0), (1, aI level)] ⟨[some (eGValue v)], [], []⟩
def ref18_count_j28 (ij26 : Int) (ij27 : Int) (level : Int) (v : GValue) (r : Int) : Prop := J Tryz.prog 9 (.ret (e9 r)) 22 [(9, aI ij26), (2, aI ij27), (3, .ptr 0 0), (1, aI level)] ⟨[some (eGValue v)], [], []⟩
def ref18_count_j24 (ij22 : Int) (ij23 : Int) (level : Int) (v : GValue) (r : Int) : Prop := J Tryz.prog 9 (.ret (e9 r)) 16 [(8, aI ij22), (2, aI ij23), (3, .ptr 0 0), (1, aI level)] ⟨[some (eGValue v)], [], []⟩
def ref18_count_j16 (ij15 : Int) (left : Int) (v : GValue) (level : Int) (r : Int) : Prop := J Tryz.prog 9 (.ret (e9 r)) 8 [(7, aI ij15), (2, aI (wI ((wI (left - 1)) - (v.Raws.length : Int)))), (3, .ptr 0 0), (1, aI level)] ⟨[some (eGValue v)], [], []⟩
theorem ref18_count_j30_step (ij28 : Int) (ij29 : Int) (level : Int) (v : GValue) (r : Int) (hw : (((decide (ij28 < (v.Slots.length : Int))) && (decide (0 <= ij29))) = true -> ∃ y66, v.Slots[ij28.toNat]? = some y66 /\ 0 <= ij28 /\ (∃ y67, ref18_count y66.2 (wI (level + 1)) ij29 y67 /\ (ref18_count_j30 (wI (ij28 + 1)) y67 level v r))) /\ (((decide (ij28 < (v.Slots.length : Int))) && (decide (0 <= ij29))) = false -> r = ij29)) : ref18_count_j30 ij28 ij29 level v r :=
 KL 7 nGSlot v.Slots<|KT 2 3<|KW 2 hw (fun _ hw=>KI 8 nGSlot hw fun _ hw=>KC 5 hw pl9 fun _ hw=>KJ 10 [] hw) fun _ hw=>KR 12 hw plr9
theorem ref18_count_j28_step (ij26 : Int) (ij27 : Int) (level : Int) (v : GValue) (r : Int) (hw : (((decide (ij26 < (v.Pairs.length : Int))) && (decide (0 <= ij27))) = true -> ∃ y68, v.Pairs[ij26.toNat]? = some y68 /\ 0 <= ij26 /\ (∃ y69, ref18_count y68.1 (wI (level + 1)) ij27 y69 /\ (((decide (0 <= y69)) = true -> ∃ y70, v.Pairs[ij26.toNat]? = some y70 /\ 0 <= ij26 /\ (∃ y71, ref18_count y70.2 (wI (level + 1)) y69 y71 /\ (ref18_count_j28 (wI (ij26 + 1)) y71 level v r))) /\ ((decide (0 <= y69)) = false -> ref18_count_j28 (wI (ij26 + 1)) y69 level v r)))) /\ (((decide (ij26 < (v.Pairs.length : Int))) && (decide (0 <= ij27))) = false -> ref18_count_j30 0 ij27 level v r)) : ref18_count_j28 ij26 ij27 level v r :=
 KL 7 nGPair v.Pairs<|KT 2 3<|KW 2 hw (fun _ hw=>KI 9 nGPair hw fun _ hw=>KC 5 hw pl9 fun _ hw=>KW 9 hw (fun _ hw=>KI 4 nGPair hw fun _ hw=>KC 5 hw pl9 fun _ hw=>KJ 10 [] hw) fun _ hw=>KJ 9 [] hw) fun _ hw=>KJ 13 [] hw
theorem ref18_count_j24_step (ij22 : Int) (ij23 : Int) (level : Int) (v : GValue) (r : Int) (hw : (((decide (ij22 < (v.List_.length : Int))) && (decide (0 <= ij23))) = true -> ∃ y72, v.List_[ij22.toNat]? = some y72 /\ 0 <= ij22 /\ (∃ y73, ref18_count y72 (wI (level + 1)) ij23 y73 /\ (ref18_count_j24 (wI (ij22 + 1)) y73 level v r))) /\ (((decide (ij22 < (v.List_.length : Int))) && (decide (0 <= ij23))) = false -> ref18_count_j28 0 ij23 level v r)) : ref18_count_j24 ij22 ij23 level v r :=
 KL 7 nGValue v.List_<|KT 2 3<|KW 2 hw (fun _ hw=>KI 8 nGValue hw fun _ hw=>KC 4 hw pl9 fun _ hw=>KJ 10 [] hw) fun _ hw=>KJ 13 [] hw
theorem ref18_count_j16_step (ij15 : Int) (left : Int) (v : GValue) (level : Int) (r : Int) (hw : ((decide (ij15 < (v.Raws.length : Int))) = true -> ∃ y74, v.Raws[ij15.toNat]? = some y74 /\ 0 <= ij15 /\ (((decide (5000 < (y74.Data.size : Int))) = true -> r = (-1)) /\ ((decide (5000 < (y74.Data.size : Int))) = false -> ref18_count_j16 (wI (ij15 + 1)) left v level r))) /\ ((decide (ij15 < (v.Raws.length : Int))) = false -> ref18_count_j24 0 (wI ((wI (left - 1)) - (v.Raws.length : Int))) level v r)) : ref18_count_j16 ij15 left v level r :=
 KL 7 nGRaw v.Raws<|KW 3 hw (fun _ hw=>KI 9 nGRaw hw fun _ hw=>KW 6 hw (fun _ hw=>KR 11 hw plr9) fun _ hw=>KJ 9 [] hw) fun _ hw=>KJ 13 [] hw
theorem ref18_count_step (v : GValue) (level : Int) (left : Int) (r : Int) (hw : ((((decide (40 < level)) || (decide (5000 < (v.Text.size : Int)))) || (decide ((wI (left - 1)) < (v.Raws.length : Int)))) = true -> r = (-1)) /\ ((((decide (40 < level)) || (decide (5000 < (v.Text.size : Int)))) || (decide ((wI (left - 1)) < (v.Raws.length : Int)))) = false -> ref18_count_j16 0 left v level r)) : ref18_count v level left r :=
 fP (KT 19 5<|KT2 1 6 ((decide (40 < level)) || (decide (5000 < (v.Text.size : Int)))) (fun z=>aB (z || (decide ((wI (left - 1)) < (v.Raws.length : Int))))) (fun _ key=>KE2 6 key) (fun _ key=>KL 2 nGRaw v.Raws<|KE2 3 key)<|KW 2 hw (fun _ hw=>KR 7 hw plr9) fun _ hw=>KL 7 nGRaw v.Raws<|KJ 12 [] hw)
theorem plr15 (r : (List GValue)) : plain (e15 r) = true := (psl (plm_GValue r))
theorem slices_Clone_LValue_Value_step (s : (List GValue)) (r : (List GValue)) (hw : s = [] /\ r = []) : slices_Clone_LValue_Value s r := by
 obtain ⟨rfl, rfl⟩ := hw
 exact fP (KN 9 nGValue (l := ([] : List GValue)) (c := false) (W := fun _ => True) (fun _ _ => trivial) fun b _=>KW (B := b) (p := True) (q := True) 2 ⟨fun _=>trivial, fun _=>trivial⟩ (fun _ _=>KR 7 rfl plr15) fun _ _=>KAn (b := 128) (sz := 7) 6<|KR 4 rfl plr15)
theorem slices_Clone_LValue_Value_new_step (s : (List GValue)) (hw : s ≠ [] /\ s.length * 128 <= 140737488355328) : slices_Clone_LValue_Value_new s := clone_new nGValue hw
theorem plr16 (r : (List (GValue × GValue))) : plain (e16 r) = true := (psl (plm_GPair r))
theorem slices_Clone_LPair_Pair_step (s : (List (GValue × GValue))) (r : (List (GValue × GValue))) (hw : s = [] /\ r = []) : slices_Clone_LPair_Pair s r := by
 obtain ⟨rfl, rfl⟩ := hw
 exact fP (KN 9 nGPair (l := ([] : List (GValue × GValue))) (c := false) (W := fun _ => True) (fun _ _ => trivial) fun b _=>KW (B := b) (p := True) (q := True) 2 ⟨fun _=>trivial, fun _=>trivial⟩ (fun _ _=>KR 7 rfl plr16) fun _ _=>KAn (b := 256) (sz := 14) 6<|KR 4 rfl plr16)
theorem slices_Clone_LPair_Pair_new_step (s : (List (GValue × GValue))) (hw : s ≠ [] /\ s.length * 256 <= 140737488355328) : slices_Clone_LPair_Pair_new s := clone_new nGPair hw
theorem plr17 (r : (List (Int × GValue))) : plain (e17 r) = true := (psl (plm_GSlot r))
theorem slices_Clone_LSlot_Slot_step (s : (List (Int × GValue))) (r : (List (Int × GValue))) (hw : s = [] /\ r = []) : slices_Clone_LSlot_Slot s r := by
 obtain ⟨rfl, rfl⟩ := hw
 exact fP (KN 9 nGSlot (l := ([] : List (Int × GValue))) (c := false) (W := fun _ => True) (fun _ _ => trivial) fun b _=>KW (B := b) (p := True) (q := True) 2 ⟨fun _=>trivial, fun _=>trivial⟩ (fun _ _=>KR 7 rfl plr17) fun _ _=>KAn (b := 136) (sz := 8) 6<|KR 4 rfl plr17)
theorem slices_Clone_LSlot_Slot_new_step (s : (List (Int × GValue))) (hw : s ≠ [] /\ s.length * 136 <= 140737488355328) : slices_Clone_LSlot_Slot_new s := clone_new nGSlot hw
end
section
open Go.RowKit Go.ChangeShapes Go.WideShapes Go.ChangeAt
def TyV (P : Program) (n : Nat) (t : TypeId) (av : AV) : Prop :=
 match P.underlying t with
 | some (.struct _) | some (.array _ _) => ∃ avs, av = .agg avs /\ Ty P n t avs
 | _ => Ty P n t [av]
theorem cells_agg {σ : Sg} {avs : List AV} {cs : Array Value} (h : Cells σ avs cs.toList) : Rel σ (.agg avs) (.agg cs) := by
 refine .agg avs cs (by simpa using h.1) (fun i av hi => (h.2 i av hi).1) (fun i => cs.toList[i]?.getD (.bool false)) (fun i av hi => ?_) (fun i av hi => ?_)
 ·obtain ⟨_, x, hx, _⟩ := h.2 i av hi
  rw [hx]; simpa using hx
 ·obtain ⟨_, x, hx, hr⟩ := h.2 i av hi
  rw [hx]; exact hr
theorem cells_one {σ : Sg} {av : AV} {v : Value} (h : Cells σ [av] v.cells.toList) (hv : ∀ cs, v ≠ .agg cs) : Rel σ av v := by
 obtain ⟨_, x, hx, hr⟩ := h.2 0 av rfl
 cases v with
 | agg cs => exact absurd rfl (hv cs)
 | _ => simp [Value.cells] at hx; subst hx; exact hr
section
variable {H : Type} {enc : TypeId × Value -> H} {P : Program} {W : World} {base b0 : Nat} {spare : Nat -> Bool} {held : Bool}
theorem open_argV {ts : List TypeId} (ok : okTypes P ts = true) {t : TypeId} (ht : t ∈ ts) {v : Value} {d : DataW H} {p : List MemPlace} (hval : Value.okWide P W .any b0 t v) (h : DataW.Trod enc P W base spare held t v d p) (hw : Lightly P t d) :
  ∃ n av, Rel (bare W nowhere) av v /\ TyV P n t av /\ plain av = true := by
 obtain ⟨m, hm⟩ := h
 obtain ⟨avs, hc, hty, hpl⟩ := open_cells ok m t _ _ ht hm hw
 cases m with
 | zero => simp [DataW.trod] at hm
 | succ m =>
  have hok := List.all_eq_true.1 ok t ht
  unfold okT at hok
  unfold TyV
  unfold Value.okWide at hval
  split at hok
  ·rename_i k hu
   rw [hu] at hval
   simp only [Cell.okWide, hu, Cell.ok] at hval
   have h2 := hty; unfold Ty at h2; rw [hu] at h2
   obtain ⟨x, rfl, _⟩ := h2
   refine ⟨m + 1, _, cells_one hc (fun cs he => by subst he; simp at hval), by rw [hu]; exact hty, rfl⟩
  ·rename_i hu
   rw [hu] at hval
   simp only [Cell.okWide, hu, Cell.ok] at hval
   have h2 := hty; unfold Ty at h2; rw [hu] at h2
   obtain ⟨x, rfl⟩ := h2
   refine ⟨m + 1, _, cells_one hc (fun cs he => by subst he; simp at hval), by rw [hu]; exact hty, rfl⟩
  ·rename_i hu
   rw [hu] at hval
   simp only [Cell.okWide, hu, Cell.ok] at hval
   have h2 := hty; unfold Ty at h2; rw [hu] at h2
   obtain ⟨x, rfl, _⟩ := h2
   refine ⟨m + 1, _, cells_one hc (fun cs he => by subst he; simp at hval), by rw [hu]; exact hty, rfl⟩
  ·rename_i e hu
   rw [hu] at hval
   simp only [Cell.okWide, hu, Cell.ok] at hval
   have h2 := hty; unfold Ty at h2; rw [hu] at h2
   obtain ⟨x, rfl, _⟩ := h2
   refine ⟨m + 1, _, cells_one hc (fun cs he => by subst he; simp at hval), by rw [hu]; exact hty, by simpa [plainL] using hpl⟩
  ·rename_i fs hu
   rw [hu] at hval
   obtain ⟨cs, rfl, _⟩ := hval
   exact ⟨m + 1, .agg avs, cells_agg hc, by rw [hu]; exact ⟨avs, rfl, hty⟩, hpl⟩
  ·rename_i k e hu
   rw [hu] at hval
   obtain ⟨cs, rfl, _⟩ := hval
   exact ⟨m + 1, .agg avs, cells_agg hc, by rw [hu]; exact ⟨avs, rfl, hty⟩, hpl⟩
  ·cases hok
end
def typesIn (P : Program) (t : TypeId) : List TypeId :=
 match P.underlying t with
 | some (.slice e) => [e]
 | some (.struct fs) => fs.toList.map (·.type)
 | some (.array _ e) => [e]
 | _ => []
def typesAdd : List TypeId -> List TypeId -> List TypeId
 | l, [] => l
 | l, t :: r => typesAdd (if l.contains t then l else l ++ [t]) r
def typesFrom (P : Program) : Nat -> List TypeId -> List TypeId
 | 0, l => l
 | n + 1, l => typesFrom P n (typesAdd l (l.flatMap (typesIn P)))
theorem rels_nil' (σ : Sg) : Rels σ [] [] := ⟨rfl, fun i av h => by simp at h⟩
theorem rels_cons' {σ : Sg} {a : AV} {v : Value} {l : List AV} {xs : List Value} (h : Rel σ a v) (hr : Rels σ l xs) : Rels σ (a :: l) (v :: xs) := by
 refine ⟨by simp [hr.1], fun i av hi => ?_⟩
 cases i with
 | zero => simp at hi; subst hi; exact ⟨v, rfl, h⟩
 | succ i => obtain ⟨x, h1, h2⟩ := hr.2 i av (by simpa using hi); exact ⟨x, by simpa using h1, h2⟩
theorem nz_true {av : AV} (h : nz av = .v (.bool true)) : av = .v (.bool true) := by
 cases av with
 | v x => simpa [nz, nzA, nz1] using h
 | _ => simp [nz, nzA, nz1] at h
theorem calls_true {P : Program} {f : FuncId} {args : List AV} {cargs : Array Value} {W : World} (hf : PureN P [] f args (.v (.bool true))) (hr : Rels (bare W nowhere) args cargs.toList) :
  Calls P f cargs W fun e W' => e = .returned (.bool true) /\ Below W.heap.size W W' := by
 refine (hf.2 W nowhere cargs (fun b o h => h.elim) (fun g cells h => by cases h) hr).mono fun e W' ⟨av, x, he, hp, hrel, hav⟩ => ?_
 rw [nz_true hav] at hrel
 cases hrel with
 | v _ _ => exact ⟨he, hp.below⟩
end
def I64 (n : Int) : Prop := -9223372036854775808 <= n /\ n <= 9223372036854775807
def U64 (n : Int) : Prop := 0 <= n /\ n < 18446744073709551616
def Sz (n : Nat) : Prop := n <= 140737488351232
structure OkRaw (x : GRaw) : Prop where
 num : I64 x.Num
 wire : I64 x.Wire
 bits : U64 x.Bits
 data : Sz x.Data.size
inductive OkD : GValue -> Prop
 | mk (v : GValue) (k : I64 v.Kind) (b : U64 v.Bits) (t : Sz v.Text.size) (l : Sz v.List_.length) (p : Sz v.Pairs.length) (s : Sz v.Slots.length) (r : Sz v.Raws.length)
   (hl : ∀ x ∈ v.List_, OkD x) (hk : ∀ x ∈ v.Pairs, OkD x.1) (hv : ∀ x ∈ v.Pairs, OkD x.2) (hn : ∀ x ∈ v.Slots, I64 x.1) (hs : ∀ x ∈ v.Slots, OkD x.2) (hr : ∀ x ∈ v.Raws, OkRaw x) (w : Sz (v.List_.length * 128) /\ Sz (v.Pairs.length * 256) /\ Sz (v.Slots.length * 136) /\ Sz (v.Raws.length * 40)) : OkD v
section
variable {P : Program} {n : Nat} {t : TypeId} {avs : List AV}
def TyL (P : Program) (m : Nat) : List TypeId -> List AV -> Prop
 | [], avs => avs = []
 | t :: ts, avs => ∃ a b, avs = a ++ b /\ Ty P m t a /\ TyL P m ts b
theorem tyL_of {m : Nat} : ∀ (fs : List Field) (parts : List (List AV)), parts.length = fs.length -> (∀ (i : Nat) (f : Field), fs[i]? = some f -> ∃ p, parts[i]? = some p /\ Ty P m f.type p) -> TyL P m (fs.map (·.type)) parts.flatten
 | [], [], _, _ => rfl
 | [], _ :: _, h, _ => by cases h
 | _ :: _, [], h, _ => by cases h
 | f :: fs, p :: parts, hl, h => by
  obtain ⟨q, hq, hty⟩ := h 0 f rfl
  cases hq
  exact ⟨p, parts.flatten, by simp, hty, tyL_of fs parts (by simpa using hl) fun i g hg => h (i + 1) g (by simpa using hg)⟩
def fieldTypes (P : Program) (t : TypeId) : Option (List TypeId) := match P.underlying t with | some (.struct fs) => some (fs.toList.map (·.type)) | _ => none
theorem ty_st {ts : List TypeId} (hu : fieldTypes P t = some ts) (h : Ty P n t avs) : ∃ m, n = m + 1 /\ TyL P m ts avs := by
 cases n with
 | zero => exact absurd h (by unfold Ty; exact id)
 | succ m =>
  unfold fieldTypes at hu
  unfold Ty at h
  split at hu
  ·rename_i fs hfs
   rw [hfs] at h
   obtain ⟨parts, rfl, hl, hp⟩ := h
   cases hu
   exact ⟨m, rfl, tyL_of fs.toList parts (by simpa using hl) (fun i f hf => hp i f (by simpa using hf))⟩
  ·cases hu
theorem ty_int {k : IntKind} (hu : P.underlying t = some (.int k)) (h : Ty P n t avs) : ∃ m, avs = [.v (.int k m)] /\ (Lit.int k m).wf = true := by
 cases n with
 | zero => exact absurd h (by unfold Ty; exact id)
 | succ m => unfold Ty at h; rw [hu] at h; exact h
theorem ty_i64 (hu : P.underlying t = some (.int .i64)) (h : Ty P n t avs) : ∃ m, avs = [.v (.int .i64 m)] /\ I64 m := by
 obtain ⟨m, h1, h2⟩ := ty_int hu h
 refine ⟨m, h1, ?_⟩
 simp only [Lit.wf, Bool.and_eq_true, decide_eq_true_eq] at h2
 exact h2
theorem ty_u64 (hu : P.underlying t = some (.int .u64)) (h : Ty P n t avs) : ∃ m, avs = [.v (.int .u64 m)] /\ U64 m := by
 obtain ⟨m, h1, h2⟩ := ty_int hu h
 refine ⟨m, h1, ?_⟩
 simp only [Lit.wf, Bool.and_eq_true, decide_eq_true_eq] at h2
 have e1 : IntKind.u64.min = 0 := by decide
 have e2 : IntKind.u64.max = 18446744073709551615 := by decide
 unfold U64
 omega
theorem ty_str (hu : P.underlying t = some .string) (h : Ty P n t avs) : ∃ s : ByteArray, avs = [.v (.string s)] /\ Sz s.size := by
 cases n with
 | zero => exact absurd h (by unfold Ty; exact id)
 | succ m => unfold Ty at h; rw [hu] at h; exact h
theorem ty_slw {e : TypeId} {G : Type} {enc : G -> List AV} {Ok : G -> Prop} (hu : P.underlying t = some (.slice e)) {w : Nat} (hw : P.bytesOf e = w) (hb : 1 <= P.bytesOf e) (hel : ∀ m avs, m < n -> Ty P m e avs -> ∃ x, avs = enc x /\ Ok x) (h : Ty P n t avs) : ∃ l : List G, avs = [.sl (l.map enc) .no] /\ (Sz l.length /\ Sz (l.length * w)) /\ ∀ x ∈ l, Ok x := by
 cases n with
 | zero => exact absurd h (by unfold Ty; exact id)
 | succ m =>
  unfold Ty at h; rw [hu] at h
  obtain ⟨els, rfl, hl, hty⟩ := h
  have hn : els.length <= 140737488351232 := Nat.le_trans (Nat.le_mul_of_pos_right _ hb) hl
  have : ∀ els : List (List AV), (∀ el ∈ els, Ty P m e el) -> ∃ l : List G, els = l.map enc /\ ∀ x ∈ l, Ok x := by
   intro els
   induction els with
   | nil => exact fun _ => ⟨[], rfl, fun x h => by cases h⟩
   | cons a els ih =>
    intro h
    obtain ⟨l, rfl, hl⟩ := ih fun el hel => h el (List.mem_cons_of_mem _ hel)
    obtain ⟨x, rfl, hx⟩ := hel m a (Nat.lt_succ_self m) (h a List.mem_cons_self)
    exact ⟨x :: l, rfl, fun y hy => (List.mem_cons.1 hy).elim (fun e => e ▸ hx) (hl y)⟩
  obtain ⟨l, rfl, hok⟩ := this els hty
  exact ⟨l, rfl, ⟨by simpa [Sz] using hn, by subst hw; simpa [Sz] using hl⟩, hok⟩
theorem tyV_st {av : AV} {ts : List TypeId} (hu : fieldTypes P t = some ts) (h : TyV P n t av) : ∃ avs, av = .agg avs /\ Ty P n t avs := by
 unfold TyV at h
 unfold fieldTypes at hu
 split at hu
 ·rename_i fs hfs; rw [hfs] at h; exact h
 ·cases hu
end
section
variable {n : Nat} {avs : List AV} {av : AV}
theorem op_raw (h : Ty Tryz.prog n 57 avs) : ∃ x, avs = eGRaw x /\ OkRaw x := by
 obtain ⟨m, rfl, a1, b1, rfl, h1, a2, b2, rfl, h2, a3, b3, rfl, h3, a4, b4, rfl, h4, rfl⟩ := ty_st (ts := [3, 3, 22, 9]) (by kernel_rfl) h
 obtain ⟨x1, rfl, k1⟩ := ty_i64 (by kernel_rfl) h1
 obtain ⟨x2, rfl, k2⟩ := ty_i64 (by kernel_rfl) h2
 obtain ⟨x3, rfl, k3⟩ := ty_u64 (by kernel_rfl) h3
 obtain ⟨x4, rfl, k4⟩ := ty_str (by kernel_rfl) h4
 exact ⟨⟨x1, x2, x3, x4⟩, rfl, ⟨k1, k2, k3, k4⟩⟩
theorem op_value : ∀ (n : Nat) (avs : List AV), Ty Tryz.prog n 28 avs -> ∃ x, avs = eGValue' x /\ OkD x := by
 intro n
 induction n using Nat.strongRecOn with
 | _ n ih =>
  intro avs h
  obtain ⟨m, rfl, a1, b1, rfl, h1, a2, b2, rfl, h2, a3, b3, rfl, h3, a4, b4, rfl, h4, a5, b5, rfl, h5, a6, b6, rfl, h6, a7, b7, rfl, h7, rfl⟩ := ty_st (ts := [3, 22, 9, 23, 24, 25, 26]) (by kernel_rfl) h
  obtain ⟨x1, rfl, k1⟩ := ty_i64 (by kernel_rfl) h1
  obtain ⟨x2, rfl, k2⟩ := ty_u64 (by kernel_rfl) h2
  obtain ⟨x3, rfl, k3⟩ := ty_str (by kernel_rfl) h3
  obtain ⟨x4, rfl, ⟨n4, w4⟩, k4⟩ := ty_slw (w := 128) (e := 28) (enc := eGValue') (Ok := OkD) (by kernel_rfl) (by kernel_rfl) (of_decide_eq_true (by kernel_rfl)) (fun k a hk ha => ih k (by omega) a ha) h4
  obtain ⟨x5, rfl, ⟨n5, w5⟩, k5⟩ := ty_slw (w := 256) (e := 62) (enc := eGPair') (Ok := fun x => OkD x.1 /\ OkD x.2) (by kernel_rfl) (by kernel_rfl) (of_decide_eq_true (by kernel_rfl)) (fun k a hk ha => by
   obtain ⟨q, rfl, a1, b1, rfl, h1, a2, b2, rfl, h2, rfl⟩ := ty_st (ts := [28, 28]) (by kernel_rfl) ha
   obtain ⟨y1, rfl, z1⟩ := ih q (by omega) _ h1
   obtain ⟨y2, rfl, z2⟩ := ih q (by omega) _ h2
   exact ⟨(y1, y2), by simp [eGPair'], z1, z2⟩) h5
  obtain ⟨x6, rfl, ⟨n6, w6⟩, k6⟩ := ty_slw (w := 136) (e := 47) (enc := eGSlot') (Ok := fun x => I64 x.1 /\ OkD x.2) (by kernel_rfl) (by kernel_rfl) (of_decide_eq_true (by kernel_rfl)) (fun k a hk ha => by
   obtain ⟨q, rfl, a1, b1, rfl, h1, a2, b2, rfl, h2, rfl⟩ := ty_st (ts := [3, 28]) (by kernel_rfl) ha
   obtain ⟨y1, rfl, z1⟩ := ty_i64 (by kernel_rfl) h1
   obtain ⟨y2, rfl, z2⟩ := ih q (by omega) _ h2
   exact ⟨(y1, y2), by simp [eGSlot'], z1, z2⟩) h6
  obtain ⟨x7, rfl, ⟨n7, w7⟩, k7⟩ := ty_slw (w := 40) (e := 57) (enc := eGRaw) (Ok := OkRaw) (by kernel_rfl) (by kernel_rfl) (of_decide_eq_true (by kernel_rfl)) (fun k a hk ha => op_raw ha) h7
  refine ⟨⟨x1, x2, x3, x4, x5, x6, x7⟩, ?_, .mk _ k1 k2 k3 n4 n5 n6 n7 k4 (fun x hx => (k5 x hx).1) (fun x hx => (k5 x hx).2) (fun x hx => (k6 x hx).1) (fun x hx => (k6 x hx).2) k7 ⟨w4, w5, w6, w7⟩⟩
  rw [eGValue'_eq]; rfl
theorem ar_V (h : TyV Tryz.prog n 28 av) : ∃ x, av = .agg (eGValue x) /\ OkD x := by
 obtain ⟨avs, rfl, g⟩ := tyV_st (ts := [3, 22, 9, 23, 24, 25, 26]) (by kernel_rfl) h
 obtain ⟨x, rfl, k⟩ := op_value _ _ g
 exact ⟨x, by rw [eGValue'_eq], k⟩
end
theorem tl_wI {i : Nat} (h : i < 140737488355328) : wI ((i : Int) + 1) = ((i + 1 : Nat) : Int) := by
 rw [wI]
 have : IntKind.i64.wrap ((i : Int) + 1) = (i : Int) + 1 := by simp [IntKind.wrap, IntKind.signed, IntKind.bits]; omega
 rw [this]; omega
def loseN : Nat -> GValue -> GValue
 | 0, v => v
 | n + 1, v => ⟨v.Kind, v.Bits, v.Text, v.List_.map (loseN n), v.Pairs.map (fun p => (loseN n p.1, loseN n p.2)), v.Slots.map (fun p => (p.1, loseN n p.2)), []⟩
def fineN : Nat -> GValue -> Prop
 | 0, _ => False
 | n + 1, v => v.List_.length * 128 <= 140737488355328 /\ v.Pairs.length * 256 <= 140737488355328 /\ v.Slots.length * 136 <= 140737488355328 /\ v.Raws.length <= 140737488355328 /\
  (∀ x ∈ v.List_, fineN n x) /\ (∀ x ∈ v.Pairs, fineN n x.1 /\ fineN n x.2) /\ ∀ x ∈ v.Slots, fineN n x.2
theorem fine_lose : ∀ (n : Nat) (v : GValue), fineN n v -> fineN n (loseN n v)
 | 0, _, h => h.elim
 | n + 1, v, ⟨h1, h2, h3, h4, h5, h6, h7⟩ => by
  refine ⟨by simpa [loseN] using h1, by simpa [loseN] using h2, by simpa [loseN] using h3, by simp [loseN], ?_, ?_, ?_⟩
  ·intro x hx
   simp only [loseN, List.mem_map] at hx
   obtain ⟨y, hy, rfl⟩ := hx
   exact fine_lose n y (h5 y hy)
  ·intro x hx
   simp only [loseN, List.mem_map] at hx
   obtain ⟨y, hy, rfl⟩ := hx
   exact ⟨fine_lose n _ (h6 y hy).1, fine_lose n _ (h6 y hy).2⟩
  ·intro x hx
   simp only [loseN, List.mem_map] at hx
   obtain ⟨y, hy, rfl⟩ := hx
   exact fine_lose n _ (h7 y hy)
theorem lose_lose : ∀ (n : Nat) (v : GValue), fineN n v -> loseN n (loseN n v) = loseN n v
 | 0, _, h => h.elim
 | n + 1, v, ⟨h1, h2, h3, h4, h5, h6, h7⟩ => by
  simp only [loseN, List.map_map, GValue.mk.injEq, true_and, and_true]
  refine ⟨List.map_congr_left fun x hx => ?_, List.map_congr_left fun x hx => ?_, List.map_congr_left fun x hx => ?_⟩
  ·exact lose_lose n x (h5 x hx)
  ·exact Prod.ext (lose_lose n _ (h6 x hx).1) (lose_lose n _ (h6 x hx).2)
  ·exact Prod.ext rfl (lose_lose n _ (h7 x hx))
theorem rlose_is : ∀ (n : Nat) (v : GValue), fineN n v -> ref34_Lose v (loseN n v)
 | 0, _, h => h.elim
 | n + 1, v, ⟨h1, h2, h3, h4, h5, h6, h7⟩ => by
  have slots : ∀ lj8 lj12 d i, v.Slots.length - i <= d -> i <= v.Slots.length -> ref34_Lose_j14 i v lj8 lj12 ((v.Slots.map fun p => (p.1, loseN n p.2)).take i) ⟨v.Kind, v.Bits, v.Text, lj8, lj12, v.Slots.map (fun p => (p.1, loseN n p.2)), []⟩ := by
   intro lj8 lj12 d
   induction d with
   | zero => intro i hd hi; exact ref34_Lose_j14_step _ _ _ _ _ _ ⟨fun h => by simp at h; omega, fun _ => by rw [List.take_of_length_le (by simp; omega)]⟩
   | succ d ih =>
    intro i hd hi
    rcases Nat.lt_or_ge i v.Slots.length with hlt | hge
    ·refine ref34_Lose_j14_step _ _ _ _ _ _ ⟨fun _ => ⟨v.Slots[i], by simp, by omega, v.Slots[i], by simp, by omega, _, rlose_is n _ (h7 _ (List.getElem_mem hlt)), ?_, ?_⟩, fun h => by simp at h; omega⟩
     ·simp; omega
     ·rw [tl_wI (by omega)]
      have := ih (i + 1) (by omega) (by omega)
      rwa [List.take_succ_eq_append_getElem (by simpa using hlt), List.getElem_map] at this
    ·exact ref34_Lose_j14_step _ _ _ _ _ _ ⟨fun h => by simp at h; omega, fun _ => by rw [List.take_of_length_le (by simp; omega)]⟩
  have pairs : ∀ lj8 d i, v.Pairs.length - i <= d -> i <= v.Pairs.length -> ref34_Lose_j12 i v lj8 ((v.Pairs.map fun p => (loseN n p.1, loseN n p.2)).take i) ⟨v.Kind, v.Bits, v.Text, lj8, v.Pairs.map (fun p => (loseN n p.1, loseN n p.2)), v.Slots.map (fun p => (p.1, loseN n p.2)), []⟩ := by
   intro lj8 d
   induction d with
   | zero => intro i hd hi; exact ref34_Lose_j12_step _ _ _ _ _ ⟨fun h => by simp at h; omega, fun _ => by rw [List.take_of_length_le (by simp; omega)]; simpa using slots lj8 _ _ 0 (Nat.le_refl _) (by omega)⟩
   | succ d ih =>
    intro i hd hi
    rcases Nat.lt_or_ge i v.Pairs.length with hlt | hge
    ·refine ref34_Lose_j12_step _ _ _ _ _ ⟨fun _ => ⟨v.Pairs[i], by simp, by omega, _, rlose_is n _ (h6 _ (List.getElem_mem hlt)).1, v.Pairs[i], by simp, by omega, _, rlose_is n _ (h6 _ (List.getElem_mem hlt)).2, ?_, ?_⟩, fun h => by simp at h; omega⟩
     ·simp; omega
     ·rw [tl_wI (by omega)]
      have := ih (i + 1) (by omega) (by omega)
      rwa [List.take_succ_eq_append_getElem (by simpa using hlt), List.getElem_map] at this
    ·exact ref34_Lose_j12_step _ _ _ _ _ ⟨fun h => by simp at h; omega, fun _ => by rw [List.take_of_length_le (by simp; omega)]; simpa using slots lj8 _ _ 0 (Nat.le_refl _) (by omega)⟩
  have lists : ∀ d i, v.List_.length - i <= d -> i <= v.List_.length -> ref34_Lose_j8 i v ((v.List_.map (loseN n)).take i) (loseN (n + 1) v) := by
   intro d
   induction d with
   | zero => intro i hd hi; exact ref34_Lose_j8_step _ _ _ _ ⟨fun h => by simp at h; omega, fun _ => by rw [List.take_of_length_le (by simp; omega)]; simpa [loseN] using pairs (v.List_.map (loseN n)) _ 0 (Nat.le_refl _) (by omega)⟩
   | succ d ih =>
    intro i hd hi
    rcases Nat.lt_or_ge i v.List_.length with hlt | hge
    ·refine ref34_Lose_j8_step _ _ _ _ ⟨fun _ => ⟨v.List_[i], by simp, by omega, _, rlose_is n _ (h5 _ (List.getElem_mem hlt)), ?_, ?_⟩, fun h => by simp at h; omega⟩
     ·simp; omega
     ·rw [tl_wI (by omega)]
      have := ih (i + 1) (by omega) (by omega)
      rwa [List.take_succ_eq_append_getElem (by simpa using hlt), List.getElem_map] at this
    ·exact ref34_Lose_j8_step _ _ _ _ ⟨fun h => by simp at h; omega, fun _ => by rw [List.take_of_length_le (by simp; omega)]; simpa [loseN] using pairs (v.List_.map (loseN n)) _ 0 (Nat.le_refl _) (by omega)⟩
  exact ref34_Lose_step _ _ (by simpa using lists _ 0 (Nat.le_refl _) (by omega))
theorem same_self : ∀ (n : Nat) (v : GValue), fineN n v -> ref17_Same v v true
 | 0, _, h => h.elim
 | n + 1, v, ⟨h1, h2, h3, h4, h5, h6, h7⟩ => by
  have raws : ∀ d i, v.Raws.length - i <= d -> i <= v.Raws.length -> ref17_Same_j30 i v v true := by
   intro d
   induction d with
   | zero => intro i hd hi; exact ref17_Same_j30_step _ _ _ _ ⟨fun h => by simp at h; omega, fun _ => rfl⟩
   | succ d ih =>
    intro i hd hi
    rcases Nat.lt_or_ge i v.Raws.length with hlt | hge
    ·refine ref17_Same_j30_step _ _ _ _ ⟨fun _ => ⟨v.Raws[i], by simp, by omega, v.Raws[i], by simp, by omega, fun h => by simp [ba_list] at h, fun _ => ?_⟩, fun h => by simp at h; omega⟩
     rw [tl_wI (by omega)]; exact ih (i + 1) (by omega) (by omega)
    ·exact ref17_Same_j30_step _ _ _ _ ⟨fun h => by simp at h; omega, fun _ => rfl⟩
  have slots : ∀ d i, v.Slots.length - i <= d -> i <= v.Slots.length -> ref17_Same_j28 i v v true := by
   intro d
   induction d with
   | zero => intro i hd hi; exact ref17_Same_j28_step _ _ _ _ ⟨fun h => by simp at h; omega, fun _ => raws _ 0 (Nat.le_refl _) (by omega)⟩
   | succ d ih =>
    intro i hd hi
    rcases Nat.lt_or_ge i v.Slots.length with hlt | hge
    ·refine ref17_Same_j28_step _ _ _ _ ⟨fun _ => ⟨v.Slots[i], by simp, by omega, v.Slots[i], by simp, by omega, fun h => by simp at h, fun _ => ⟨v.Slots[i], by simp, by omega, v.Slots[i], by simp, by omega, _, same_self n _ (h7 _ (List.getElem_mem hlt)), fun h => by simp at h, fun _ => ?_⟩⟩, fun h => by simp at h; omega⟩
     rw [tl_wI (by omega)]; exact ih (i + 1) (by omega) (by omega)
    ·exact ref17_Same_j28_step _ _ _ _ ⟨fun h => by simp at h; omega, fun _ => raws _ 0 (Nat.le_refl _) (by omega)⟩
  have pairs : ∀ d i, v.Pairs.length - i <= d -> i <= v.Pairs.length -> ref17_Same_j24 i v v true := by
   intro d
   induction d with
   | zero => intro i hd hi; exact ref17_Same_j24_step _ _ _ _ ⟨fun h => by simp at h; omega, fun _ => slots _ 0 (Nat.le_refl _) (by omega)⟩
   | succ d ih =>
    intro i hd hi
    rcases Nat.lt_or_ge i v.Pairs.length with hlt | hge
    ·refine ref17_Same_j24_step _ _ _ _ ⟨fun _ => ⟨v.Pairs[i], by simp, by omega, v.Pairs[i], by simp, by omega, _, same_self n _ (h6 _ (List.getElem_mem hlt)).1, fun h => by simp at h, fun _ => ⟨v.Pairs[i], by simp, by omega, v.Pairs[i], by simp, by omega, _, same_self n _ (h6 _ (List.getElem_mem hlt)).2, fun h => by simp at h, fun _ => ?_⟩⟩, fun h => by simp at h; omega⟩
     rw [tl_wI (by omega)]; exact ih (i + 1) (by omega) (by omega)
    ·exact ref17_Same_j24_step _ _ _ _ ⟨fun h => by simp at h; omega, fun _ => slots _ 0 (Nat.le_refl _) (by omega)⟩
  have lists : ∀ d i, v.List_.length - i <= d -> i <= v.List_.length -> ref17_Same_j16 i v v true := by
   intro d
   induction d with
   | zero => intro i hd hi; exact ref17_Same_j16_step _ _ _ _ ⟨fun h => by simp at h; omega, fun _ => pairs _ 0 (Nat.le_refl _) (by omega)⟩
   | succ d ih =>
    intro i hd hi
    rcases Nat.lt_or_ge i v.List_.length with hlt | hge
    ·refine ref17_Same_j16_step _ _ _ _ ⟨fun _ => ⟨v.List_[i], by simp, by omega, v.List_[i], by simp, by omega, _, same_self n _ (h5 _ (List.getElem_mem hlt)), fun h => by simp at h, fun _ => ?_⟩, fun h => by simp at h; omega⟩
     rw [tl_wI (by omega)]; exact ih (i + 1) (by omega) (by omega)
    ·exact ref17_Same_j16_step _ _ _ _ ⟨fun h => by simp at h; omega, fun _ => pairs _ 0 (Nat.le_refl _) (by omega)⟩
  exact ref17_Same_step _ _ _ ⟨fun h => by simp at h, fun _ => by simpa using lists _ 0 (Nat.le_refl _) (by omega)⟩
theorem count_ex : ∀ (n : Nat) (v : GValue), fineN n v -> ∀ level left : Int, ∃ r, ref18_count v level left r
 | 0, _, h => h.elim
 | n + 1, v, ⟨h1, h2, h3, h4, h5, h6, h7⟩ => by
  intro level left
  have slots : ∀ d i ij, v.Slots.length - i <= d -> i <= v.Slots.length -> ∃ r, ref18_count_j30 i ij level v r := by
   intro d
   induction d with
   | zero => intro i ij hd hi; exact ⟨ij, ref18_count_j30_step _ _ _ _ _ ⟨fun h => by simp at h; omega, fun _ => rfl⟩⟩
   | succ d ih =>
    intro i ij hd hi
    rcases Nat.lt_or_ge i v.Slots.length with hlt | hge
    ·by_cases hij : 0 <= ij
     ·obtain ⟨y, hy⟩ := count_ex n _ (h7 _ (List.getElem_mem hlt)) (wI (level + 1)) ij
      obtain ⟨r, hr⟩ := ih (i + 1) y (by omega) (by omega)
      exact ⟨r, ref18_count_j30_step _ _ _ _ _ ⟨fun _ => ⟨v.Slots[i], by simp, by omega, y, hy, by rw [tl_wI (by omega)]; exact hr⟩, fun h => by simp at h; omega⟩⟩
     ·exact ⟨ij, ref18_count_j30_step _ _ _ _ _ ⟨fun h => by simp at h; omega, fun _ => rfl⟩⟩
    ·exact ⟨ij, ref18_count_j30_step _ _ _ _ _ ⟨fun h => by simp at h; omega, fun _ => rfl⟩⟩
  have pairs : ∀ d i ij, v.Pairs.length - i <= d -> i <= v.Pairs.length -> ∃ r, ref18_count_j28 i ij level v r := by
   intro d
   induction d with
   | zero =>
    intro i ij hd hi
    obtain ⟨r, hr⟩ := slots _ 0 ij (Nat.le_refl _) (by omega)
    exact ⟨r, ref18_count_j28_step _ _ _ _ _ ⟨fun h => by simp at h; omega, fun _ => hr⟩⟩
   | succ d ih =>
    intro i ij hd hi
    by_cases hb : i < v.Pairs.length /\ 0 <= ij
    ·obtain ⟨hlt, hij⟩ := hb
     obtain ⟨y, hy⟩ := count_ex n _ (h6 _ (List.getElem_mem hlt)).1 (wI (level + 1)) ij
     by_cases hy0 : 0 <= y
     ·obtain ⟨z, hz⟩ := count_ex n _ (h6 _ (List.getElem_mem hlt)).2 (wI (level + 1)) y
      obtain ⟨r, hr⟩ := ih (i + 1) z (by omega) (by omega)
      exact ⟨r, ref18_count_j28_step _ _ _ _ _ ⟨fun _ => ⟨v.Pairs[i], by simp, by omega, y, hy, fun _ => ⟨v.Pairs[i], by simp, by omega, z, hz, by rw [tl_wI (by omega)]; exact hr⟩, fun h => by simp at h; omega⟩, fun h => by simp at h; omega⟩⟩
     ·obtain ⟨r, hr⟩ := ih (i + 1) y (by omega) (by omega)
      exact ⟨r, ref18_count_j28_step _ _ _ _ _ ⟨fun _ => ⟨v.Pairs[i], by simp, by omega, y, hy, fun h => by simp at h; omega, fun _ => by rw [tl_wI (by omega)]; exact hr⟩, fun h => by simp at h; omega⟩⟩
    ·obtain ⟨r, hr⟩ := slots _ 0 ij (Nat.le_refl _) (by omega)
     exact ⟨r, ref18_count_j28_step _ _ _ _ _ ⟨fun h => by simp at h; omega, fun _ => hr⟩⟩
  have lists : ∀ d i ij, v.List_.length - i <= d -> i <= v.List_.length -> ∃ r, ref18_count_j24 i ij level v r := by
   intro d
   induction d with
   | zero =>
    intro i ij hd hi
    obtain ⟨r, hr⟩ := pairs _ 0 ij (Nat.le_refl _) (by omega)
    exact ⟨r, ref18_count_j24_step _ _ _ _ _ ⟨fun h => by simp at h; omega, fun _ => hr⟩⟩
   | succ d ih =>
    intro i ij hd hi
    by_cases hb : i < v.List_.length /\ 0 <= ij
    ·obtain ⟨hlt, hij⟩ := hb
     obtain ⟨y, hy⟩ := count_ex n _ (h5 _ (List.getElem_mem hlt)) (wI (level + 1)) ij
     obtain ⟨r, hr⟩ := ih (i + 1) y (by omega) (by omega)
     exact ⟨r, ref18_count_j24_step _ _ _ _ _ ⟨fun _ => ⟨v.List_[i], by simp, by omega, y, hy, by rw [tl_wI (by omega)]; exact hr⟩, fun h => by simp at h; omega⟩⟩
    ·obtain ⟨r, hr⟩ := pairs _ 0 ij (Nat.le_refl _) (by omega)
     exact ⟨r, ref18_count_j24_step _ _ _ _ _ ⟨fun h => by simp at h; omega, fun _ => hr⟩⟩
  have raws : ∀ d i, v.Raws.length - i <= d -> i <= v.Raws.length -> ∃ r, ref18_count_j16 i left v level r := by
   intro d
   induction d with
   | zero =>
    intro i hd hi
    obtain ⟨r, hr⟩ := lists _ 0 (wI ((wI (left - 1)) - (v.Raws.length : Int))) (Nat.le_refl _) (by omega)
    exact ⟨r, ref18_count_j16_step _ _ _ _ _ ⟨fun h => by simp at h; omega, fun _ => hr⟩⟩
   | succ d ih =>
    intro i hd hi
    rcases Nat.lt_or_ge i v.Raws.length with hlt | hge
    ·by_cases hb : 5000 < (v.Raws[i].Data.size : Int)
     ·exact ⟨-1, ref18_count_j16_step _ _ _ _ _ ⟨fun _ => ⟨v.Raws[i], by simp, by omega, fun _ => rfl, fun h => by simp at h; omega⟩, fun h => by simp at h; omega⟩⟩
     ·obtain ⟨r, hr⟩ := ih (i + 1) (by omega) (by omega)
      exact ⟨r, ref18_count_j16_step _ _ _ _ _ ⟨fun _ => ⟨v.Raws[i], by simp, by omega, fun h => by simp at h; omega, fun _ => by rw [tl_wI (by omega)]; exact hr⟩, fun h => by simp at h; omega⟩⟩
    ·obtain ⟨r, hr⟩ := lists _ 0 (wI ((wI (left - 1)) - (v.Raws.length : Int))) (Nat.le_refl _) (by omega)
     exact ⟨r, ref18_count_j16_step _ _ _ _ _ ⟨fun h => by simp at h; omega, fun _ => hr⟩⟩
  by_cases hb : (((decide (40 < level)) || (decide (5000 < (v.Text.size : Int)))) || (decide ((wI (left - 1)) < (v.Raws.length : Int)))) = true
  ·exact ⟨-1, ref18_count_step _ _ _ _ ⟨fun _ => rfl, fun h => by rw [hb] at h; cases h⟩⟩
  ·obtain ⟨r, hr⟩ := raws _ 0 (Nat.le_refl _) (by omega)
   exact ⟨r, ref18_count_step _ _ _ _ ⟨fun h => absurd h hb, fun _ => hr⟩⟩
theorem few_ex (n : Nat) (v : GValue) (h : fineN n v) (left : Int) : ∃ r, ref18_Few v left r := by
 obtain ⟨r, hr⟩ := count_ex n v h 1 left
 exact ⟨_, ref18_Few_step _ _ _ ⟨r, hr, rfl⟩⟩
theorem loses_of (n : Nat) (v : GValue) (h : fineN n v) (hl : ∀ v, fineN n v -> transcode_Lose v (loseN n v)) (ha : law34_awake true) : law34_TranscodeLoses v true := by
 obtain ⟨b, hb⟩ := few_ex n v h 2000
 have hf := fine_lose n v h
 refine law34_TranscodeLoses_step _ _ ⟨b, hb, fun _ => ⟨true, ha, rfl⟩, fun _ => ⟨_, hl v h, _, rlose_is n v h, true, same_self n _ hf, fun _ => ⟨_, hl _ hf, true, ?_, fun _ => ⟨true, ha, rfl⟩, fun h => by cases h⟩, fun h => by cases h⟩⟩
 rw [lose_lose n v h]
 exact same_self n _ hf
def mix {α : Type} (f : α -> α) (l : List α) (i : Nat) : List α := (l.take i).map f ++ l.drop i
section
variable {α : Type} (f : α -> α) {l : List α} {i : Nat}
theorem mix_len : (mix f l i).length = l.length := by simp [mix]; omega
theorem mix_zero : mix f l 0 = l := by simp [mix]
theorem mix_end (h : l.length <= i) : mix f l i = l.map f := by simp [mix, List.take_of_length_le h, List.drop_eq_nil_of_le h]
theorem mix_get (h : i < l.length) : (mix f l i)[i]? = some l[i] := by
 unfold mix
 rw [List.getElem?_append_right (by simp; omega)]
 simp [Nat.min_eq_left (Nat.le_of_lt h), h]
theorem mix_set (h : i < l.length) : (mix f l i).set i (f l[i]) = mix f l (i + 1) := by
 unfold mix
 rw [List.set_append_right _ _ (by simp; omega)]
 have e : i - ((l.take i).map f).length = 0 := by simp; omega
 rw [e, List.drop_eq_getElem_cons h, List.set_cons_zero, List.take_succ_eq_append_getElem h, List.map_append, List.append_assoc]
 rfl
end
theorem tlose_is : ∀ (n : Nat) (v : GValue), fineN n v -> transcode_Lose v (loseN n v)
 | 0, _, h => h.elim
 | n + 1, v, ⟨h1, h2, h3, h4, h5, h6, h7⟩ => by
  have ihn := tlose_is n
  have cL : ∀ s : List GValue, s = [] -> slices_Clone_LValue_Value s [] := fun s hs => slices_Clone_LValue_Value_step _ _ ⟨hs, rfl⟩
  have cP : ∀ s : List (GValue × GValue), s = [] -> slices_Clone_LPair_Pair s [] := fun s hs => slices_Clone_LPair_Pair_step _ _ ⟨hs, rfl⟩
  have cS : ∀ s : List (Int × GValue), s = [] -> slices_Clone_LSlot_Slot s [] := fun s hs => slices_Clone_LSlot_Slot_step _ _ ⟨hs, rfl⟩

  have w0 : v.List_ = [] -> v.Pairs = [] -> v.Slots = [] -> transcode_Lose_j1 v (⟨v.Kind, v.Bits, v.Text, [], [], [], []⟩ : GValue) := by
   intro eL eP eS
   have sS : transcode_Lose_j3 v (⟨v.Kind, v.Bits, v.Text, [], [], [], []⟩ : GValue) := transcode_Lose_j3_step _ _ ⟨fun hb => by simp at hb, fun _ => rfl⟩
   have sP : transcode_Lose_j2 v (⟨v.Kind, v.Bits, v.Text, [], [], [], []⟩ : GValue) := transcode_Lose_j2_step _ _ ⟨fun hb => by simp at hb, fun _ => sS⟩
   have sL : transcode_Lose_j1 v (⟨v.Kind, v.Bits, v.Text, [], [], [], []⟩ : GValue) := transcode_Lose_j1_step _ _ ⟨fun hb => by simp at hb, fun _ => sP⟩
   exact sL
  have w1 : v.List_ = [] -> v.Pairs = [] -> v.Slots ≠ [] -> transcode_Lose_j4 v (⟨v.Kind, v.Bits, v.Text, [], [], (v.Slots.map (fun p => (p.1, loseN n p.2))), []⟩ : GValue) := by
   intro eL eP eS
   have sS : ∀ d i : Nat, v.Slots.length - i <= d -> i <= v.Slots.length -> transcode_Lose_j7 i v (mix (fun p => (p.1, loseN n p.2)) v.Slots i) (⟨v.Kind, v.Bits, v.Text, [], [], (v.Slots.map (fun p => (p.1, loseN n p.2))), []⟩ : GValue) := by
    intro d
    induction d with
    | zero => intro i hd hi; exact (by rw [mix_end _ (by omega)]; exact transcode_Lose_j7_step _ _ _ _ ⟨fun hb => by simp at hb; omega, fun _ => ⟨by simp, rfl⟩⟩)
    | succ d ih =>
     intro i hd hi
     rcases Nat.lt_or_ge i v.Slots.length with hlt | hge
     ·refine transcode_Lose_j7_step _ _ _ _ ⟨fun _ => ⟨⟨by omega, by omega⟩, v.Slots[i], by simpa using mix_get (fun p => (p.1, loseN n p.2)) hlt, _, ihn _ (h7 _ (List.getElem_mem hlt)), ⟨by omega, by omega⟩, v.Slots[i], by simpa using mix_get (fun p => (p.1, loseN n p.2)) hlt, ?_⟩, fun hb => by simp at hb; omega⟩
      rw [tl_wI (by omega), Int.toNat_natCast]
      have := ih (i + 1) (by omega) (by omega)
      rwa [← mix_set (fun p => (p.1, loseN n p.2)) hlt] at this
     ·exact (by rw [mix_end _ (by omega)]; exact transcode_Lose_j7_step _ _ _ _ ⟨fun hb => by simp at hb; omega, fun _ => ⟨by simp, rfl⟩⟩)
   have sS0 : transcode_Lose_j7 0 v v.Slots (⟨v.Kind, v.Bits, v.Text, [], [], (v.Slots.map (fun p => (p.1, loseN n p.2))), []⟩ : GValue) := by
    have := sS _ 0 (Nat.le_refl _) (Nat.zero_le _)
    rwa [mix_zero] at this
   have sP : transcode_Lose_j5 v (⟨v.Kind, v.Bits, v.Text, [], [], (v.Slots.map (fun p => (p.1, loseN n p.2))), []⟩ : GValue) := transcode_Lose_j5_step _ _ ⟨fun hb => by simp at hb, fun _ => sS0⟩
   have sL : transcode_Lose_j4 v (⟨v.Kind, v.Bits, v.Text, [], [], (v.Slots.map (fun p => (p.1, loseN n p.2))), []⟩ : GValue) := transcode_Lose_j4_step _ _ ⟨fun hb => by simp at hb, fun _ => sP⟩
   exact sL
  have w2 : v.List_ = [] -> v.Pairs ≠ [] -> v.Slots = [] -> transcode_Lose_j8 v (⟨v.Kind, v.Bits, v.Text, [], (v.Pairs.map (fun p => (loseN n p.1, loseN n p.2))), [], []⟩ : GValue) := by
   intro eL eP eS
   have sS : transcode_Lose_j12 v (v.Pairs.map (fun p => (loseN n p.1, loseN n p.2))) (⟨v.Kind, v.Bits, v.Text, [], (v.Pairs.map (fun p => (loseN n p.1, loseN n p.2))), [], []⟩ : GValue) := transcode_Lose_j12_step _ _ _ ⟨fun hb => by simp at hb, fun _ => ⟨by simp, rfl⟩⟩
   have sP : ∀ d i : Nat, v.Pairs.length - i <= d -> i <= v.Pairs.length -> transcode_Lose_j11 i v (mix (fun p => (loseN n p.1, loseN n p.2)) v.Pairs i) (⟨v.Kind, v.Bits, v.Text, [], (v.Pairs.map (fun p => (loseN n p.1, loseN n p.2))), [], []⟩ : GValue) := by
    intro d
    induction d with
    | zero => intro i hd hi; exact (by rw [mix_end _ (by omega)]; exact transcode_Lose_j11_step _ _ _ _ ⟨fun hb => by simp at hb; omega, fun _ => sS⟩)
    | succ d ih =>
     intro i hd hi
     rcases Nat.lt_or_ge i v.Pairs.length with hlt | hge
     ·refine transcode_Lose_j11_step _ _ _ _ ⟨fun _ => ⟨⟨by omega, by omega⟩, v.Pairs[i], by simpa using mix_get (fun p => (loseN n p.1, loseN n p.2)) hlt, _, ihn _ (h6 _ (List.getElem_mem hlt)).1, _, ihn _ (h6 _ (List.getElem_mem hlt)).2, ⟨by omega, by omega⟩, by simp [mix_len]; omega, ?_⟩, fun hb => by simp at hb; omega⟩
      rw [tl_wI (by omega), Int.toNat_natCast]
      have := ih (i + 1) (by omega) (by omega)
      rwa [← mix_set (fun p => (loseN n p.1, loseN n p.2)) hlt] at this
     ·exact (by rw [mix_end _ (by omega)]; exact transcode_Lose_j11_step _ _ _ _ ⟨fun hb => by simp at hb; omega, fun _ => sS⟩)
   have sP0 : transcode_Lose_j11 0 v v.Pairs (⟨v.Kind, v.Bits, v.Text, [], (v.Pairs.map (fun p => (loseN n p.1, loseN n p.2))), [], []⟩ : GValue) := by
    have := sP _ 0 (Nat.le_refl _) (Nat.zero_le _)
    rwa [mix_zero] at this
   have sL : transcode_Lose_j8 v (⟨v.Kind, v.Bits, v.Text, [], (v.Pairs.map (fun p => (loseN n p.1, loseN n p.2))), [], []⟩ : GValue) := transcode_Lose_j8_step _ _ ⟨fun hb => by simp at hb, fun _ => sP0⟩
   exact sL
  have w3 : v.List_ = [] -> v.Pairs ≠ [] -> v.Slots ≠ [] -> transcode_Lose_j13 v (⟨v.Kind, v.Bits, v.Text, [], (v.Pairs.map (fun p => (loseN n p.1, loseN n p.2))), (v.Slots.map (fun p => (p.1, loseN n p.2))), []⟩ : GValue) := by
   intro eL eP eS
   have sS : ∀ d i : Nat, v.Slots.length - i <= d -> i <= v.Slots.length -> transcode_Lose_j19 i v (v.Pairs.map (fun p => (loseN n p.1, loseN n p.2))) (mix (fun p => (p.1, loseN n p.2)) v.Slots i) (⟨v.Kind, v.Bits, v.Text, [], (v.Pairs.map (fun p => (loseN n p.1, loseN n p.2))), (v.Slots.map (fun p => (p.1, loseN n p.2))), []⟩ : GValue) := by
    intro d
    induction d with
    | zero => intro i hd hi; exact (by rw [mix_end _ (by omega)]; exact transcode_Lose_j19_step _ _ _ _ _ ⟨fun hb => by simp at hb; omega, fun _ => ⟨by simp, by simp, rfl⟩⟩)
    | succ d ih =>
     intro i hd hi
     rcases Nat.lt_or_ge i v.Slots.length with hlt | hge
     ·refine transcode_Lose_j19_step _ _ _ _ _ ⟨fun _ => ⟨⟨by omega, by omega⟩, v.Slots[i], by simpa using mix_get (fun p => (p.1, loseN n p.2)) hlt, _, ihn _ (h7 _ (List.getElem_mem hlt)), ⟨by omega, by omega⟩, v.Slots[i], by simpa using mix_get (fun p => (p.1, loseN n p.2)) hlt, ?_⟩, fun hb => by simp at hb; omega⟩
      rw [tl_wI (by omega), Int.toNat_natCast]
      have := ih (i + 1) (by omega) (by omega)
      rwa [← mix_set (fun p => (p.1, loseN n p.2)) hlt] at this
     ·exact (by rw [mix_end _ (by omega)]; exact transcode_Lose_j19_step _ _ _ _ _ ⟨fun hb => by simp at hb; omega, fun _ => ⟨by simp, by simp, rfl⟩⟩)
   have sS0 : transcode_Lose_j19 0 v (v.Pairs.map (fun p => (loseN n p.1, loseN n p.2))) v.Slots (⟨v.Kind, v.Bits, v.Text, [], (v.Pairs.map (fun p => (loseN n p.1, loseN n p.2))), (v.Slots.map (fun p => (p.1, loseN n p.2))), []⟩ : GValue) := by
    have := sS _ 0 (Nat.le_refl _) (Nat.zero_le _)
    rwa [mix_zero] at this
   have sP : ∀ d i : Nat, v.Pairs.length - i <= d -> i <= v.Pairs.length -> transcode_Lose_j17 i v (mix (fun p => (loseN n p.1, loseN n p.2)) v.Pairs i) (⟨v.Kind, v.Bits, v.Text, [], (v.Pairs.map (fun p => (loseN n p.1, loseN n p.2))), (v.Slots.map (fun p => (p.1, loseN n p.2))), []⟩ : GValue) := by
    intro d
    induction d with
    | zero => intro i hd hi; exact (by rw [mix_end _ (by omega)]; exact transcode_Lose_j17_step _ _ _ _ ⟨fun hb => by simp at hb; omega, fun _ => sS0⟩)
    | succ d ih =>
     intro i hd hi
     rcases Nat.lt_or_ge i v.Pairs.length with hlt | hge
     ·refine transcode_Lose_j17_step _ _ _ _ ⟨fun _ => ⟨⟨by omega, by omega⟩, v.Pairs[i], by simpa using mix_get (fun p => (loseN n p.1, loseN n p.2)) hlt, _, ihn _ (h6 _ (List.getElem_mem hlt)).1, _, ihn _ (h6 _ (List.getElem_mem hlt)).2, ⟨by omega, by omega⟩, by simp [mix_len]; omega, ?_⟩, fun hb => by simp at hb; omega⟩
      rw [tl_wI (by omega), Int.toNat_natCast]
      have := ih (i + 1) (by omega) (by omega)
      rwa [← mix_set (fun p => (loseN n p.1, loseN n p.2)) hlt] at this
     ·exact (by rw [mix_end _ (by omega)]; exact transcode_Lose_j17_step _ _ _ _ ⟨fun hb => by simp at hb; omega, fun _ => sS0⟩)
   have sP0 : transcode_Lose_j17 0 v v.Pairs (⟨v.Kind, v.Bits, v.Text, [], (v.Pairs.map (fun p => (loseN n p.1, loseN n p.2))), (v.Slots.map (fun p => (p.1, loseN n p.2))), []⟩ : GValue) := by
    have := sP _ 0 (Nat.le_refl _) (Nat.zero_le _)
    rwa [mix_zero] at this
   have sL : transcode_Lose_j13 v (⟨v.Kind, v.Bits, v.Text, [], (v.Pairs.map (fun p => (loseN n p.1, loseN n p.2))), (v.Slots.map (fun p => (p.1, loseN n p.2))), []⟩ : GValue) := transcode_Lose_j13_step _ _ ⟨fun hb => by simp at hb, fun _ => sP0⟩
   exact sL
  have w4 : v.List_ ≠ [] -> v.Pairs = [] -> v.Slots = [] -> transcode_Lose_j23 0 v v.List_ (⟨v.Kind, v.Bits, v.Text, (v.List_.map (loseN n)), [], [], []⟩ : GValue) := by
   intro eL eP eS
   have sS : transcode_Lose_j25 v (v.List_.map (loseN n)) (⟨v.Kind, v.Bits, v.Text, (v.List_.map (loseN n)), [], [], []⟩ : GValue) := transcode_Lose_j25_step _ _ _ ⟨fun hb => by simp at hb, fun _ => ⟨by simp, rfl⟩⟩
   have sP : transcode_Lose_j24 v (v.List_.map (loseN n)) (⟨v.Kind, v.Bits, v.Text, (v.List_.map (loseN n)), [], [], []⟩ : GValue) := transcode_Lose_j24_step _ _ _ ⟨fun hb => by simp at hb, fun _ => sS⟩
   have sL : ∀ d i : Nat, v.List_.length - i <= d -> i <= v.List_.length -> transcode_Lose_j23 i v (mix (loseN n) v.List_ i) (⟨v.Kind, v.Bits, v.Text, (v.List_.map (loseN n)), [], [], []⟩ : GValue) := by
    intro d
    induction d with
    | zero => intro i hd hi; exact (by rw [mix_end _ (by omega)]; exact transcode_Lose_j23_step _ _ _ _ ⟨fun hb => by simp at hb; omega, fun _ => sP⟩)
    | succ d ih =>
     intro i hd hi
     rcases Nat.lt_or_ge i v.List_.length with hlt | hge
     ·refine transcode_Lose_j23_step _ _ _ _ ⟨fun _ => ⟨⟨by omega, by omega⟩, v.List_[i], by simpa using mix_get (loseN n) hlt, _, ihn _ (h5 _ (List.getElem_mem hlt)), ⟨by omega, by omega⟩, by simp [mix_len]; omega, ?_⟩, fun hb => by simp at hb; omega⟩
      rw [tl_wI (by omega), Int.toNat_natCast]
      have := ih (i + 1) (by omega) (by omega)
      rwa [← mix_set (loseN n) hlt] at this
     ·exact (by rw [mix_end _ (by omega)]; exact transcode_Lose_j23_step _ _ _ _ ⟨fun hb => by simp at hb; omega, fun _ => sP⟩)
   have sL0 : transcode_Lose_j23 0 v v.List_ (⟨v.Kind, v.Bits, v.Text, (v.List_.map (loseN n)), [], [], []⟩ : GValue) := by
    have := sL _ 0 (Nat.le_refl _) (Nat.zero_le _)
    rwa [mix_zero] at this
   exact sL0
  have w5 : v.List_ ≠ [] -> v.Pairs = [] -> v.Slots ≠ [] -> transcode_Lose_j30 0 v v.List_ (⟨v.Kind, v.Bits, v.Text, (v.List_.map (loseN n)), [], (v.Slots.map (fun p => (p.1, loseN n p.2))), []⟩ : GValue) := by
   intro eL eP eS
   have sS : ∀ d i : Nat, v.Slots.length - i <= d -> i <= v.Slots.length -> transcode_Lose_j33 i v (v.List_.map (loseN n)) (mix (fun p => (p.1, loseN n p.2)) v.Slots i) (⟨v.Kind, v.Bits, v.Text, (v.List_.map (loseN n)), [], (v.Slots.map (fun p => (p.1, loseN n p.2))), []⟩ : GValue) := by
    intro d
    induction d with
    | zero => intro i hd hi; exact (by rw [mix_end _ (by omega)]; exact transcode_Lose_j33_step _ _ _ _ _ ⟨fun hb => by simp at hb; omega, fun _ => ⟨by simp, by simp, rfl⟩⟩)
    | succ d ih =>
     intro i hd hi
     rcases Nat.lt_or_ge i v.Slots.length with hlt | hge
     ·refine transcode_Lose_j33_step _ _ _ _ _ ⟨fun _ => ⟨⟨by omega, by omega⟩, v.Slots[i], by simpa using mix_get (fun p => (p.1, loseN n p.2)) hlt, _, ihn _ (h7 _ (List.getElem_mem hlt)), ⟨by omega, by omega⟩, v.Slots[i], by simpa using mix_get (fun p => (p.1, loseN n p.2)) hlt, ?_⟩, fun hb => by simp at hb; omega⟩
      rw [tl_wI (by omega), Int.toNat_natCast]
      have := ih (i + 1) (by omega) (by omega)
      rwa [← mix_set (fun p => (p.1, loseN n p.2)) hlt] at this
     ·exact (by rw [mix_end _ (by omega)]; exact transcode_Lose_j33_step _ _ _ _ _ ⟨fun hb => by simp at hb; omega, fun _ => ⟨by simp, by simp, rfl⟩⟩)
   have sS0 : transcode_Lose_j33 0 v (v.List_.map (loseN n)) v.Slots (⟨v.Kind, v.Bits, v.Text, (v.List_.map (loseN n)), [], (v.Slots.map (fun p => (p.1, loseN n p.2))), []⟩ : GValue) := by
    have := sS _ 0 (Nat.le_refl _) (Nat.zero_le _)
    rwa [mix_zero] at this
   have sP : transcode_Lose_j31 v (v.List_.map (loseN n)) (⟨v.Kind, v.Bits, v.Text, (v.List_.map (loseN n)), [], (v.Slots.map (fun p => (p.1, loseN n p.2))), []⟩ : GValue) := transcode_Lose_j31_step _ _ _ ⟨fun hb => by simp at hb, fun _ => sS0⟩
   have sL : ∀ d i : Nat, v.List_.length - i <= d -> i <= v.List_.length -> transcode_Lose_j30 i v (mix (loseN n) v.List_ i) (⟨v.Kind, v.Bits, v.Text, (v.List_.map (loseN n)), [], (v.Slots.map (fun p => (p.1, loseN n p.2))), []⟩ : GValue) := by
    intro d
    induction d with
    | zero => intro i hd hi; exact (by rw [mix_end _ (by omega)]; exact transcode_Lose_j30_step _ _ _ _ ⟨fun hb => by simp at hb; omega, fun _ => sP⟩)
    | succ d ih =>
     intro i hd hi
     rcases Nat.lt_or_ge i v.List_.length with hlt | hge
     ·refine transcode_Lose_j30_step _ _ _ _ ⟨fun _ => ⟨⟨by omega, by omega⟩, v.List_[i], by simpa using mix_get (loseN n) hlt, _, ihn _ (h5 _ (List.getElem_mem hlt)), ⟨by omega, by omega⟩, by simp [mix_len]; omega, ?_⟩, fun hb => by simp at hb; omega⟩
      rw [tl_wI (by omega), Int.toNat_natCast]
      have := ih (i + 1) (by omega) (by omega)
      rwa [← mix_set (loseN n) hlt] at this
     ·exact (by rw [mix_end _ (by omega)]; exact transcode_Lose_j30_step _ _ _ _ ⟨fun hb => by simp at hb; omega, fun _ => sP⟩)
   have sL0 : transcode_Lose_j30 0 v v.List_ (⟨v.Kind, v.Bits, v.Text, (v.List_.map (loseN n)), [], (v.Slots.map (fun p => (p.1, loseN n p.2))), []⟩ : GValue) := by
    have := sL _ 0 (Nat.le_refl _) (Nat.zero_le _)
    rwa [mix_zero] at this
   exact sL0
  have w6 : v.List_ ≠ [] -> v.Pairs ≠ [] -> v.Slots = [] -> transcode_Lose_j39 0 v v.List_ (⟨v.Kind, v.Bits, v.Text, (v.List_.map (loseN n)), (v.Pairs.map (fun p => (loseN n p.1, loseN n p.2))), [], []⟩ : GValue) := by
   intro eL eP eS
   have sS : transcode_Lose_j43 v (v.List_.map (loseN n)) (v.Pairs.map (fun p => (loseN n p.1, loseN n p.2))) (⟨v.Kind, v.Bits, v.Text, (v.List_.map (loseN n)), (v.Pairs.map (fun p => (loseN n p.1, loseN n p.2))), [], []⟩ : GValue) := transcode_Lose_j43_step _ _ _ _ ⟨fun hb => by simp at hb, fun _ => ⟨by simp, by simp, rfl⟩⟩
   have sP : ∀ d i : Nat, v.Pairs.length - i <= d -> i <= v.Pairs.length -> transcode_Lose_j42 i v (v.List_.map (loseN n)) (mix (fun p => (loseN n p.1, loseN n p.2)) v.Pairs i) (⟨v.Kind, v.Bits, v.Text, (v.List_.map (loseN n)), (v.Pairs.map (fun p => (loseN n p.1, loseN n p.2))), [], []⟩ : GValue) := by
    intro d
    induction d with
    | zero => intro i hd hi; exact (by rw [mix_end _ (by omega)]; exact transcode_Lose_j42_step _ _ _ _ _ ⟨fun hb => by simp at hb; omega, fun _ => sS⟩)
    | succ d ih =>
     intro i hd hi
     rcases Nat.lt_or_ge i v.Pairs.length with hlt | hge
     ·refine transcode_Lose_j42_step _ _ _ _ _ ⟨fun _ => ⟨⟨by omega, by omega⟩, v.Pairs[i], by simpa using mix_get (fun p => (loseN n p.1, loseN n p.2)) hlt, _, ihn _ (h6 _ (List.getElem_mem hlt)).1, _, ihn _ (h6 _ (List.getElem_mem hlt)).2, ⟨by omega, by omega⟩, by simp [mix_len]; omega, ?_⟩, fun hb => by simp at hb; omega⟩
      rw [tl_wI (by omega), Int.toNat_natCast]
      have := ih (i + 1) (by omega) (by omega)
      rwa [← mix_set (fun p => (loseN n p.1, loseN n p.2)) hlt] at this
     ·exact (by rw [mix_end _ (by omega)]; exact transcode_Lose_j42_step _ _ _ _ _ ⟨fun hb => by simp at hb; omega, fun _ => sS⟩)
   have sP0 : transcode_Lose_j42 0 v (v.List_.map (loseN n)) v.Pairs (⟨v.Kind, v.Bits, v.Text, (v.List_.map (loseN n)), (v.Pairs.map (fun p => (loseN n p.1, loseN n p.2))), [], []⟩ : GValue) := by
    have := sP _ 0 (Nat.le_refl _) (Nat.zero_le _)
    rwa [mix_zero] at this
   have sL : ∀ d i : Nat, v.List_.length - i <= d -> i <= v.List_.length -> transcode_Lose_j39 i v (mix (loseN n) v.List_ i) (⟨v.Kind, v.Bits, v.Text, (v.List_.map (loseN n)), (v.Pairs.map (fun p => (loseN n p.1, loseN n p.2))), [], []⟩ : GValue) := by
    intro d
    induction d with
    | zero => intro i hd hi; exact (by rw [mix_end _ (by omega)]; exact transcode_Lose_j39_step _ _ _ _ ⟨fun hb => by simp at hb; omega, fun _ => sP0⟩)
    | succ d ih =>
     intro i hd hi
     rcases Nat.lt_or_ge i v.List_.length with hlt | hge
     ·refine transcode_Lose_j39_step _ _ _ _ ⟨fun _ => ⟨⟨by omega, by omega⟩, v.List_[i], by simpa using mix_get (loseN n) hlt, _, ihn _ (h5 _ (List.getElem_mem hlt)), ⟨by omega, by omega⟩, by simp [mix_len]; omega, ?_⟩, fun hb => by simp at hb; omega⟩
      rw [tl_wI (by omega), Int.toNat_natCast]
      have := ih (i + 1) (by omega) (by omega)
      rwa [← mix_set (loseN n) hlt] at this
     ·exact (by rw [mix_end _ (by omega)]; exact transcode_Lose_j39_step _ _ _ _ ⟨fun hb => by simp at hb; omega, fun _ => sP0⟩)
   have sL0 : transcode_Lose_j39 0 v v.List_ (⟨v.Kind, v.Bits, v.Text, (v.List_.map (loseN n)), (v.Pairs.map (fun p => (loseN n p.1, loseN n p.2))), [], []⟩ : GValue) := by
    have := sL _ 0 (Nat.le_refl _) (Nat.zero_le _)
    rwa [mix_zero] at this
   exact sL0
  have w7 : v.List_ ≠ [] -> v.Pairs ≠ [] -> v.Slots ≠ [] -> transcode_Lose_j51 0 v v.List_ (⟨v.Kind, v.Bits, v.Text, (v.List_.map (loseN n)), (v.Pairs.map (fun p => (loseN n p.1, loseN n p.2))), (v.Slots.map (fun p => (p.1, loseN n p.2))), []⟩ : GValue) := by
   intro eL eP eS
   have sS : ∀ d i : Nat, v.Slots.length - i <= d -> i <= v.Slots.length -> transcode_Lose_j57 i v (v.List_.map (loseN n)) (v.Pairs.map (fun p => (loseN n p.1, loseN n p.2))) (mix (fun p => (p.1, loseN n p.2)) v.Slots i) (⟨v.Kind, v.Bits, v.Text, (v.List_.map (loseN n)), (v.Pairs.map (fun p => (loseN n p.1, loseN n p.2))), (v.Slots.map (fun p => (p.1, loseN n p.2))), []⟩ : GValue) := by
    intro d
    induction d with
    | zero => intro i hd hi; exact (by rw [mix_end _ (by omega)]; exact transcode_Lose_j57_step _ _ _ _ _ _ ⟨fun hb => by simp at hb; omega, fun _ => ⟨by simp, by simp, by simp, rfl⟩⟩)
    | succ d ih =>
     intro i hd hi
     rcases Nat.lt_or_ge i v.Slots.length with hlt | hge
     ·refine transcode_Lose_j57_step _ _ _ _ _ _ ⟨fun _ => ⟨⟨by omega, by omega⟩, v.Slots[i], by simpa using mix_get (fun p => (p.1, loseN n p.2)) hlt, _, ihn _ (h7 _ (List.getElem_mem hlt)), ⟨by omega, by omega⟩, v.Slots[i], by simpa using mix_get (fun p => (p.1, loseN n p.2)) hlt, ?_⟩, fun hb => by simp at hb; omega⟩
      rw [tl_wI (by omega), Int.toNat_natCast]
      have := ih (i + 1) (by omega) (by omega)
      rwa [← mix_set (fun p => (p.1, loseN n p.2)) hlt] at this
     ·exact (by rw [mix_end _ (by omega)]; exact transcode_Lose_j57_step _ _ _ _ _ _ ⟨fun hb => by simp at hb; omega, fun _ => ⟨by simp, by simp, by simp, rfl⟩⟩)
   have sS0 : transcode_Lose_j57 0 v (v.List_.map (loseN n)) (v.Pairs.map (fun p => (loseN n p.1, loseN n p.2))) v.Slots (⟨v.Kind, v.Bits, v.Text, (v.List_.map (loseN n)), (v.Pairs.map (fun p => (loseN n p.1, loseN n p.2))), (v.Slots.map (fun p => (p.1, loseN n p.2))), []⟩ : GValue) := by
    have := sS _ 0 (Nat.le_refl _) (Nat.zero_le _)
    rwa [mix_zero] at this
   have sP : ∀ d i : Nat, v.Pairs.length - i <= d -> i <= v.Pairs.length -> transcode_Lose_j55 i v (v.List_.map (loseN n)) (mix (fun p => (loseN n p.1, loseN n p.2)) v.Pairs i) (⟨v.Kind, v.Bits, v.Text, (v.List_.map (loseN n)), (v.Pairs.map (fun p => (loseN n p.1, loseN n p.2))), (v.Slots.map (fun p => (p.1, loseN n p.2))), []⟩ : GValue) := by
    intro d
    induction d with
    | zero => intro i hd hi; exact (by rw [mix_end _ (by omega)]; exact transcode_Lose_j55_step _ _ _ _ _ ⟨fun hb => by simp at hb; omega, fun _ => sS0⟩)
    | succ d ih =>
     intro i hd hi
     rcases Nat.lt_or_ge i v.Pairs.length with hlt | hge
     ·refine transcode_Lose_j55_step _ _ _ _ _ ⟨fun _ => ⟨⟨by omega, by omega⟩, v.Pairs[i], by simpa using mix_get (fun p => (loseN n p.1, loseN n p.2)) hlt, _, ihn _ (h6 _ (List.getElem_mem hlt)).1, _, ihn _ (h6 _ (List.getElem_mem hlt)).2, ⟨by omega, by omega⟩, by simp [mix_len]; omega, ?_⟩, fun hb => by simp at hb; omega⟩
      rw [tl_wI (by omega), Int.toNat_natCast]
      have := ih (i + 1) (by omega) (by omega)
      rwa [← mix_set (fun p => (loseN n p.1, loseN n p.2)) hlt] at this
     ·exact (by rw [mix_end _ (by omega)]; exact transcode_Lose_j55_step _ _ _ _ _ ⟨fun hb => by simp at hb; omega, fun _ => sS0⟩)
   have sP0 : transcode_Lose_j55 0 v (v.List_.map (loseN n)) v.Pairs (⟨v.Kind, v.Bits, v.Text, (v.List_.map (loseN n)), (v.Pairs.map (fun p => (loseN n p.1, loseN n p.2))), (v.Slots.map (fun p => (p.1, loseN n p.2))), []⟩ : GValue) := by
    have := sP _ 0 (Nat.le_refl _) (Nat.zero_le _)
    rwa [mix_zero] at this
   have sL : ∀ d i : Nat, v.List_.length - i <= d -> i <= v.List_.length -> transcode_Lose_j51 i v (mix (loseN n) v.List_ i) (⟨v.Kind, v.Bits, v.Text, (v.List_.map (loseN n)), (v.Pairs.map (fun p => (loseN n p.1, loseN n p.2))), (v.Slots.map (fun p => (p.1, loseN n p.2))), []⟩ : GValue) := by
    intro d
    induction d with
    | zero => intro i hd hi; exact (by rw [mix_end _ (by omega)]; exact transcode_Lose_j51_step _ _ _ _ ⟨fun hb => by simp at hb; omega, fun _ => sP0⟩)
    | succ d ih =>
     intro i hd hi
     rcases Nat.lt_or_ge i v.List_.length with hlt | hge
     ·refine transcode_Lose_j51_step _ _ _ _ ⟨fun _ => ⟨⟨by omega, by omega⟩, v.List_[i], by simpa using mix_get (loseN n) hlt, _, ihn _ (h5 _ (List.getElem_mem hlt)), ⟨by omega, by omega⟩, by simp [mix_len]; omega, ?_⟩, fun hb => by simp at hb; omega⟩
      rw [tl_wI (by omega), Int.toNat_natCast]
      have := ih (i + 1) (by omega) (by omega)
      rwa [← mix_set (loseN n) hlt] at this
     ·exact (by rw [mix_end _ (by omega)]; exact transcode_Lose_j51_step _ _ _ _ ⟨fun hb => by simp at hb; omega, fun _ => sP0⟩)
   have sL0 : transcode_Lose_j51 0 v v.List_ (⟨v.Kind, v.Bits, v.Text, (v.List_.map (loseN n)), (v.Pairs.map (fun p => (loseN n p.1, loseN n p.2))), (v.Slots.map (fun p => (p.1, loseN n p.2))), []⟩ : GValue) := by
    have := sL _ 0 (Nat.le_refl _) (Nat.zero_le _)
    rwa [mix_zero] at this
   exact sL0
  exact transcode_Lose_step _ _ ⟨fun eL => ⟨cL _ eL, ⟨fun eP => ⟨cP _ eP, ⟨fun eS => ⟨cS _ eS, by have := w0 eL eP eS; simpa [loseN, eL, eP, eS] using this⟩, fun eS => ⟨slices_Clone_LSlot_Slot_new_step _ ⟨eS, h3⟩, by have := w1 eL eP eS; simpa [loseN, eL, eP] using this⟩⟩⟩, fun eP => ⟨slices_Clone_LPair_Pair_new_step _ ⟨eP, h2⟩, ⟨fun eS => ⟨cS _ eS, by have := w2 eL eP eS; simpa [loseN, eL, eS] using this⟩, fun eS => ⟨slices_Clone_LSlot_Slot_new_step _ ⟨eS, h3⟩, by have := w3 eL eP eS; simpa [loseN, eL] using this⟩⟩⟩⟩⟩, fun eL => ⟨slices_Clone_LValue_Value_new_step _ ⟨eL, h1⟩, ⟨fun eP => ⟨cP _ eP, ⟨fun eS => ⟨cS _ eS, by have := w4 eL eP eS; simpa [loseN, eP, eS] using this⟩, fun eS => ⟨slices_Clone_LSlot_Slot_new_step _ ⟨eS, h3⟩, by have := w5 eL eP eS; simpa [loseN, eP] using this⟩⟩⟩, fun eP => ⟨slices_Clone_LPair_Pair_new_step _ ⟨eP, h2⟩, ⟨fun eS => ⟨cS _ eS, by have := w6 eL eP eS; simpa [loseN, eS] using this⟩, fun eS => ⟨slices_Clone_LSlot_Slot_new_step _ ⟨eS, h3⟩, by have := w7 eL eP eS; simpa [loseN, loseN] using this⟩⟩⟩⟩⟩⟩
theorem fine_of : ∀ (n : Nat) (v : GValue), SizeOf.sizeOf v < n -> OkD v -> fineN n v
 | 0, v, h, _ => absurd h (Nat.not_lt_zero _)
 | n + 1, v, h, .mk _ k b t l p s r hl hk hv hn hs hr w => by
  obtain ⟨w1, w2, w3, w4⟩ := w
  unfold Sz at w1 w2 w3 w4 r
  have hv' : SizeOf.sizeOf v.List_ < n /\ SizeOf.sizeOf v.Pairs < n /\ SizeOf.sizeOf v.Slots < n := by
   cases v
   simp only [GValue.mk.sizeOf_spec] at h
   simp only
   omega
  refine ⟨by omega, by omega, by omega, by omega, fun x hx => fine_of n x ?_ (hl x hx), fun x hx => ⟨fine_of n x.1 ?_ (hk x hx), fine_of n x.2 ?_ (hv x hx)⟩, fun x hx => fine_of n x.2 ?_ (hs x hx)⟩
  ·have := List.sizeOf_lt_of_mem hx; omega
  ·have := List.sizeOf_lt_of_mem hx
   obtain ⟨a, b⟩ := x
   simp only [Prod.mk.sizeOf_spec] at this
   show SizeOf.sizeOf a < n
   omega
  ·have := List.sizeOf_lt_of_mem hx
   obtain ⟨a, b⟩ := x
   simp only [Prod.mk.sizeOf_spec] at this
   show SizeOf.sizeOf b < n
   omega
  ·have := List.sizeOf_lt_of_mem hx
   obtain ⟨a, b⟩ := x
   simp only [Prod.mk.sizeOf_spec] at this
   show SizeOf.sizeOf b < n
   omega
theorem loses_true (v : GValue) (hv : OkD v) (ha : law34_awake true) : law34_TranscodeLoses v true :=
 loses_of (SizeOf.sizeOf v + 1) v (fine_of _ v (Nat.lt_succ_self _) hv) (fun x hx => tlose_is _ x hx) ha
end Go.Proofs.YtgedjdefcmdinaaGreat.Lift
