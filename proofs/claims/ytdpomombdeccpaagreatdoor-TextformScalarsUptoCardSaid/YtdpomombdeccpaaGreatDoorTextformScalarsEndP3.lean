/- Part 4 of the texts that prove TextformScalarsEnd. -/
import Derived.Test.YtdpomombdeccpaaGreatDoorTextformScalarsEndP2
import Derived.Test.YtdpomombdeccpaaGreatDoorTextformScalarsEndP1
import Derived.OpenShut
import Derived.ProofKit
import Derived.Test.YtdpomombdeccpaaGreatDoorProg
import Derived.WalkKit
import Derived.Lib.Builder
import Derived.Laws.Externs
namespace Go.Proofs.YtdpomombdeccpaaGreatDoor.Lift
open Go.RowKit
set_option linter.unusedVariables false
set_option linter.unusedSimpArgs false
set_option linter.unnecessarySimpa false
set_option linter.unusedSectionVars false
set_option maxRecDepth 100000
def cdN (P : Program) (f : Nat) : Nat := ((getFn P f).map fun x => x.1).getD 0
def cdC (P : Program) (f : Nat) : ACode := ((getFn P f).map fun x => x.2.1).getD .skip
def cdR (P : Program) (f : Nat) : List ARes := ((getFn P f).map fun x => x.2.2).getD []
def xopF (o : AOp) (env : Env) : Option AV :=
 match o with
 | .len true x => match x.ev env with
  | some (.v (.string s)) => some (.v (.int .i64 s.size))
  | _ => none
 | .bin .eql x y => match x.ev env, y.ev env with
  | some (.v (.string a)), some (.v (.string b)) => some (.v (.bool (decide (a = b))))
  | _, _ => none
 | .bin .neq x y => match x.ev env, y.ev env with
  | some (.v (.string a)), some (.v (.string b)) => some (.v (.bool (!decide (a = b))))
  | _, _ => none
 | .bin .lss x y => match x.ev env, y.ev env with
  | some (.v (.string a)), some (.v (.string b)) => some (.v (.bool (Op.bytesLess a.toList b.toList)))
  | _, _ => none
 | .bin .leq x y => match x.ev env, y.ev env with
  | some (.v (.string a)), some (.v (.string b)) => some (.v (.bool (Op.bytesLess a.toList b.toList || a.toList == b.toList)))
  | _, _ => none
 | .bin .gtr x y => match x.ev env, y.ev env with
  | some (.v (.string a)), some (.v (.string b)) => some (.v (.bool (!(Op.bytesLess a.toList b.toList || a.toList == b.toList))))
  | _, _ => none
 | .bin .geq x y => match x.ev env, y.ev env with
  | some (.v (.string a)), some (.v (.string b)) => some (.v (.bool (!(Op.bytesLess a.toList b.toList))))
  | _, _ => none
 | .pick c x y => match c.ev env, x.ev env, y.ev env with
  | some (.v (.bool t)), some (.v (.bool a)), some (.v (.bool b)) => some (.v (.bool (bif t then a else b)))
  | some (.v (.bool t)), some (.v (.int k a)), some (.v (.int k2 b)) => if k = k2 then some (.v (.int k (bif t then a else b))) else none
  | some (.v (.bool t)), some (.v (.string a)), some (.v (.string b)) => some (.v (.string (bif t then a else b)))
  | _, _, _ => none
 | .minmax true [x, y] => match x.ev env, y.ev env with
  | some (.v (.int k a)), some (.v (.int _ b)) => some (.v (.int k (max a b)))
  | _, _ => none
 | .minmax false [x, y] => match x.ev env, y.ev env with
  | some (.v (.int k a)), some (.v (.int _ b)) => some (.v (.int k (min a b)))
  | _, _ => none
 | .minmax true [x, y, z] => match x.ev env, y.ev env, z.ev env with
  | some (.v (.int k a)), some (.v (.int _ b)), some (.v (.int _ c)) => some (.v (.int k (max (max a b) c)))
  | _, _, _ => none
 | .minmax false [x, y, z] => match x.ev env, y.ev env, z.ev env with
  | some (.v (.int k a)), some (.v (.int _ b)), some (.v (.int _ c)) => some (.v (.int k (min (min a b) c)))
  | _, _, _ => none
 | _ => none
theorem xop_does {P : Program} {o : AOp} {env : Env} {av : AV} (he : xopF o env = some av) (h : AHeap) : Does P o env h av h := by
 unfold xopF at he
 split at he
 case h_1 =>
  split at he
  ·rename_i hx; cases he; exact q_lenS hx
  ·cases he
 case h_2 =>
  split at he
  ·rename_i hx hy; cases he; exact q_eqS hx hy
  ·cases he
 case h_3 =>
  split at he
  ·rename_i hx hy; cases he; exact q_neS hx hy
  ·cases he
 case h_4 =>
  split at he
  ·rename_i hx hy; cases he; exact q_bin hx hy (c := True) rfl trivial
  ·cases he
 case h_5 =>
  split at he
  ·rename_i hx hy; cases he; exact q_bin hx hy (c := True) rfl trivial
  ·cases he
 case h_6 =>
  split at he
  ·rename_i hx hy; cases he; exact q_bin hx hy (c := True) rfl trivial
  ·cases he
 case h_7 =>
  split at he
  ·rename_i hx hy; cases he; exact q_bin hx hy (c := True) rfl trivial
  ·cases he
 case h_8 =>
  split at he
  ·rename_i hc hx hy; cases he; exact q_pickB hc hx hy
  ·rename_i hc hx hy
   split at he
   ·rename_i hk; subst hk; cases he; exact q_pickI hc hx hy
   ·cases he
  ·rename_i hc hx hy; cases he; exact q_pickS hc hx hy
  ·cases he
 case h_9 =>
  split at he
  ·rename_i hx hy; cases he; exact q_max2 hx hy
  ·cases he
 case h_10 =>
  split at he
  ·rename_i hx hy; cases he; exact q_min2 hx hy
  ·cases he
 case h_11 =>
  split at he
  ·rename_i hx hy hz; cases he; exact q_max3 hx hy hz
  ·cases he
 case h_12 =>
  split at he
  ·rename_i hx hy hz; cases he; exact q_min3 hx hy hz
  ·cases he
 case h_13 => cases he
inductive Fr where
 | sq (y : ACode)
 | bk (i : Nat)
 | lp (x : ACode)
 | sc (l : Nat) (x : ACode)
 | sn
inductive Pc where
 | c (x : ACode)
 | v (L : List AOper)
 | s (b : Bool) (L : List AOper) (S gl : List (Nat × List AV)) (w : Option AOper) (tl : List AOper)
 | n (e : Exit)
 | l (x : ACode)
 | g (l : Nat) (x : ACode)
structure Mc where
 pc : Pc
 k : List Fr
 env : Env
 h : AHeap
inductive Rm where
 | ret (r : AV)
 | io (gl : List (Nat × List AV)) (k : Nat) (r : AV) (c : List AV) (b : List (Nat × Nat))
 | inl (kb kf : Nat) (K : AV -> AHeap -> Prop)
def Rm.kb : Rm -> Nat
 | .ret _ => 0
 | .io _ _ _ _ _ => 1
 | .inl b _ _ => b
def Rm.kf : Rm -> Nat
 | .ret _ => 0
 | .io _ k _ _ _ => k
 | .inl _ k _ => k
def Rm.Q (rs : List ARes) : Rm -> Exit -> Env -> AHeap -> Prop
 | .ret r => qret rs r
 | .io gl k r c b => qio gl k rs r c b
 | .inl _ _ K => fnPost rs K
section
variable (P : Program) (f : Nat) (R : Rm)
def Qs : List Fr -> Exit -> Env -> AHeap -> Prop
 | [] => R.Q (cdR P f)
 | .sq y :: k => thenA (fun e h => D P (cdN P f) R.kb R.kf y (Qs k) e h) (Qs k)
 | .bk i :: k => inBlockA i (Qs k)
 | .lp x :: k => thenA (fun e h => DL P (cdN P f) R.kb R.kf x (Qs k) e h) (Qs k)
 | .sc l x :: k => jumpA l (fun e h => DG P (cdN P f) R.kb R.kf x l (Qs k) e h) (Qs k)
 | .sn :: k => noGotoA (Qs k)
def KK (w : Option AOper) (tl : List AOper) (K : Env -> AHeap -> Prop) : Env -> AHeap -> Prop := match w with
 | none => fun e h => vd P tl e h K
 | some w => fun e h => ∃ av h', Does P w.op e h av h' /\ vd P tl e h' K
def Ok (s : Mc) : Prop := match s.pc with
 | .c x => D P (cdN P f) R.kb R.kf x (Qs P f R s.k) s.env s.h
 | .v L => vd P L s.env s.h (fun e h => Qs P f R s.k .normal e h)
 | .s b L S gl w tl => vs P (InS S gl) b L s.env s.h (KK P w tl fun e h => Qs P f R s.k .normal e h)
 | .n e => Qs P f R s.k e s.env s.h
 | .l x => DL P (cdN P f) R.kb R.kf x (Qs P f R s.k) s.env s.h
 | .g l x => DG P (cdN P f) R.kb R.kf x l (Qs P f R s.k) s.env s.h
end
def Wk (P : Program) (f : Nat) (R : Rm) (s : Mc) (W : Prop) : Prop := W -> Ok P f R s
abbrev IF (c : Bool) (p q : Prop) : Prop := (c = true -> p) /\ (c = false -> q)
abbrev ID (c : Prop) [Decidable c] (p q : Prop) : Prop := IF (decide c) p q
abbrev IX {α : Type} (l : List α) (n : Int) (W : α -> Prop) : Prop := ∃ y, l[n.toNat]? = some y /\ 0 <= n /\ W y
abbrev JN {T : Type} (W : T -> Prop) (q : (T -> Prop) -> Prop) : Prop := ∃ R : T -> Prop, (∀ z, R z -> W z) /\ q R
abbrev SI (t : ByteArray) (n : Int) (p : Prop) : Prop := (0 <= n /\ n < (t.size : Int)) /\ p
abbrev SS (t : ByteArray) (a u : Int) (p : Prop) : Prop := (0 <= a /\ a <= u /\ u <= (t.size : Int)) /\ p
abbrev CT (a b : ByteArray) (p : Prop) : Prop := ((a.size + b.size : Nat) : Int) <= 9223372036854775807 /\ p
def gotoOf : ACode -> Option Nat
 | .goto l => some l
 | .seq a b => match gotoOf a with
  | some l => some l
  | none => gotoOf b
 | .cond _ a b => match gotoOf a with
  | some l => some l
  | none => gotoOf b
 | .block _ a => gotoOf a
 | .loop a => gotoOf a
 | .scope a => gotoOf a
 | _ => none
def pop : Exit -> List Fr -> Option (Pc × List Fr)
 | _, [] => none
 | e, .sq y :: k => match e with
  | .normal => some (.c y, k)
  | e => some (.n e, k)
 | e, .lp x :: k => match e with
  | .normal => some (.l x, k)
  | e => some (.n e, k)
 | e, .bk j :: k => match e with
  | .exit i => some (.n (if i = j then .normal else .exit i), k)
  | e => some (.n e, k)
 | e, .sc l x :: k => match e with
  | .goto i => if i = l then some (.g l x, k) else none
  | e => some (.n e, k)
 | e, .sn :: k => match e with
  | .goto _ => none
  | e => some (.n e, k)
def bnd (S : List (Nat × List AV)) : Nat := S.foldl (fun n p => max n (p.1 + 1)) 0
def opn (o : AOper) (env : Env) (h : AHeap) : Option (AV × AHeap) := match xopF o.op env with
 | some a => some (a, h)
 | none => aopF false noC o.op env h
def step (s : Mc) : Mc := match s.pc with
 | .c x => match x with
  | .skip => ⟨.n .normal, s.k, s.env, s.h⟩
  | .region L => ⟨.v L, s.k, s.env, s.h⟩
  | .seq a b => ⟨.c a, .sq b :: s.k, s.env, s.h⟩
  | .block i a => ⟨.c a, .bk i :: s.k, s.env, s.h⟩
  | .cond c a b => match c.ev s.env with
   | some (.v (.bool true)) => ⟨.c a, s.k, s.env, s.h⟩
   | some (.v (.bool false)) => ⟨.c b, s.k, s.env, s.h⟩
   | _ => s
  | .loop a => ⟨.l a, s.k, s.env, s.h⟩
  | .exit i => ⟨.n (.exit i), s.k, s.env, s.h⟩
  | .ret => ⟨.n .ret, s.k, s.env, s.h⟩
  | .scope a => match gotoOf a with
   | none => ⟨.c a, .sn :: s.k, s.env, s.h⟩
   | some l => match aFind a l with
    | some _ => ⟨.c a, .sc l a :: s.k, s.env, s.h⟩
    | none => s
  | .label _ => ⟨.n .normal, s.k, s.env, s.h⟩
  | .goto l => ⟨.n (.goto l), s.k, s.env, s.h⟩
  | _ => s
 | .v [] => ⟨.n .normal, s.k, s.env, s.h⟩
 | .v (o :: L) => match guardF s.env o.guard with
  | some false => ⟨.v L, s.k, dropE s.env o.dst, s.h⟩
  | some true => match opn o s.env s.h with
   | some p => ⟨.v L, s.k, putE s.env o.dst p.1, p.2⟩
   | none => s
  | none => s
 | .s _ [] _ _ none tl => ⟨.v tl, s.k, s.env, s.h⟩
 | .s _ [] _ _ (some _) _ => s
 | .s b (o :: L) S gl w tl => match guardF s.env o.guard with
  | some false => ⟨.s b L S gl w tl, s.k, dropE s.env o.dst, s.h⟩
  | some true => match o.op, o.guard, b with
   | .alloc cells, none, true => ⟨.s b L S gl w tl, s.k, putE s.env o.dst (.ptr s.h.blks.length 0), ⟨s.h.blks ++ [some cells], s.h.bufs, s.h.globs⟩⟩
   | _, _, _ => if quietOp o.op = true then match opn o s.env ⟨mini (bnd S) S, [], gl⟩ with
     | some p => ⟨.s b L S gl w tl, s.k, putE s.env o.dst p.1, s.h⟩
     | none => s
    else s
  | none => s
 | .n e => match pop e s.k with
  | some p => ⟨p.1, p.2, s.env, s.h⟩
  | none => s
 | .l x => ⟨.c x, .lp x :: s.k, s.env, s.h⟩
 | .g l x => match aFind x l with
  | some y => ⟨.c y, .sc l x :: s.k, s.env, s.h⟩
  | none => s
def run : Nat -> Mc -> Mc
 | 0, s => s
 | n + 1, s => run n (step s)
section
variable {P : Program} {f : Nat} {R : Rm} {s : Mc}
theorem km_Qs : ∀ k, KMono fun e h => Qs P f R k .normal e h
 | [] => by cases R <;> first | exact km_ret | exact km_io | exact fun e env h he hx => outs_less he hx
 | .sq y :: k => km_d
 | .bk i :: k => km_Qs k
 | .lp x :: k => km_dl
 | .sc l x :: k => km_Qs k
 | .sn :: k => km_Qs k
theorem km_eK {w : Option AOper} {tl : List AOper} {K : Env -> AHeap -> Prop} (hK : KMono K) : KMono (KK P w tl K) := by
 cases w with
 | none => exact km_vd hK
 | some w => exact fun e env h he ⟨av, h', hd, hv⟩ => ⟨av, h', hd.less he, vd_less hK he hv⟩
theorem opn_quiet {n : Nat} {S gl : List (Nat × List AV)} {o : AOper} {env : Env} {p : AV × AHeap} (hq : quietOp o.op = true) (he : opn o env ⟨mini n S, [], gl⟩ = some p) : ∀ h2, InS S gl h2 -> aopQ P o.op env h2 p.1 := by
 unfold opn at he
 split at he
 ·rename_i a ha
  cases he
  exact fun h2 _ => (xop_does ha h2).q
 ·exact quiet_all hq he
theorem opn_does {o : AOper} {env : Env} {h : AHeap} {p : AV × AHeap} (he : opn o env h = some p) : Does P o.op env h p.1 p.2 := by
 unfold opn at he
 split at he
 ·rename_i a ha
  cases he
  exact xop_does ha h
 ·exact does_F he
theorem pop_ok {e : Exit} {k : List Fr} {p : Pc × List Fr} {env : Env} {h : AHeap} (hp : pop e k = some p) (hk : Ok P f R ⟨p.1, p.2, env, h⟩) : Qs P f R k e env h := by
 cases k with
 | nil => cases hp
 | cons fr k =>
  cases fr with
  | sq y => cases e <;> (cases hp; exact hk)
  | lp x => cases e <;> (cases hp; exact hk)
  | bk j =>
   cases e with
   | exit i =>
    cases hp
    show (if i = j then Qs P f R k .normal env h else Qs P f R k (.exit i) env h)
    split
    ·rename_i hij; rw [if_pos hij] at hk; exact hk
    ·rename_i hij; rw [if_neg hij] at hk; exact hk
   | _ => cases hp; exact hk
  | sc l x =>
   cases e
   case goto i =>
    simp only [pop] at hp
    split at hp
    ·rename_i hil; cases hp; exact ⟨hil, hk⟩
    ·cases hp
   all_goals (cases hp; exact hk)
  | sn => cases e <;> (cases hp; try exact hk)
theorem ok_step (hk : Ok P f R (step s)) : Ok P f R s := by
 obtain ⟨pc, k, env, h⟩ := s
 cases pc with
 | c x =>
  cases x with
  | skip => exact d_skip hk
  | region L => exact dr hk
  | seq a b => exact d_seqQ hk
  | block i a => exact d_blockQ hk
  | loop a => exact d_loopQ hk
  | exit i => exact d_exit hk
  | ret => exact d_ret hk
  | label _ => exact d_label hk
  | goto l => exact d_goto hk
  | cond c a b =>
   simp only [step] at hk
   split at hk
   ·rename_i hc; exact d_cond_t hc rfl hk
   ·rename_i hc; exact d_cond_f hc rfl hk
   ·exact hk
  | scope a =>
   simp only [step] at hk
   split at hk
   ·exact d_scope0 hk
   ·split at hk
    ·rename_i hf; exact d_scopeQ hf hk
    ·exact hk
  | _ => exact hk
 | v L =>
  cases L with
  | nil => exact hk
  | cons o L =>
   simp only [step] at hk
   split at hk
   ·rename_i hg; exact .inl ⟨hg, hk⟩
   ·rename_i hg
    split at hk
    ·rename_i p hp; exact .inr (.inl ⟨hg, p.1, p.2, opn_does hp, hk⟩)
    ·exact hk
   ·exact hk
 | s b L S gl w tl =>
  cases L with
  | nil => cases w <;> exact hk
  | cons o L =>
   simp only [step] at hk
   split at hk
   ·rename_i hg; exact .inl ⟨hg, hk⟩
   ·rename_i hg
    split at hk
    ·rename_i cells h1 h2
     exact .inr (.inr (.inr ⟨rfl, cells, h1, h2, hk⟩))
    ·split at hk
     ·rename_i hq
      split at hk
      ·rename_i p hp; exact .inr (.inl ⟨hg, hq, p.1, opn_quiet hq hp, hk⟩)
      ·exact hk
     ·exact hk
   ·exact hk
 | n e =>
  simp only [step] at hk
  split at hk
  ·rename_i p hp; exact pop_ok hp hk
  ·exact hk
 | l x => exact dl_unroll hk
 | g l x =>
  simp only [step] at hk
  split at hk
  ·rename_i hf; exact dg_unroll hf hk
  ·exact hk
theorem ok_run : ∀ (n : Nat) {s : Mc}, Ok P f R (run n s) -> Ok P f R s
 | 0, _, hk => hk
 | n + 1, _, hk => ok_step (ok_run n hk)
theorem ok_less {e : Env} (he : Less e s.env) (hc : (match s.pc with | .n _ => false | .g _ _ => false | _ => true) = true) (hk : Ok P f R ⟨s.pc, s.k, e, s.h⟩) : Ok P f R s := by
 obtain ⟨pc, k, env, h⟩ := s
 cases pc with
 | c x => exact km_d e env h he hk
 | v L => exact vd_less (km_Qs k) he hk
 | s b L S gl w tl => exact vs_less (km_eK (km_Qs k)) he hk
 | l x => exact km_dl e env h he hk
 | _ => cases hc
end
structure En (α : Type) where
 e : α -> List AV
 f : α -> List AV
 sz : Nat
 eq : ∀ y, f y = e y
 len : ∀ y, (e y).length = sz
 ro : RowE f sz
def oX : AOp -> AOpd
 | .idxSl _ x _ => x
 | .idxS x _ => x
 | .len _ x => x
 | .bin _ x _ => x
 | .sliceS x _ _ => x
 | .sliceV _ x _ _ _ => x
 | .append _ _ _ x _ => x
 | .conv _ x => x
 | .bytes x => x
 | .load _ x => x
 | .store _ p _ => p
 | .make _ _ _ x _ => x
 | .call f _ => f
 | .eq _ _ x _ => x
 | .next x => x
 | .assertT _ _ _ x => x
 | _ => .t 0
def oY : AOp -> AOpd
 | .idxSl _ _ i => i
 | .idxS _ i => i
 | .bin _ _ y => y
 | .append _ _ _ _ y => y
 | .store _ _ x => x
 | .make _ _ _ _ y => y
 | .eq _ _ _ y => y
 | _ => .t 0
def oE : AOp -> TypeId
 | .append e _ _ _ _ => e
 | _ => 0
def oA : AOp -> List AOpd
 | .call _ l => l
 | _ => []
def oLo : AOp -> Option AOpd
 | .sliceS _ l _ => l
 | .sliceV _ _ l _ _ => l
 | _ => none
def oHi : AOp -> Option AOpd
 | .sliceS _ _ l => l
 | .sliceV _ _ _ l _ => l
 | _ => none
def oB : AOp -> BinOp
 | .bin b _ _ => b
 | _ => .add
def opS (s : Mc) : AOper := match s.pc with
 | .v (o :: _) => o
 | .s _ (o :: _) _ _ _ _ => o
 | .s _ [] _ _ (some w) _ => w
 | _ => ⟨none, .alloc [], none⟩
def op (s : Mc) : AOp := (opS s).op
def put (s : Mc) (av : AV) : Mc := match s.pc with
 | .v (o :: L) => ⟨.v L, s.k, putE s.env o.dst av, s.h⟩
 | .s b (o :: L) S gl w tl => ⟨.s b L S gl w tl, s.k, putE s.env o.dst av, s.h⟩
 | _ => s
def putH (s : Mc) (av : AV) (h : AHeap) : Mc := match s.pc with
 | .v (o :: L) => ⟨.v L, s.k, putE s.env o.dst av, h⟩
 | .s _ (o :: L) S gl w tl => ⟨.s false L S gl w tl, s.k, putE s.env o.dst av, h⟩
 | .s _ [] _ _ (some _) tl => ⟨.v tl, s.k, s.env, h⟩
 | _ => s
def okS (s : Mc) : Bool := match s.pc with
 | .v (o :: _) => guardF s.env o.guard == some true
 | .s _ (o :: _) _ _ _ _ => guardF s.env o.guard == some true && quietOp o.op
 | _ => false
def okH (s : Mc) : Bool := match s.pc with
 | .v (o :: _) => guardF s.env o.guard == some true
 | .s _ (o :: _) _ _ _ _ => guardF s.env o.guard == some true && !quietOp o.op && !isNew o
 | .s _ [] _ _ (some _) _ => true
 | _ => false
def seS (s : Mc) (h : AHeap) : Option (List (Option (Option (List AV))) × List (Nat × List AV)) := match s.pc with
 | .s _ (_ :: _) S _ _ _ => some (inS S h, h.globs)
 | _ => none
def seE (s : Mc) : Option (List (Option (Option (List AV))) × List (Nat × List AV)) := match s.pc with
 | .s _ (_ :: _) S gl _ _ => some (S.map (fun p => some (some p.2)), gl)
 | _ => none
def Sees (s : Mc) (h : AHeap) : Prop := match s.pc with
 | .s _ _ S gl _ _ => InS S gl h
 | _ => h = s.h
def globS (s : Mc) : List (Nat × List AV) := match s.pc with
 | .s _ _ _ gl _ _ => gl
 | _ => s.h.globs
def rowS (s : Mc) (r : Nat) : Option (List AV) := match s.pc with
 | .s _ _ S _ _ _ => (S.find? fun p => p.1 == r).map (·.2)
 | _ => (s.h.blks[r]?).bind id
def xv (s : Mc) : Option AV := (oX (op s)).ev s.env
def yv (s : Mc) : Option AV := (oY (op s)).ev s.env
def binR (s : Mc) : Value := ((bin2 (oB (op s)) (xv s) (yv s)).map (·.2)).getD (.bool true)
def strR (x : Option AV) : ByteArray := match x with
 | some (.v (.string t)) => t
 | _ => ⟨#[]⟩
def ownR (x : Option AV) : Nat := match x with
 | some (.sl _ (.own i)) => i
 | _ => 0
def rowR (x : Option AV) : Nat := match x with
 | some (.row r _ _ _ _) => r
 | some (.ptr r _) => r
 | _ => 0
def rowC (x : Option AV) : Nat := match x with
 | some (.row _ _ _ _ c) => c
 | _ => 0
section
variable {P : Program} {f : Nat} {R : Rm} {s : Mc}
theorem sees_glob {h : AHeap} (hs : Sees s h) : h.globs = globS s := by
 unfold Sees at hs
 unfold globS
 split at hs
 ·exact hs.2
 ·subst hs; rfl
theorem sees_row {h : AHeap} {r : Nat} {c : List AV} (hs : Sees s h) (hr : rowS s r = some c) : h.blks[r]? = some (some c) := by
 unfold Sees at hs
 unfold rowS at hr
 split at hs
 ·rename_i hp
  rw [hp] at hr
  simp only [Option.map_eq_some_iff] at hr
  obtain ⟨p, h1, rfl⟩ := hr
  have h2 := List.find?_some h1
  have h3 : p.1 = r := by simpa using h2
  subst h3
  exact hs.1 _ _ (List.mem_of_find?_eq_some h1)
 ·rename_i hp
  subst hs
  split at hr
  ·rename_i hq; exact absurd hq (hp _ _ _ _ _ _)
  ·obtain ⟨x, h1, h2⟩ := Option.bind_eq_some_iff.1 hr
   rw [h1]; exact congrArg some h2
theorem ok_put {av : AV} (hd : ∀ h, Sees s h -> Does P (op s) s.env h av h) (hk : Ok P f R (put s av)) (hc : okS s = true) : Ok P f R s := by
 obtain ⟨pc, k, env, h⟩ := s
 cases pc with
 | v L =>
  cases L with
  | nil => cases hc
  | cons o L => exact .inr (.inl ⟨by simpa [okS] using hc, av, h, hd h rfl, hk⟩)
 | s b L S gl w tl =>
  cases L with
  | nil => cases hc
  | cons o L =>
   have hc' : guardF env o.guard = some true /\ quietOp o.op = true := by simpa [okS] using hc
   exact .inr (.inl ⟨hc'.1, hc'.2, av, fun h2 hi => (hd h2 hi).q, hk⟩)
 | _ => cases hc
theorem ok_putH {av : AV} {h' : AHeap} (hd : Does P (op s) s.env s.h av h') (hk : Ok P f R (putH s av h')) (hc : okH s = true) (hs : seS s h' = seE s) : Ok P f R s := by
 obtain ⟨pc, k, env, h⟩ := s
 cases pc with
 | v L =>
  cases L with
  | nil => cases hc
  | cons o L => exact .inr (.inl ⟨by simpa [okH] using hc, av, h', hd, hk⟩)
 | s b L S gl w tl =>
  cases L with
  | nil =>
   cases w with
   | none => cases hc
   | some w => exact ⟨av, h', hd, hk⟩
  | cons o L =>
   have hc' : (guardF env o.guard = some true /\ quietOp o.op = false) /\ isNew o = false := by simpa [okH] using hc
   have hs' : inS S h' = S.map (fun p => some (some p.2)) /\ h'.globs = gl := by simpa [seS, seE] using hs
   exact .inr (.inr (.inl ⟨hc'.1.1, hc'.1.2, hc'.2, av, h', hd, InS_of hs'.1 hs'.2, hk⟩))
 | _ => cases hc
theorem ev0 (m : Nat) {av : AV} (hd : ∀ h, Does P (op (run m s)) (run m s).env h av h) (hk : Ok P f R (put (run m s) av)) (hc : okS (run m s) = true) : Ok P f R s := ok_run m (ok_put (fun h _ => hd h) hk hc)
variable {α : Type} {W : α -> Prop} {p q : Prop}
theorem KI (m : Nat) (E : En α) {l : List α} {n : Int} (hk : ∀ {y}, Wk P f R (put (run m s) (.elt (E.e y) 0)) (W y)) (hc : okS (run m s) = true := by kernel_rfl) (ho : op (run m s) = .idxSl E.sz (oX (op (run m s))) (oY (op (run m s))) := by kernel_rfl) (hx : elsOf (xv (run m s)) = some (List.map E.f l) := by kernel_rfl) (hi : intOf (yv (run m s)) = some n := by kernel_rfl) : Wk P f R s (IX l n W) := fun hw => by
 obtain ⟨y, h1, h0, hw⟩ := hw
 exact ev0 m (fun h => by rw [ho]; exact x_idx h0 h1 (E.eq y) hx hi (E.len y)) (hk hw) hc
theorem KL {V : Prop} (m : Nat) (E : En α) (l : List α) (hk : Wk P f R (put (run m s) (.v (.int .i64 l.length))) V) (hc : okS (run m s) = true := by kernel_rfl) (ho : op (run m s) = .len false (oX (op (run m s))) := by kernel_rfl) (hx : elsOf (xv (run m s)) = some (List.map E.f l) := by kernel_rfl) : Wk P f R s V := fun hw => ev0 m (fun h => by rw [ho]; exact x_len l E.f hx) (hk hw) hc
theorem KCg (m : Nat) {g : FuncId} {gl : List (Nat × List AV)} {args : List AV} {e : α -> AV} (hk : ∀ {y}, Wk P f R (put (run m s) (e y)) (W y)) (hc : okS (run m s) = true := by kernel_rfl) (ho : op (run m s) = .call (.c (.clo (.func g) [] [])) (oA (op (run m s))) := by kernel_rfl) (ha : (evs (run m s).env (oA (op (run m s)))).map (List.map nz) = some args := by kernel_rfl) (hg : globS (run m s) = gl := by kernel_rfl) (hgl : plainG gl = true := by kernel_rfl) (hp : plainL args = true := by first | rfl | simp) : Wk P f R s (∃ y, PureN P gl g args (e y) /\ W y) := fun hw => by
 obtain ⟨y, h1, hw⟩ := hw
 subst hg
 refine ok_run m (ok_put (fun h hs => ?_) (hk hw) hc)
 rw [ho]
 rw [← sees_glob hs] at h1 hgl
 exact x_call h1 hp ha hgl
theorem pgA {P : Program} {gl : List (Nat × List AV)} {f : FuncId} {a : List AV} {r : AV} (h : PureN P [] f a r) : PureN P gl f a r := ⟨h.1, fun w outer cargs ho _ hr => h.2 w outer cargs ho (fun g cells hg => by cases hg) hr⟩
theorem KC (m : Nat) {g : FuncId} {args : List AV} {e : α -> AV} (hk : ∀ {y}, Wk P f R (put (run m s) (e y)) (W y)) (hc : okS (run m s) = true := by kernel_rfl) (ho : op (run m s) = .call (.c (.clo (.func g) [] [])) (oA (op (run m s))) := by kernel_rfl) (ha : (evs (run m s).env (oA (op (run m s)))).map (List.map nz) = some args := by kernel_rfl) (hgl : plainG (globS (run m s)) = true := by kernel_rfl) (hp : plainL args = true := by first | rfl | simp) : Wk P f R s (∃ y, PureN P [] g args (e y) /\ W y) := fun hw => by
 obtain ⟨y, h1, hw⟩ := hw
 exact KCg m hk hc ho ha rfl hgl hp ⟨y, pgA h1, hw⟩
theorem KF (m : Nat) {gl : List (Nat × List AV)} {args : List AV} {F : AV} {e : α -> AV} (hk : ∀ {y}, Wk P f R (put (run m s) (e y)) (W y)) (hc : okS (run m s) = true := by kernel_rfl) (ho : op (run m s) = .call (oX (op (run m s))) (oA (op (run m s))) := by kernel_rfl) (hf : xv (run m s) = some F := by kernel_rfl) (ha : (evs (run m s).env (oA (op (run m s)))).map (List.map nz) = some args := by kernel_rfl) (hg : globS (run m s) = gl := by kernel_rfl) (hgl : plainG gl = true := by kernel_rfl) : Wk P f R s (∃ y, FCall P gl F args (e y) /\ W y) := fun hw => by
 obtain ⟨y, h1, hw⟩ := hw
 subst hg
 refine ok_run m (ok_put (fun h hs => ?_) (hk hw) hc)
 rw [ho]
 rw [← sees_glob hs] at h1 hgl
 exact x_fcall h1 hf ha hgl
theorem KIS (m : Nat) {t : ByteArray} {n : Int} (hk : Wk P f R (put (run m s) (.v (.int .u8 (byteAt t n.toNat)))) p) (hc : okS (run m s) = true := by kernel_rfl) (ho : op (run m s) = .idxS (oX (op (run m s))) (oY (op (run m s))) := by kernel_rfl) (hx : xv (run m s) = some (.v (.string t)) := by kernel_rfl) (hi : intOf (yv (run m s)) = some n := by kernel_rfl) : Wk P f R s (SI t n p) := fun hw => ev0 m (fun h => by rw [ho]; exact x_idxS hw.1 hx hi) (hk hw.2) hc
theorem KSS (m : Nat) {t : ByteArray} {a u : Int} (hk : Wk P f R (put (run m s) (.v (.string (t.extract a.toNat u.toNat)))) p) (hc : okS (run m s) = true := by kernel_rfl) (ho : op (run m s) = .sliceS (oX (op (run m s))) (oLo (op (run m s))) (oHi (op (run m s))) := by kernel_rfl) (hx : xv (run m s) = some (.v (.string t)) := by kernel_rfl) (h3 : (evo (run m s).env (oLo (op (run m s)))).bind (boundOf 0) = some a := by kernel_rfl) (h4 : (evo (run m s).env (oHi (op (run m s)))).bind (boundOf t.size) = some u := by kernel_rfl) : Wk P f R s (SS t a u p) := fun hw => ev0 m (fun h => by rw [ho]; exact x_sliceS hw.1 hx h3 h4) (hk hw.2) hc
theorem KB (m : Nat) {c : Prop} (hk : Wk P f R (put (run m s) (.v (binR (run m s)))) p) (hc : okS (run m s) = true := by kernel_rfl) (ho : op (run m s) = .bin (oB (op (run m s))) (oX (op (run m s))) (oY (op (run m s))) := by kernel_rfl) (hx : (bin2 (oB (op (run m s))) (xv (run m s)) (yv (run m s))).map (·.1) = some c := by kernel_rfl) : Wk P f R s (c /\ p) := fun hw => by
 obtain ⟨⟨c', r⟩, h1, h2⟩ := Option.map_eq_some_iff.1 hx
 have h3 : binR (run m s) = r := by unfold binR; rw [h1]; rfl
 have h4 : c' = c := h2
 subst h4
 rw [h3] at hk
 exact ev0 m (fun h => by rw [ho]; exact x_bin r hw.1 h1) (hk hw.2) hc
theorem KCat (m : Nat) {a b : ByteArray} (hk : Wk P f R (put (run m s) (.v (.string (a ++ b)))) p) (hc : okS (run m s) = true := by kernel_rfl) (ho : op (run m s) = .bin .add (oX (op (run m s))) (oY (op (run m s))) := by kernel_rfl) (hx : xv (run m s) = some (.v (.string a)) := by kernel_rfl) (hy : yv (run m s) = some (.v (.string b)) := by kernel_rfl) : Wk P f R s (CT a b p) := fun hw => ev0 m (fun h => by rw [ho]; exact x_cat hw.1 hx hy) (hk hw.2) hc
def HM (h : AHeap) (y : Option AV) (E : En α) (m : List α) : Prop := y.bind (elsH h E.sz) = some (List.map E.f m)
theorem mF {h : AHeap} {y : Option AV} {E : En α} {l : List α} (hm : y.bind (elsH h E.sz) = some (List.map E.f l) := by kernel_rfl) : HM h y E l := hm
theorem mE {h : AHeap} {y : Option AV} {E : En α} {l : List α} (hm : y.bind (elsH h E.sz) = some (List.map E.e l) := by kernel_rfl) : HM h y E l := by
 have := funext E.eq
 unfold HM
 rw [this]; exact hm
def HX (x : Option AV) (E : En α) (l : List α) : Prop := elsOf x = some (List.map E.f l)
theorem xE {x : Option AV} {E : En α} {l : List α} (h : elsOf x = some (List.map E.e l) := by kernel_rfl) : HX x E l := by
 have := funext E.eq
 unfold HX
 rw [this]; exact h
theorem KA (m : Nat) (E : En α) {l l2 : List α} {b : Nat} (hm : HM (run m s).h (yv (run m s)) E l2) (hk : Wk P f R (putH (run m s) (.sl (List.map E.f (l ++ l2)) (.own (ownR (xv (run m s))))) ⟨(run m s).h.blks, (run m s).h.bufs.set (ownR (xv (run m s))) ((l ++ l2).length, E.sz), (run m s).h.globs⟩) p) (hc : okH (run m s) = true := by kernel_rfl) (hs : seS (run m s) ⟨(run m s).h.blks, (run m s).h.bufs.set (ownR (xv (run m s))) ((l ++ l2).length, E.sz), (run m s).h.globs⟩ = seE (run m s) := by kernel_rfl) (ho : op (run m s) = .append (oE (op (run m s))) E.sz b (oX (op (run m s))) (oY (op (run m s))) := by kernel_rfl) (hx : xv (run m s) = some (.sl (List.map E.f l) (.own (ownR (xv (run m s))))) := by kernel_rfl) (hb : (run m s).h.bufs[ownR (xv (run m s))]? = some (l.length, E.sz) := by kernel_rfl) : Wk P f R s ((l.length + l2.length) * b <= 140737488355328 /\ p) := fun hw => ok_run m (ok_putH (by rw [ho]; exact x_app _ E.f l l2 hw.1 E.ro.hs hm hx hb) (hk hw.2) hc hs)
theorem KAf (m : Nat) (E : En α) {l l2 : List α} {b : Nat} (hm : HM (run m s).h (yv (run m s)) E l2) (hX : HX (xv (run m s)) E l) (hk : Wk P f R (putH (run m s) (.sl (List.map E.f (l ++ l2)) (.own (run m s).h.bufs.length)) ⟨(run m s).h.blks, (run m s).h.bufs ++ [((l ++ l2).length, E.sz)], (run m s).h.globs⟩) p) (hc : okH (run m s) = true := by kernel_rfl) (hs : seS (run m s) ⟨(run m s).h.blks, (run m s).h.bufs ++ [((l ++ l2).length, E.sz)], (run m s).h.globs⟩ = seE (run m s) := by kernel_rfl) (ho : op (run m s) = .append (oE (op (run m s))) E.sz b (oX (op (run m s))) (oY (op (run m s))) := by kernel_rfl) (hx : tokOf (xv (run m s)) = some .full := by kernel_rfl) : Wk P f R s ((l.length + l2.length) * b <= 140737488355328 /\ l2 ≠ [] /\ p) := fun hw => ok_run m (ok_putH (by rw [ho]; exact x_appf E.f l l2 hw.1 E.ro.hs hw.2.1 hm hX hx) (hk hw.2.2) hc hs)
theorem KY {V : Prop} (m : Nat) (hk : Wk P f R (put (run m s) (.sl (List.map (fun n => [AV.v (.int .u8 n)]) (bI (strR (xv (run m s))))) .no)) V) (hc : okS (run m s) = true := by kernel_rfl) (ho : op (run m s) = .bytes (oX (op (run m s))) := by kernel_rfl) (hx : xv (run m s) = some (.v (.string (strR (xv (run m s))))) := by kernel_rfl) : Wk P f R s V := fun hw => ev0 m (fun h => by rw [ho]; exact x_bytes _ hx) (hk hw) hc
theorem KS (m : Nat) {l : List Int} {W : ByteArray -> Prop} (hk : ∀ {t}, Wk P f R (put (run m s) (.v (.string t))) (W t)) (hc : okS (run m s) = true := by kernel_rfl) (ho : op (run m s) = .conv .str (oX (op (run m s))) := by kernel_rfl) (hx : elsOf (xv (run m s)) = some (List.map (fun n => [AV.v (.int .u8 n)]) l) := by kernel_rfl) : Wk P f R s (∃ t, l = bI t /\ W t) := fun hw => by
 obtain ⟨t, h1, hw⟩ := hw
 exact ev0 m (fun h => by rw [ho]; exact x_str h1 hx) (hk hw) hc
theorem KRI (m : Nat) {len : Nat} {n : Int} (sz : Nat) (hk : Wk P f R (put (run m s) (.ptr (rowR (xv (run m s))) (0 + n.toNat * sz))) p) (hc : okS (run m s) = true := by kernel_rfl) (ho : op (run m s) = .idxSl sz (oX (op (run m s))) (oY (op (run m s))) := by kernel_rfl) (hx : xv (run m s) = some (.row (rowR (xv (run m s))) 0 sz len (rowC (xv (run m s)))) := by kernel_rfl) (hi : intOf (yv (run m s)) = some n := by kernel_rfl) : Wk P f R s ((0 <= n /\ n < (len : Int)) /\ p) := fun hw => ev0 m (fun h => by rw [ho]; exact x_ridx _ len _ hw.1 hx hi) (hk hw.2) hc
def atE (l : List AV) (k : Nat) : AV := l[k]?.getD .nil
theorem KR1 (m : Nat) (E : En α) (k : Nat) {l : List α} {i : Nat} (hk : ∀ {y}, Wk P f R (put (run m s) (atE (E.e y) k)) (W y)) (hc : okS (run m s) = true := by kernel_rfl) (ho : op (run m s) = .load none (oX (op (run m s))) := by kernel_rfl) (hx : xv (run m s) = some (.ptr (rowR (xv (run m s))) (0 + i * E.sz + k)) := by kernel_rfl) (hr : rowS (run m s) (rowR (xv (run m s))) = some (cellsOf E.f l) := by kernel_rfl) (hb : Nat.ble (k + 1) E.sz = true := by kernel_rfl) : Wk P f R s (∃ y, l[i]? = some y /\ W y) := fun hw => by
 obtain ⟨y, h1, hw⟩ := hw
 have hlt : k < E.sz := Nat.le_of_ble_eq_true hb
 have hg : (E.f y)[k]? = some (atE (E.e y) k) := by
  rw [E.eq y]
  have : k < (E.e y).length := by rw [E.len y]; exact hlt
  simp [atE, this]
 exact ok_run m (ok_put (fun h hs => by rw [ho]; exact x_rld1 E.ro.hs E.ro.hn h1 hlt hg (by omega) hx (sees_row hs hr)) (hk hw) hc)
theorem KRS (m : Nat) (E : En α) (z : α) {l : List α} {i : Nat} (hk : Wk P f R (putH (run m s) (.tuple []) ⟨(run m s).h.blks.set (rowR (xv (run m s))) (some (cellsOf E.f (l.set i z))), (run m s).h.bufs, (run m s).h.globs⟩) p) (hc : okH (run m s) = true := by kernel_rfl) (hs : seS (run m s) ⟨(run m s).h.blks.set (rowR (xv (run m s))) (some (cellsOf E.f (l.set i z))), (run m s).h.bufs, (run m s).h.globs⟩ = seE (run m s) := by kernel_rfl) (ho : op (run m s) = .store E.sz (oX (op (run m s))) (oY (op (run m s))) := by kernel_rfl) (hx : xv (run m s) = some (.ptr (rowR (xv (run m s))) (0 + i * E.sz)) := by kernel_rfl) (hy : (yv (run m s)).map (fun a => (a.isTuple, a.cells)) = some (false, E.e z) := by kernel_rfl) (hr : (run m s).h.blks[rowR (xv (run m s))]? = some (some (cellsOf E.f l)) := by kernel_rfl) : Wk P f R s (i < l.length /\ p) := fun hw => by
 obtain ⟨a, h1, h2⟩ := Option.map_eq_some_iff.1 hy
 have h3 := congrArg Prod.fst h2
 have h4 := congrArg Prod.snd h2
 exact ok_run m (ok_putH (by rw [ho]; exact x_rst z E.ro.hs E.ro.hn hw.1 ((E.eq z).trans h4.symm) (Nat.zero_add _) hx h1 h3 hr) (hk hw.2) hc hs)
theorem KM (m : Nat) (E : En α) (z : α) {L C : Int} {b : Nat} (hk : Wk P f R (putH (run m s) (.row (run m s).h.blks.length 0 E.sz L.toNat C.toNat) ⟨(run m s).h.blks ++ [some (cellsOf E.f (List.replicate C.toNat z))], (run m s).h.bufs, (run m s).h.globs⟩) p) (hc : okH (run m s) = true := by kernel_rfl) (hs : seS (run m s) ⟨(run m s).h.blks ++ [some (cellsOf E.f (List.replicate C.toNat z))], (run m s).h.bufs, (run m s).h.globs⟩ = seE (run m s) := by kernel_rfl) (ho : op (run m s) = .make E.sz b (E.e z) (oX (op (run m s))) (oY (op (run m s))) := by kernel_rfl) (hx : intOf (xv (run m s)) = some L := by kernel_rfl) (hy : intOf (yv (run m s)) = some C := by kernel_rfl) : Wk P f R s ((0 <= L /\ L <= C /\ C * b <= 140737488355328) /\ p) := fun hw => ok_run m (ok_putH (by rw [ho]; exact x_make E.f z L C hw.1 hx hy (E.eq z).symm (E.ro.hs z)) (hk hw.2) hc hs)
def oZ0 : AOp -> List AV
 | .make _ _ z _ _ => z
 | _ => []
theorem KM0 {f' : Nat} (m : Nat) {α : Type} (f : α -> List AV) {C : Int} {b : Nat} (hk : Wk P f' R (putH (run m s) (.sl (List.map f ([] : List α)) (.own (run m s).h.bufs.length)) ⟨(run m s).h.blks, (run m s).h.bufs ++ [(([] : List α).length, 1)], (run m s).h.globs⟩) p) (hc : okH (run m s) = true := by kernel_rfl) (hs : seS (run m s) ⟨(run m s).h.blks, (run m s).h.bufs ++ [(0, 1)], (run m s).h.globs⟩ = seE (run m s) := by kernel_rfl) (ho : op (run m s) = AOp.make 1 b (oZ0 (op (run m s))) (oX (op (run m s))) (oY (op (run m s))) := by kernel_rfl) (hx : intOf (xv (run m s)) = some 0 := by kernel_rfl) (hy : intOf (yv (run m s)) = some C := by kernel_rfl) : Wk P f' R s ((0 <= C /\ C * b <= 140737488355328) /\ p) := fun hw => ok_run m (ok_putH (by rw [ho]; exact x_make0 C hw.1 hx hy) (hk hw.2) hc hs)
end
def gT (s : Mc) : Nat := match (opS s).guard with
 | some (t, _) => t
 | none => 0
def cv (s : Mc) : Option AV := match s.pc with
 | .c (.cond c _ _) => c.ev s.env
 | .v (⟨_, _, some (t, _)⟩ :: _) => get s.env t
 | .s _ (⟨_, _, some (t, _)⟩ :: _) _ _ _ _ => get s.env t
 | _ => none
def br (s : Mc) (b : Bool) : Mc := match s.pc with
 | .c (.cond _ x y) => ⟨.c (if b = true then x else y), s.k, s.env, s.h⟩
 | .v (⟨d, o, some (t, w)⟩ :: L) => ⟨.v (⟨d, o, some (t, w)⟩ :: L), s.k, (t, .v (.bool b)) :: s.env, s.h⟩
 | .s b' (⟨d, o, some (t, w)⟩ :: L) S gl q tl => ⟨.s b' (⟨d, o, some (t, w)⟩ :: L) S gl q tl, s.k, (t, .v (.bool b)) :: s.env, s.h⟩
 | _ => s
section
variable {P : Program} {f : Nat} {R : Rm} {s : Mc}
theorem ok_br {B : Bool} (hv : cv s = some (.v (.bool B))) (h1 : B = true -> Ok P f R (br s true)) (h2 : B = false -> Ok P f R (br s false)) : Ok P f R s := by
 obtain ⟨pc, k, env, h⟩ := s
 simp only [cv] at hv
 split at hv
 ·exact d_cond hv h1 h2
 ·cases hB : B with
  | true => exact ok_less (less_true hB hv) rfl (h1 hB)
  | false => exact ok_less (less_true hB hv) rfl (h2 hB)
 ·cases hB : B with
  | true => exact ok_less (less_true hB hv) rfl (h1 hB)
  | false => exact ok_less (less_true hB hv) rfl (h2 hB)
 ·cases hv
theorem KWh (m : Nat) {B : Bool} {p q : Prop} (h1 : B = true -> Wk P f R (br (run m s) true) p) (h2 : B = false -> Wk P f R (br (run m s) false) q) (hv : cv (run m s) = some (.v (.bool B)) := by kernel_rfl) : Wk P f R s (IF B p q) := fun hw => ok_run m (ok_br hv (fun h => h1 h (hw.1 h)) fun h => h2 h (hw.2 h))
theorem KW (m : Nat) {B : Bool} {p q : Prop} (h1 : Wk P f R (br (run m s) true) p) (h2 : Wk P f R (br (run m s) false) q) (hv : cv (run m s) = some (.v (.bool B)) := by kernel_rfl) : Wk P f R s (IF B p q) := KWh m (fun _ => h1) (fun _ => h2) hv
theorem KKn {V : Prop} (m : Nat) {B b : Bool} (hB : B = b) (hk : Wk P f R (br (run m s) b) V) (hv : cv (run m s) = some (.v (.bool B)) := by kernel_rfl) : Wk P f R s V := fun hw => by
 subst hB
 replace hk := hk hw
 exact ok_run m (ok_br hv (fun h => by rw [h] at hk; exact hk) fun h => by rw [h] at hk; exact hk)
def dpc (n : Nat) : Pc -> Pc
 | .v L => .v (L.drop n)
 | .s b L S gl w tl => if Nat.ble n L.length = true then .s b (L.drop n) S gl w tl else .v (tl.drop (n - L.length - 1))
 | x => x
def jnD (s : Mc) (n : Nat) : Nat := match s.pc with
 | .v L => (((L[n - 1]?).bind fun o => o.dst)).getD 0
 | .s _ L _ _ _ tl => if Nat.ble n L.length = true then (((L[n - 1]?).bind fun o => o.dst)).getD 0 else (((tl[n - L.length - 2]?).bind fun o => o.dst)).getD 0
 | _ => 0
def jn (s : Mc) (n : Nat) (a : AV) : Mc := ⟨dpc n s.pc, s.k, (jnD s n, a) :: drop (gT s) s.env, s.h⟩
def bareM (s : Mc) : Mc := ⟨s.pc, s.k, [], s.h⟩
def fresh (d t : Nat) (e env : Env) : Bool := (e.take (e.length - env.length)).all fun p => p.1 == t || p.1 == d || (get env p.1).isNone
theorem less_jn {d t : Nat} {a : AV} {e env : Env} (h1 : get e d = some a) (h2 : e.drop (e.length - env.length) = env) (h3 : fresh d t e env = true) : Less ((d, a) :: drop t env) e := by
 intro u b hu
 simp only [get] at hu
 split at hu
 ·rename_i hd; subst hd; cases hu; exact h1
 ·rename_i hd
  have h4 : u ≠ t := by
   rintro rfl
   have : ∀ {e : Env}, get (drop u e) u = none := by
    intro e
    induction e with
    | nil => rfl
    | cons q e ih =>
     obtain ⟨v, c⟩ := q
     simp only [drop]
     split
     ·exact ih
     ·rename_i hv; simp only [get]; rw [if_neg hv]; exact ih
   rw [this] at hu; cases hu
  have h5 : get env u = some b := by
   have : ∀ {e : Env}, get (drop t e) u = get e u := by
    intro e
    induction e with
    | nil => rfl
    | cons q e ih =>
     obtain ⟨v, c⟩ := q
     simp only [drop]
     split
     ·rename_i hv; subst hv; simp only [get]; rw [if_neg (fun h => h4 h.symm)]; exact ih
     ·simp only [get]; rw [ih]
   rw [← this]; exact hu
  rw [← List.take_append_drop (e.length - env.length) e, get_two, h2]
  split
  ·rename_i c hc
   have hm := get_mem hc
   have h6 := List.all_eq_true.1 h3 _ hm
   simp only [Bool.or_eq_true, beq_iff_eq] at h6
   rcases h6 with (h6 | h6) | h6
   ·exact absurd h6 h4
   ·exact absurd h6.symm hd
   ·rw [h5] at h6; cases h6
  ·exact h5
def jnv (s : Mc) (n : Nat) : Option (Bool × AV × AV × AV) := match cv s, get (run n (br s true)).env (jnD s n), get (run n (br s false)).env (jnD s n) with
 | some (.v (.bool B)), some (.v (.bool x)), some (.v (.bool y)) => some (B, .v (.bool (bif B then x else y)), .v (.bool x), .v (.bool y))
 | some (.v (.bool B)), some (.v (.int k x)), some (.v (.int _ y)) => some (B, .v (.int k (bif B then x else y)), .v (.int k x), .v (.int k y))
 | some (.v (.bool B)), some (.v (.string x)), some (.v (.string y)) => some (B, .v (.string (bif B then x else y)), .v (.string x), .v (.string y))
 | _, _, _ => none
def jnV (s : Mc) (n : Nat) : AV := ((jnv s n).map fun p => p.2.1).getD .nil
def met (s s1 : Mc) (n : Nat) : Bool := fresh (jnD s n) (gT s) s1.env s.env && (match s.pc with | .v _ => true | .s _ _ _ _ _ _ => true | _ => false)
theorem ok_met {s s1 : Mc} {n : Nat} {a : AV} (hk : Ok P f R (jn s n a)) (ha : get s1.env (jnD s n) = some a) (hb : bareM s1 = bareM (jn s n a)) (hd : s1.env.drop (s1.env.length - s.env.length) = s.env) (hf : met s s1 n = true) : Ok P f R s1 := by
 obtain ⟨pc1, k1, env1, h1⟩ := s1
 obtain ⟨pc, k, env, h⟩ := s
 simp only [bareM, jn, Mc.mk.injEq] at hb
 obtain ⟨rfl, rfl, -, rfl⟩ := hb
 simp only [met, Bool.and_eq_true] at hf
 refine ok_less (less_jn ha hd hf.1) ?_ hk
 cases pc with
 | s b L S gl w tl => by_cases hq : Nat.ble n L.length = true <;> simp [dpc, hq]
 | v L => rfl
 | _ => cases hf.2
theorem KT {V : Prop} (m n : Nat) (hk : Wk P f R (jn (run m s) n (jnV (run m s) n)) V) (h0 : ((jnv (run m s) n).map fun p => (some p.2.2.1, some p.2.2.2)) = some (get (run n (br (run m s) true)).env (jnD (run m s) n), get (run n (br (run m s) false)).env (jnD (run m s) n)) := by kernel_rfl) (hb : (bareM (run n (br (run m s) true)), bareM (run n (br (run m s) false))) = (bareM (jn (run m s) n .nil), bareM (jn (run m s) n .nil)) := by kernel_rfl) (hd : ((run n (br (run m s) true)).env.drop ((run n (br (run m s) true)).env.length - (run m s).env.length), (run n (br (run m s) false)).env.drop ((run n (br (run m s) false)).env.length - (run m s).env.length)) = ((run m s).env, (run m s).env) := by kernel_rfl) (hf : (met (run m s) (run n (br (run m s) true)) n && met (run m s) (run n (br (run m s) false)) n) = true := by kernel_rfl) : Wk P f R s V := fun hw => by
 replace hk := hk hw
 refine ok_run m ?_
 generalize run m s = s0 at *
 obtain ⟨⟨B, a, x, y⟩, h1, h2⟩ := Option.map_eq_some_iff.1 h0
 have hV : jnV s0 n = a := by unfold jnV; rw [h1]; rfl
 rw [hV] at hk
 have hc : cv s0 = some (.v (.bool B)) /\ a = bif B then x else y := by
  unfold jnv at h1
  split at h1
  ·rename_i h _ _; cases h1; exact ⟨h, by cases B <;> rfl⟩
  ·rename_i h _ _; cases h1; exact ⟨h, by cases B <;> rfl⟩
  ·rename_i h _ _; cases h1; exact ⟨h, by cases B <;> rfl⟩
  ·cases h1
 simp only [Prod.mk.injEq] at h2 hb hd
 simp only [Bool.and_eq_true] at hf
 refine ok_br hc.1 (fun hB => ?_) (fun hB => ?_)
 ·have ha := hc.2
  rw [hB] at ha
  subst ha
  exact ok_run n (ok_met hk h2.1.symm hb.1 hd.1 hf.1)
 ·have ha := hc.2
  rw [hB] at ha
  subst ha
  exact ok_run n (ok_met hk h2.2.symm hb.2 hd.2 hf.2)
theorem KQh (m n : Nat) {T : Type} (C : T -> AV) {B : Bool} {W : T -> Prop} {p q : (T -> Prop) -> Prop} (hk : ∀ {z}, Wk P f R (jn (run m s) n (C z)) (W z)) (h1 : ∀ {U : T -> Prop}, (∀ z, Wk P f R (jn (run m s) n (C z)) (U z)) -> B = true -> Wk P f R (br (run m s) true) (p U)) (h2 : ∀ {U : T -> Prop}, (∀ z, Wk P f R (jn (run m s) n (C z)) (U z)) -> B = false -> Wk P f R (br (run m s) false) (q U)) (hv : cv (run m s) = some (.v (.bool B)) := by kernel_rfl) : Wk P f R s (JN W fun R => IF B (p R) (q R)) := fun hw => by
 obtain ⟨U, hU, h3, h4⟩ := hw
 exact ok_run m (ok_br hv (fun h => h1 (fun z hz => hk (hU z hz)) h (h3 h)) fun h => h2 (fun z hz => hk (hU z hz)) h (h4 h))
theorem KQ (m n : Nat) {T : Type} (C : T -> AV) {B : Bool} {W : T -> Prop} {p q : (T -> Prop) -> Prop} (hk : ∀ {z}, Wk P f R (jn (run m s) n (C z)) (W z)) (h1 : ∀ {U : T -> Prop}, (∀ z, Wk P f R (jn (run m s) n (C z)) (U z)) -> Wk P f R (br (run m s) true) (p U)) (h2 : ∀ {U : T -> Prop}, (∀ z, Wk P f R (jn (run m s) n (C z)) (U z)) -> Wk P f R (br (run m s) false) (q U)) (hv : cv (run m s) = some (.v (.bool B)) := by kernel_rfl) : Wk P f R s (JN W fun R => IF B (p R) (q R)) := KQh m n C hk (fun k _ => h1 k) (fun k _ => h2 k) hv
theorem KE (m : Nat) {T : Type} {U : T -> Prop} {C : T -> AV} {s0 : Mc} {n : Nat} {z : T} (key : ∀ z, Wk P f R (jn s0 n (C z)) (U z)) (ha : get (run m s).env (jnD s0 n) = some (C z) := by kernel_rfl) (hb : bareM (run m s) = bareM (jn s0 n (C z)) := by kernel_rfl) (hd : (run m s).env.drop ((run m s).env.length - s0.env.length) = s0.env := by kernel_rfl) (hf : met s0 (run m s) n = true := by kernel_rfl) : Wk P f R s (U z) := fun hw => ok_run m (ok_met (key z hw) ha hb hd hf)
abbrev kB (b : Bool) : AV := .v (.bool b)
def So (I : List Nat) (h : AHeap) : List (Nat × List AV) := I.map fun i => (i, ((h.blks[i]?).bind id).getD [])
def dr0 (s : Mc) (S : List (Nat × List AV)) : Mc := match s.pc with
 | .c (.drawn _ a t) => ⟨.s true a S s.h.globs none t, s.k, s.env, s.h⟩
 | _ => s
def dr0c (s : Mc) : Bool := match s.pc with
 | .c (.drawn o a _) => okq a && statS (clo o) a
 | _ => false
theorem KD {V : Prop} (m : Nat) (I : List Nat) (hk : Wk P f R (dr0 (run m s) (So I (run m s).h)) V) (hc : dr0c (run m s) = true := by kernel_rfl) (hS : inS (So I (run m s).h) (run m s).h = (So I (run m s).h).map (fun p => some (some p.2)) := by kernel_rfl) : Wk P f R s V := fun hw => by
 replace hk := hk hw
 refine ok_run m ?_
 generalize run m s = s0 at *
 obtain ⟨pc, k, env, h⟩ := s0
 simp only [dr0c] at hc
 split at hc
 ·rw [Bool.and_eq_true] at hc
  exact dS _ hk hc.1 hc.2 hS
 ·cases hc
def chg (s : Mc) : AV × AHeap := (opn (opS s) s.env s.h).getD (.nil, s.h)
def poss : ACode -> List Fr -> List (Pc × List Fr)
 | .seq a b, k => (.c b, k) :: (poss a (.sq b :: k) ++ poss b k)
 | .cond _ a b, k => poss a k ++ poss b k
 | .block i a, k => poss a (.bk i :: k)
 | .loop a, k => (.l a, k) :: poss a (.lp a :: k)
 | .scope a, k => match gotoOf a with
  | some l => (.g l a, k) :: poss a (.sc l a :: k)
  | none => poss a (.sn :: k)
 | _, _ => []
def pos (P : Program) (f i : Nat) : Pc × List Fr := ((poss (cdC P f) [])[i]?).getD (.n .normal, [])
def J (P : Program) (f : Nat) (R : Rm) (i : Nat) (e : Env) (h : AHeap) : Prop := Ok P f R ⟨(pos P f i).1, (pos P f i).2, e, h⟩
def atC (s : Mc) : Bool := match s.pc with
 | .c _ => true
 | .l _ => true
 | .g _ _ => true
 | _ => false
theorem ok_ghost (hc : atC s = true) (hg : ∀ (σ : Sg) (a : Act), St σ s.h s.env (cdN P f) a -> ∃ σ' h' env', σ'.w = σ.w /\ Le σ σ' /\ St σ' h' env' (cdN P f) a /\ Ok P f R ⟨s.pc, s.k, env', h'⟩) : Ok P f R s := by
 obtain ⟨pc, k, env, h⟩ := s
 cases pc with
 | c x => exact d_ghost hg
 | l x => exact dl_ghost hg
 | g l x => exact dg_ghost hg
 | _ => cases hc
def getZ (Z : List Nat) (env : Env) (p : Nat × AV) : Option AV := if Z.contains p.1 = true then (get env p.1).map nz else get env p.1
theorem trimZ_st {σ : Sg} {h : AHeap} {env e : Env} {N : Nat} {a : Act} {Z : List Nat} (he : e.map (getZ Z env) = e.map fun p => some p.2) (hs : St σ h env N a) : St σ h e N a := ⟨hs.inv, fun t b ht => by
 obtain ⟨i, hi⟩ := List.mem_iff_getElem?.1 (get_mem ht)
 have h1 := congrArg (fun l => l[i]?) he
 simp only [List.getElem?_map, hi, Option.map_some, Option.some.injEq] at h1
 unfold getZ at h1
 split at h1
 ·obtain ⟨c, h2, rfl⟩ := Option.map_eq_some_iff.1 h1
  obtain ⟨y, h3, h4⟩ := hs.env t c h2
  exact ⟨y, h3, h4.nz⟩
 ·exact hs.env t b h1, hs.size, hs.defers⟩
theorem ok_trim {e : Env} (Z : List Nat) (hc : atC s = true) (he : e.map (getZ Z s.env) = e.map fun p => some p.2) (hk : Ok P f R ⟨s.pc, s.k, e, s.h⟩) : Ok P f R s := ok_ghost hc fun σ a hs => ⟨σ, s.h, e, rfl, Le.refl σ, trimZ_st he hs, hk⟩
theorem KJz (m : Nat) (Z : List Nat) {i : Nat} {e : Env} {h : AHeap} (hp : ((run m s).pc, (run m s).k, (run m s).h) = ((pos P f i).1, (pos P f i).2, h) := by kernel_rfl) (hc : atC (run m s) = true := by kernel_rfl) (he : e.map (getZ Z (run m s).env) = e.map (fun p => some p.2) := by kernel_rfl) : Wk P f R s (J P f R i e h) := fun hw => by
 simp only [Prod.mk.injEq] at hp
 refine ok_run m (ok_trim Z hc he ?_)
 rw [hp.1, hp.2.1, hp.2.2]
 exact hw
theorem KJ (m : Nat) {i : Nat} {e : Env} {h : AHeap} (hp : ((run m s).pc, (run m s).k, (run m s).h) = ((pos P f i).1, (pos P f i).2, h) := by kernel_rfl) (hc : atC (run m s) = true := by kernel_rfl) (he : e.map (getZ [] (run m s).env) = e.map (fun p => some p.2) := by kernel_rfl) : Wk P f R s (J P f R i e h) := KJz m [] hp hc he
theorem fJ {V : Prop} {i : Nat} {e : Env} {h : AHeap} (hw : V) (hk : Wk P f R ⟨(pos P f i).1, (pos P f i).2, e, h⟩ V) : J P f R i e h := hk hw
theorem kF : Wk P f R s False := False.elim
theorem vE {α : Type} {A B : Prop} (l : List α) (h1 : l = [] -> Wk P f R s A) (h2 : l ≠ [] -> Wk P f R s B) : Wk P f R s ((l = [] -> A) /\ (l ≠ [] -> B)) := fun hw => (Classical.em (l = [])).elim (fun h => h1 h (hw.1 h)) fun h => h2 h (hw.2 h)
def maskOf (h : AHeap) : List Bool := h.blks.map Option.isSome
theorem KJl (m : Nat) (Z : List Nat) {i : Nat} {e : Env} {h : AHeap} (hp : ((run m s).pc, (run m s).k, keepB (maskOf h) (run m s).h.blks, (run m s).h.bufs.take h.bufs.length, (run m s).h.globs) = ((pos P f i).1, (pos P f i).2, h.blks, h.bufs, h.globs) := by kernel_rfl) (hc : atC (run m s) = true := by kernel_rfl) (he : e.map (getZ Z (run m s).env) = e.map (fun p => some p.2) := by kernel_rfl) (hm : ((List.range R.kb).all (fun k => (maskOf h).getD k false) && Nat.ble R.kf h.bufs.length && plainG h.globs) = true := by kernel_rfl) (hlow : lowE (maskOf h) h.bufs.length e = true /\ lowB (maskOf h) h.bufs.length h.blks = true := by constructor <;> first | rfl | simp [maskOf]) : Wk P f R s (J P f R i e h) := fun hw => by
 simp only [Prod.mk.injEq] at hp
 simp only [Bool.and_eq_true, List.all_eq_true, List.mem_range] at hm
 refine ok_run m (ok_trim Z hc he ?_)
 generalize run m s = s0 at *
 obtain ⟨pc, k, env, h0⟩ := s0
 obtain ⟨h1, h2, h3, h4, h5⟩ := hp
 simp only at h1 h2 h3 h4 h5
 have hw' : Ok P f R ⟨pc, k, e, ⟨keepB (maskOf h) h0.blks, h0.bufs.take h.bufs.length, h0.globs⟩⟩ := by
  rw [h3, h4, h5, h1, h2]; exact hw
 have hl2 : lowB (maskOf h) h.bufs.length (keepB (maskOf h) h0.blks) = true := by rw [h3]; exact hlow.2
 have hg : plainG h0.globs = true := by rw [h5]; exact hm.2
 cases pc with
 | c x => exact d_drop _ _ hm.1.1 (Nat.le_of_ble_eq_true hm.1.2) hlow.1 hl2 hg hw'
 | l x => exact dl_drop _ _ hm.1.1 (Nat.le_of_ble_eq_true hm.1.2) hlow.1 hl2 hg hw'
 | g l x => exact dg_drop _ _ hm.1.1 (Nat.le_of_ble_eq_true hm.1.2) hlow.1 hl2 hg hw'
 | _ => cases hc
theorem KO {V : Prop} (m t sz : Nat) (hk : Wk P f R ⟨(run m s).pc, (run m s).k, (t, .sl [] (.own (run m s).h.bufs.length)) :: (run m s).env, ⟨(run m s).h.blks, (run m s).h.bufs ++ [(0, sz)], (run m s).h.globs⟩⟩ V) (hc : atC (run m s) = true := by kernel_rfl) (hg : get (run m s).env t = some .nil := by kernel_rfl) : Wk P f R s V := fun hw => ok_run m (ok_ghost hc fun σ a hs => by
 obtain ⟨σ', h1, h2, h3⟩ := own_st sz hg hs
 exact ⟨σ', _, _, h1, h2, h3, (hk hw)⟩)
def blkS (s : Mc) (i : Nat) : List AV := ((s.h.blks[i]?).bind id).getD []
def done (s : Mc) : Bool := match s.pc, s.k with
 | .n .ret, [] => true
 | .n .normal, [] => true
 | _, _ => false
theorem done_ok (hd : done s = true) (hk : R.Q (cdR P f) .ret s.env s.h) : Ok P f R s := by
 obtain ⟨pc, k, env, h⟩ := s
 simp only [done] at hd
 split at hd
 ·exact hk
 ·cases R <;> exact hk
 ·cases hd
theorem KR (m : Nat) {T : Type} {e : T -> AV} {r r0 : T} (hd : done (run m s) = true := by kernel_rfl) (he : (outsF (run m s).env (run m s).h (cdR P f)).map (fun l => nz (retv l)) = some (e r0) := by kernel_rfl) (hp : ∀ r, plain (e r) = true := by intro; first | rfl | simp) : Wk P f (.ret (e r)) s (r = r0) := fun hw => ok_run m (done_ok hd (rx hw (hp r0) he))
theorem getFn_cd (h : (getFn P f).isSome = true) : getFn P f = some (cdN P f, cdC P f, cdR P f) := by
 unfold cdN cdC cdR
 cases hg : getFn P f with
 | none => rw [hg] at h; cases h
 | some p => rfl
def s0 (P : Program) (f : Nat) (args : List AV) (h : AHeap) : Mc := ⟨.c (cdC P f), [], envOf 0 args, h⟩
theorem fP {V : Prop} {gl : List (Nat × List AV)} {args : List AV} {r : AV} (hw : V) (hk : Wk P f (.ret r) (s0 P f args ⟨[], [], gl⟩) V) (hf : ((getFn P f).isSome && Nat.ble args.length (cdN P f)) = true := by kernel_rfl) : PureN P gl f args r := by
 rw [Bool.and_eq_true] at hf
 exact f_pureD (getFn_cd hf.1) (Nat.le_of_ble_eq_true hf.2) rfl (hk hw)
def isVv (s : Mc) : Bool := match s.pc with
 | .v (o :: _) => guardF s.env o.guard == some true
 | _ => false
theorem seS_none {s : Mc} {h : AHeap} (hs : seE s = none) : seS s h = none := by
 obtain ⟨pc, k, env, h⟩ := s
 cases pc with
 | s b L S gl w tl => cases L <;> first | rfl | cases hs
 | _ => rfl
theorem KX (m : Nat) {t : ByteArray} {p : Nat} {A B : Prop} (h1 : Wk P f R (putH (run m s) (.tuple [.v (.bool true), .v (.int .i64 p), .v (.int .i32 (Utf8.decode t p).1)]) ⟨(run m s).h.blks.set (rowR (xv (run m s))) (some [.it t (p + (Utf8.decode t p).2)]), (run m s).h.bufs, (run m s).h.globs⟩) A) (h2 : Wk P f R (putH (run m s) (.tuple [.v (.bool false)]) (run m s).h) B) (hc : okH (run m s) = true := by kernel_rfl) (ho : op (run m s) = .next (oX (op (run m s))) := by kernel_rfl) (hx : xv (run m s) = some (.ptr (rowR (xv (run m s))) 0) := by kernel_rfl) (hb : (run m s).h.blks[rowR (xv (run m s))]? = some (some [.it t p]) := by kernel_rfl) (hs : seE (run m s) = none := by kernel_rfl) : Wk P f R s ((p < t.size -> A) /\ (¬ p < t.size -> B)) := fun hw => by
 have hsn : ∀ h', seS (run m s) h' = seE (run m s) := fun h' => by rw [hs]; exact seS_none hs
 rcases Nat.lt_or_ge p t.size with hp | hp
 ·refine ok_run m (ok_putH (fun K hk => ?_) (h1 (hw.1 hp)) hc (hsn _))
  rw [ho]
  simp only [aop]
  change wv (xv _) _
  rw [hx]
  simp only [wv, nexted, hb]
  exact ⟨fun _ => hk, fun hn => (hn hp).elim⟩
 ·refine ok_run m (ok_putH (fun K hk => ?_) (h2 (hw.2 (Nat.not_lt.2 hp))) hc (hsn _))
  rw [ho]
  simp only [aop]
  change wv (xv _) _
  rw [hx]
  simp only [wv, nexted, hb]
  exact ⟨fun hn => (Nat.not_lt.2 hp hn).elim, fun _ => hk⟩
end
abbrev JP (P : Program) (f : Nat) (r : AV) (i : Nat) (e : Env) : Prop := J P f (.ret r) i e ⟨[], [], []⟩
section
variable {P : Program} {f : Nat} {R : Rm} {s : Mc} {α : Type} {W : α -> Prop} {p : Prop}
def ioN (s : Mc) : Nat := match evs s.env (oA (op s)) with
 | some (.ptr n _ :: _) => n
 | some (.row n _ _ _ _ :: _) => n
 | _ => 0
def ioA (s : Mc) : List AV := (evs s.env (oA (op s))).getD []
theorem KT2 {V : Prop} (m n : Nat) (B : Bool) (C : Bool -> AV) (h1 : Wk P f R (jn (run m s) n (C true)) V -> Wk P f R (br (run m s) true) V) (h2 : Wk P f R (jn (run m s) n (C false)) V -> Wk P f R (br (run m s) false) V) (hk : Wk P f R (jn (run m s) n (C B)) V) (hv : cv (run m s) = some (.v (.bool B)) := by kernel_rfl) : Wk P f R s V := fun hw => ok_run m (ok_br hv (fun h => h1 (by rw [h] at hk; exact hk) hw) fun h => h2 (by rw [h] at hk; exact hk) hw)
theorem KE2 {V : Prop} (m : Nat) {a : AV} {s0 : Mc} {n : Nat} (key : Wk P f R (jn s0 n a) V) (ha : get (run m s).env (jnD s0 n) = some a := by kernel_rfl) (hb : bareM (run m s) = bareM (jn s0 n a) := by kernel_rfl) (hd : (run m s).env.drop ((run m s).env.length - s0.env.length) = s0.env := by kernel_rfl) (hf : met s0 (run m s) n = true := by kernel_rfl) : Wk P f R s V := fun hw => ok_run m (ok_met (key hw) ha hb hd hf)
def isCc (s : Mc) : Bool := match s.pc with
 | .c _ => true
 | _ => false
def cut (e : Env) (env : Env) : Env := e.map fun p => (p.1, (get env p.1).getD .nil)
theorem ok_cut {e : Env} (hc : isCc s = true) (he : (cut e s.env).map (getZ [] s.env) = (cut e s.env).map fun p => some p.2) (hk : ∀ x, s.pc = .c x -> D P (cdN P f) R.kb R.kf x (Qs P f R s.k) (cut e s.env) s.h) : Ok P f R s := by
 refine ok_trim [] ?_ he ?_
 ·obtain ⟨pc, k, env, h⟩ := s
  cases pc <;> first | rfl | cases hc
 ·obtain ⟨pc, k, env, h⟩ := s
  cases pc <;> first | exact hk _ rfl | cases hc
theorem KFz {V : Prop} (m n : Nat) (mk : List Bool) (k : Nat) (e : Env) (bs : List (Option (List AV))) (hk : Wk P f R ⟨(run m s).pc, (run m s).k, e, ⟨bs, (run m s).h.bufs.take k, (run m s).h.globs⟩⟩ V) (hc : isCc (run m s) = true := by kernel_rfl) (he : (cut e (run m s).env).map (getZ [] (run m s).env) = (cut e (run m s).env).map (fun p => some p.2) := by kernel_rfl) (hb : (run m s).h.blks[n]? = some (some (blkS (run m s) n)) := by kernel_rfl) (h1 : (noIt (blkS (run m s) n) && !mk.getD n false && alive mk (run m s).h.blks && (List.range R.kb).all (fun k => mk.getD k false) && Nat.ble R.kf k && plainG (run m s).h.globs) = true := by kernel_rfl) (hE : fzE n (blkS (run m s) n) (cut e (run m s).env) = e := by kernel_rfl) (hbs : keepB mk (run m s).h.blks = bs := by kernel_rfl) (hl : lowE mk k e = true /\ lowB mk k bs = true := by constructor <;> first | rfl | simp) : Wk P f R s V := fun hw => by
 replace hk := hk hw
 simp only [Bool.and_eq_true, List.all_eq_true, List.mem_range, Bool.not_eq_true'] at h1
 obtain ⟨⟨⟨⟨⟨a1, a2⟩, a3⟩, a4⟩, a5⟩, a6⟩ := h1
 refine ok_run m (ok_cut hc he fun x hx => ?_)
 rw [hx] at hk
 subst hbs
 exact d_freeze n mk k _ hb a1 a2 a3 a4 (Nat.le_of_ble_eq_true a5) hE hl.1 hl.2 a6 hk
end
def tabG (P : Program) (l : List Nat) : Tbl := l.map fun g => (g, cdN P g, cdC P g, cdR P g)
theorem tab_ok {P : Program} {l : List Nat} (h : l.all (fun g => (getFn P g).isSome && !isCC (cdC P g) && (isKn (cdC P g)).isNone) = true) : TblOK P (tabG P l) := by
 intro g x hm
 obtain ⟨k, hk, he⟩ := List.mem_map.1 hm
 cases he
 have h1 := List.all_eq_true.1 h g hk
 simp only [Bool.and_eq_true, Bool.not_eq_true', Option.isNone_iff_eq_none] at h1
 unfold EntOK
 simp only [h1.2, h1.1.2, Bool.false_eq_true, if_false]
 exact getFn_cd h1.1.1
abbrev Rws := List (Nat × List (List AV) × Nat)
section
variable {σ : Sg} {h : AHeap} {m : List Bool} {k : Nat} {rs : Rws}
end
section
variable {P : Program} {f : Nat} {R : Rm} {s : Mc} {α β γ : Type} {p : Prop}
end
def bR (n : Nat) (b : UInt8) : ByteArray := ⟨(List.replicate n b).toArray⟩
def bE (t : ByteArray) : List (List AV) := byteEls t.data.toList
theorem bE_len (t : ByteArray) : (bE t).length = t.size := by simp [bE, byteEls]
theorem bE_app (s t : ByteArray) : bE (s ++ t) = bE s ++ bE t := by simp [bE, byteEls, ByteArray.data_append, Array.toList_append, List.map_append]
theorem bE_one {t : ByteArray} : ∀ el ∈ bE t, el.length = 1 := by
 intro el h
 simp only [bE, byteEls, List.mem_map] at h
 obtain ⟨n, _, rfl⟩ := h
 rfl
section
variable {P : Program} {f : Nat} {R : Rm} {s : Mc} {p : Prop}
theorem ok_v {av : AV} {h' : AHeap} (hd : Does P (op s) s.env s.h av h') (hk : Ok P f R (putH s av h')) (hc : isVv s = true) : Ok P f R s := by
 obtain ⟨pc, k, env, h⟩ := s
 cases pc with
 | v L =>
  cases L with
  | nil => cases hc
  | cons o L => exact .inr (.inl ⟨by simpa [isVv] using hc, av, h', hd, hk⟩)
 | _ => cases hc
theorem KIl {V : Prop} (m : Nat) (g : FuncId) (hk : Wk P g (.inl (run m s).h.blks.length (run m s).h.bufs.length fun av h' => Ok P f R (putH (run m s) av h')) ⟨.c (cdC P g), [], envOf 0 (ioA (run m s)), (run m s).h⟩ V) (hc : isVv (run m s) = true := by kernel_rfl) (ho : op (run m s) = .call (.c (.clo (.func g) [] [])) (oA (op (run m s))) := by kernel_rfl) (ha : evs (run m s).env (oA (op (run m s))) = some (ioA (run m s)) := by kernel_rfl) (hf : ((getFn P g).isSome && Nat.ble (ioA (run m s)).length (cdN P g)) = true := by kernel_rfl) : Wk P f R s V := fun hw => by
 rw [Bool.and_eq_true] at hf
 replace hk := hk hw
 refine ok_run m ?_
 generalize ioA (run m s) = args at *
 generalize run m s = s0 at *
 obtain ⟨pc, k, env, h⟩ := s0
 cases pc with
 | v L =>
  cases L with
  | nil => cases hc
  | cons o L =>
   refine .inr (.inr ⟨by simpa [isVv] using hc, fun av h' => Ok P f R (putH ⟨.v (o :: L), k, env, h⟩ av h'), fun K' hK' => ?_, fun av h' hav => hav⟩)
   change o.op = _ at ho
   rw [ho]
   have hcall : ACall P g args h K' := by
    refine ⟨callable_of (getFn_cd hf.1), fun σ cargs hi hr => ?_⟩
    have hb : asem P (cdN P g) (cdC P g) (fnPost (cdR P g) K') (envOf 0 args) h := by
     refine asem_mono (asem_of_d (Nat.le_refl _) (Nat.le_refl _) hk) fun e env h hq => ?_
     cases e <;> first | exact hq.elim | exact outs_mono (fun l => hK' _ _) hq
    exact fn_calls (getFn_cd hf.1) (Nat.le_of_ble_eq_true hf.2) hb σ cargs hi hr
   exact (a_call rfl ha hcall).out
 | _ => cases hc
theorem KAe (m : Nat) {α : Type} (E : En α) {l l2 : List α} {b : Nat} (h0 : l2 = []) (hm : HM (run m s).h (yv (run m s)) E l2) (hX : HX (xv (run m s)) E l) (hk : Wk P f R (putH (run m s) (.sl (List.map E.f l) .full) (run m s).h) p) (hc : isVv (run m s) = true := by kernel_rfl) (ho : op (run m s) = .append (oE (op (run m s))) E.sz b (oX (op (run m s))) (oY (op (run m s))) := by kernel_rfl) (hx : tokOf (xv (run m s)) = some .full := by kernel_rfl) : Wk P f R s (l.length * b <= 140737488355328 /\ p) := fun hw => by
 refine ok_run m (ok_v (fun K hK => ?_) (hk hw.2) hc)
 generalize run m s = s0 at *
 obtain ⟨Y, h1, h2⟩ := Option.bind_eq_some_iff.1 hm
 obtain ⟨tok, h3⟩ := elsOf_some hX
 rw [h3] at hx
 cases hx
 rw [ho]
 simp only [aop]
 change wv (xv s0) _
 rw [h3]
 change wv (yv s0) _
 rw [h1]
 refine .inl ?_
 subst h0
 simp only [appended, h2]
 exact ⟨by simp, fun el hel => by obtain ⟨y, _, rfl⟩ := List.mem_map.1 hel; exact E.ro.hs y, by simpa using hw.1, fun _ => hK, fun h => absurd rfl h⟩
def outW (s : Mc) (P : Program) (g : Nat) : AV := retv ((outsF s.env s.h (cdR P g)).getD [])
theorem KRl {V : Prop} (m : Nat) {kb kf : Nat} {K : AV -> AHeap -> Prop} (hk : V -> K (outW (run m s) P f) (run m s).h) (hd : done (run m s) = true := by kernel_rfl) (he : (outsF (run m s).env (run m s).h (cdR P f)).isSome = true := by kernel_rfl) : Wk P f (.inl kb kf K) s V := fun hw => by
 replace hk := hk hw
 refine ok_run m (done_ok hd ?_)
 obtain ⟨l, hl⟩ := Option.isSome_iff_exists.1 he
 have hk' : K (retv l) (run m s).h := by
  have : outW (run m s) P f = retv l := by unfold outW; rw [hl]; rfl
  rw [← this]; exact hk
 exact outsF_ok (K := fun l => K (retv l) (run m s).h) hl hk'
def psAt (h : AHeap) (n t : Nat) : Bool := match h.blks[n]? with
 | some (some (.ps k u :: _)) => k == n && u == t
 | _ => false
theorem KCc {V : Prop} (m : Nat) {g t : Nat} (hcc : CCOK P g t) (hk : Wk P f R (putH (run m s) (.tuple []) (run m s).h) V) (hc : isVv (run m s) = true := by kernel_rfl) (ho : op (run m s) = .call (.c (.clo (.func g) [] [])) (oA (op (run m s))) := by kernel_rfl) (ha : evs (run m s).env (oA (op (run m s))) = some [.ptr (ioN (run m s)) 0] := by kernel_rfl) (hb : psAt (run m s).h (ioN (run m s)) t = true := by kernel_rfl) : Wk P f R s V := fun hw => by
 replace hk := hk hw
 refine ok_run m (ok_v (fun K hK => ?_) hk hc)
 rw [ho]
 refine (a_call rfl ha ?_).out
 generalize ioN (run m s) = n at *
 unfold psAt at hb
 split at hb
 ·rename_i k u r hr
  simp only [Bool.and_eq_true, beq_iff_eq] at hb
  obtain ⟨rfl, rfl⟩ := hb
  exact hcc _ _ _ hr K hK
 ·cases hb
def bbI (x : Option AV) : Nat := match x with
 | some (.bb (.own i) _ _) => i
 | some (.bb (.data i) _ _) => i
 | _ => 0
theorem KAb (m : Nat) {a t : ByteArray} (hk : Wk P f R (putH (run m s) (.bb (.own (bbI (xv (run m s)))) (bE (a ++ t)) (oE (op (run m s)))) ⟨(run m s).h.blks, (run m s).h.bufs.set (bbI (xv (run m s))) ((a ++ t).size, 1), (run m s).h.globs⟩) p) (hc : isVv (run m s) = true := by kernel_rfl) (ho : op (run m s) = .append (oE (op (run m s))) 1 1 (oX (op (run m s))) (oY (op (run m s))) := by kernel_rfl) (hx : xv (run m s) = some (.bb (.own (bbI (xv (run m s)))) (bE a) (oE (op (run m s)))) := by kernel_rfl) (hy : yv (run m s) = some (.v (.string t)) := by kernel_rfl) (hb : (run m s).h.bufs[bbI (xv (run m s))]? = some (a.size, 1) := by kernel_rfl) : Wk P f R s (a.size + t.size <= 140737488355328 /\ p) := fun hw => by
 refine ok_run m (ok_v (fun K hK => ?_) (hk hw.2) hc)
 generalize hs0 : run m s = s0 at *
 rw [ho]
 simp only [aop]
 change wv (xv s0) _
 rw [hx]
 change wv (yv s0) _
 rw [hy]
 refine .inr (.inr ?_)
 unfold appendedB
 refine ⟨⟨rfl, fun el hel => bE_one (t := t) el hel⟩, rfl, fun el hel => bE_one (t := a) el hel, by rw [bE_len]; exact hb, ?_, ?_⟩
 ·have := bE_len a; have h2 := bE_len t
  show ((bE a).length + (bE t).length) * 1 <= _
  omega
 ·rw [bE_app] at hK
  have h3 : ((bE a).length + (bE t).length) = (a ++ t).size := by rw [bE_len, bE_len, ByteArray.size_append]
  show K (.bb (.own _) (bE a ++ bE t) _) ⟨_, List.set _ _ ((bE a).length + (bE t).length, 1), _⟩
  rw [h3]
  exact hK
def uT : AOp -> TypeId
 | .ustr u _ _ => u
 | .mknz u _ => u
 | _ => 0
def uX : AOp -> AOpd
 | .ustr _ x _ => x
 | .mknz _ x => x
 | _ => .t 0
def uY : AOp -> AOpd
 | .ustr _ _ y => y
 | _ => .t 0
theorem KUs (m : Nat) {t : ByteArray} (hk : Wk P f R (putH (run m s) (.v (.string t)) (run m s).h) p) (hc : isVv (run m s) = true := by kernel_rfl) (ho : op (run m s) = .ustr (uT (op (run m s))) (uX (op (run m s))) (uY (op (run m s))) := by kernel_rfl) (hx : (uX (op (run m s))).ev (run m s).env = some (.bb (.data (bbI ((uX (op (run m s))).ev (run m s).env))) (bE t) (uT (op (run m s)))) := by kernel_rfl) (hy : (uY (op (run m s))).ev (run m s).env = some (.v (.int .i64 (bE t).length)) := by kernel_rfl) (hb : (run m s).h.bufs[bbI ((uX (op (run m s))).ev (run m s).env)]? = some (t.size, 1) := by kernel_rfl) : Wk P f R s (t.size <= 140737488355328 /\ p) := fun hw => by
 refine ok_run m (ok_v (fun K hK => ?_) (hk hw.2) hc)
 generalize run m s = s0 at *
 generalize uT (op s0) = u at *
 generalize uX (op s0) = X at *
 generalize uY (op s0) = Y at *
 rw [ho]
 simp only [aop]
 rw [hx]
 change wv (Y.ev _) _
 rw [hy]
 exact ⟨rfl, by rw [bE_len]; exact hb, t.data.toList, rfl, by simp [bE_len], by simpa using hw.1, by simpa using hK⟩
def bnT (x : Option AV) : TypeId := match x with
 | some (.bb _ _ u) => u
 | _ => 0
theorem KOB {V : Prop} (m i : Nat) (hk : Wk P f R ⟨(run m s).pc, (run m s).k, (run m s).env, ⟨(run m s).h.blks.set i (some ((blkS (run m s) i).set 1 (.bb (.own (run m s).h.bufs.length) (bE ⟨#[]⟩) (bnT (blkS (run m s) i)[1]?)))), (run m s).h.bufs ++ [(0, 1)], (run m s).h.globs⟩⟩ V) (hc : atC (run m s) = true := by kernel_rfl) (hg : (run m s).h.blks[i]? = some (some (blkS (run m s) i)) := by kernel_rfl) (hj : (blkS (run m s) i)[1]? = some (.bb .nil [] (bnT (blkS (run m s) i)[1]?)) := by kernel_rfl) : Wk P f R s V := fun hw => ok_run m (ok_ghost hc fun σ a hs => by
 generalize bnT (blkS (run m s) i)[1]? = u at *
 obtain ⟨σ', h1, h2, h3⟩ := ownx_st (a1 := .bb (.own (run m s).h.bufs.length) (bE ⟨#[]⟩) u) 1 (fun hr => by cases hr; rfl) (fun hr => .bbo _ _ _ _ _ _ hr fun ad h => by cases h) rfl ⟨by simp, by simp⟩ hg hj hs
 exact ⟨σ', _, _, h1, h2, h3, (hk hw)⟩)
end
section
open Go.RowKit Go.ChangeShapes Go.WideShapes Go.ChangeAt
theorem list_of' {α : Type} {P : Nat -> α -> Prop} : ∀ n : Nat, (∀ i, i < n -> ∃ x, P i x) -> ∃ xs : List α, xs.length = n /\ ∀ (i : Nat) x, xs[i]? = some x -> P i x
 | 0, _ => ⟨[], rfl, fun i x h => by simp at h⟩
 | n + 1, h => by
  obtain ⟨xs, hl, hx⟩ := list_of' n (fun i hi => h i (by omega))
  obtain ⟨y, hy⟩ := h n (by omega)
  refine ⟨xs ++ [y], by simp [hl], fun i x hi => ?_⟩
  by_cases hin : i < n
  ·rw [List.getElem?_append_left (by omega)] at hi; exact hx i x hi
  ·rw [List.getElem?_append_right (by omega)] at hi
   by_cases e : i = n
   ·subst e; rw [hl] at hi; simp at hi; subst hi; exact hy
   ·rw [List.getElem?_eq_none (by simp; omega)] at hi; cases hi
def Ty (P : Program) : Nat -> TypeId -> List AV -> Prop
 | 0, _, _ => False
 | n + 1, t, avs => match P.underlying t with
  | some (.int k) => ∃ m, avs = [.v (.int k m)] /\ (Lit.int k m).wf = true
  | some .bool => ∃ b, avs = [.v (.bool b)]
  | some .string => ∃ s, avs = [.v (.string s)] /\ s.size <= 140737488351232
  | some (.slice e) => ∃ els : List (List AV), avs = [.sl els .no] /\ els.length * P.bytesOf e <= 140737488351232 /\ ∀ el ∈ els, Ty P n e el
  | some (.struct fs) => ∃ parts : List (List AV), avs = parts.flatten /\ parts.length = fs.size /\ ∀ (i : Nat) (f : Field), fs[i]? = some f -> ∃ p, parts[i]? = some p /\ Ty P n f.type p
  | some (.array k e) => ∃ parts : List (List AV), avs = parts.flatten /\ parts.length = k /\ ∀ p ∈ parts, Ty P n e p
  | _ => False
def contig (P : Program) : Nat -> List Field -> Nat -> Bool
 | off, [], tot => off == tot
 | off, f :: fs, tot => f.offset == off && contig P (off + P.cellsOf f.type) fs tot
def okT (P : Program) (ts : List TypeId) (t : TypeId) : Bool :=
 match P.underlying t with
 | some (.int _) | some .bool | some .string => true
 | some (.slice e) => ts.contains e && decide (0 < P.cellsOf e) && decide (1 <= P.bytesOf e)
 | some (.struct fs) => fs.toList.all (fun f => ts.contains f.type) && contig P 0 fs.toList (P.cellsOf t)
 | some (.array k e) => ts.contains e && decide (k * P.cellsOf e = P.cellsOf t)
 | _ => false
def okTypes (P : Program) (ts : List TypeId) : Bool := ts.all (okT P ts)
def nowhere : Nat -> Nat -> Prop := fun _ _ => False
section
variable {H : Type} {enc : TypeId × Value -> H} {P : Program} {W : World} {base : Nat} {spare : Nat -> Bool} {held : Bool}
def Lightly (P : Program) (t : TypeId) (d : DataW H) : Prop := ∀ x ∈ DataW.weights P t d, x <= 140737488351232
theorem weightsEach_mem' : ∀ (ts : List TypeId) (ds : List (DataW H)) (i : Nat) (t : TypeId) (d : DataW H), ts[i]? = some t -> ds[i]? = some d -> ∀ x ∈ DataW.weights P t d, x ∈ DataW.weightsEach P ts ds
 | [], _, i, _, _, h, _, _, _ => by simp at h
 | _ :: _, [], i, _, _, _, h, _, _ => by simp at h
 | t' :: ts, d' :: ds, 0, t, d, h1, h2, x, hx => by
  simp at h1 h2; subst h1; subst h2
  simp only [DataW.weightsEach, List.mem_append]; exact .inl hx
 | t' :: ts, d' :: ds, i + 1, t, d, h1, h2, x, hx => by
  simp only [DataW.weightsEach, List.mem_append]
  exact .inr (weightsEach_mem' ts ds i t d (by simpa using h1) (by simpa using h2) x hx)
theorem weightsAll_mem' (e : TypeId) : ∀ (ds : List (DataW H)) (i : Nat) (d : DataW H), ds[i]? = some d -> ∀ x ∈ DataW.weights P e d, x ∈ DataW.weightsAll P e ds
 | [], i, _, h, _, _ => by simp at h
 | d' :: ds, 0, d, h2, x, hx => by
  simp at h2; subst h2
  simp only [DataW.weightsAll, List.mem_append]; exact .inl hx
 | d' :: ds, i + 1, d, h2, x, hx => by
  simp only [DataW.weightsAll, List.mem_append]
  exact .inr (weightsAll_mem' e ds i d (by simpa using h2) x hx)
theorem Lightly.part {t : TypeId} {fs : Array Field} {ps : List (DataW H)} (ht : P.underlying t = some (.struct fs)) (h : Lightly P t (.agg ps)) {i : Nat} {f : Field} {d : DataW H} (hf : fs[i]? = some f) (hd : ps[i]? = some d) : Lightly P f.type d := by
 intro x hx
 refine h x ?_
 simp only [DataW.weights, ht]
 exact weightsEach_mem' _ _ i f.type d (by simp [hf]) hd x hx
theorem Lightly.elem {t e : TypeId} {es sp : List (DataW H)} (ht : P.underlying t = some (.slice e)) (h : Lightly P t (.slice es sp)) {i : Nat} {d : DataW H} (hd : es[i]? = some d) : Lightly P e d := by
 intro x hx
 refine h x ?_
 simp only [DataW.weights, ht, List.mem_cons, List.mem_append]
 exact .inr (.inl (weightsAll_mem' e es i d hd x hx))
theorem Lightly.short {t e : TypeId} {es sp : List (DataW H)} (ht : P.underlying t = some (.slice e)) (h : Lightly P t (.slice es sp)) : es.length * P.bytesOf e <= 140737488351232 := by
 have := h ((es.length + sp.length) * P.bytesOf e) (by simp only [DataW.weights, ht, List.mem_cons, true_or])
 rw [Nat.add_mul] at this
 omega
theorem Lightly.at_ {t e : TypeId} {k : Nat} {ps : List (DataW H)} (ht : P.underlying t = some (.array k e)) (h : Lightly P t (.agg ps)) {i : Nat} {d : DataW H} (hd : ps[i]? = some d) : Lightly P e d := by
 intro x hx
 refine h x ?_
 simp only [DataW.weights, ht]
 exact weightsAll_mem' e ps i d hd x hx
theorem cells_concat (σ : Sg) : ∀ (fs : List Field) (off tot : Nat) (cs : List Value) (parts : List (List AV)), contig P off fs tot = true -> cs.length = tot -> parts.length = fs.length ->
  (∀ (i : Nat) (f : Field) (p : List AV), fs[i]? = some f -> parts[i]? = some p -> Cells σ p ((cs.drop f.offset).take (P.cellsOf f.type))) -> Cells σ parts.flatten (cs.drop off)
 | [], off, tot, cs, parts, hc, hl, hp, _ => by
  simp only [contig, beq_iff_eq] at hc
  have : parts = [] := List.eq_nil_of_length_eq_zero (by simpa using hp)
  subst this
  rw [List.drop_of_length_le (by omega)]
  exact Cells.nil σ
 | f :: fs, off, tot, cs, [], hc, hl, hp, _ => by simp at hp
 | f :: fs, off, tot, cs, p :: parts, hc, hl, hp, h => by
  simp only [contig, Bool.and_eq_true, beq_iff_eq] at hc
  obtain ⟨h1, h2⟩ := hc
  have h3 := h 0 f p rfl rfl
  have h4 := cells_concat σ fs (off + P.cellsOf f.type) tot cs parts h2 hl (by simpa using hp) (fun i g q hg hq => h (i + 1) g q (by simpa using hg) (by simpa using hq))
  have := h3.append h4
  rw [h1, ← List.drop_drop, List.take_append_drop] at this
  simpa using this
theorem cells_rows (σ : Sg) (k : Nat) : ∀ (parts : List (List AV)) (cs : List Value), cs.length = parts.length * k ->
  (∀ (i : Nat) (p : List AV), parts[i]? = some p -> Cells σ p ((cs.drop (i * k)).take k)) -> Cells σ parts.flatten cs
 | [], cs, hl, _ => by
  have : cs = [] := List.eq_nil_of_length_eq_zero (by simpa using hl)
  subst this
  exact Cells.nil σ
 | p :: parts, cs, hl, h => by
  have h3 := h 0 p rfl
  rw [List.length_cons, Nat.add_mul] at hl
  have h4 := cells_rows σ k parts (cs.drop k) (by simp; omega) (fun i q hq => by
   have := h (i + 1) q (by simpa using hq)
   rw [List.drop_drop, show k + i * k = (i + 1) * k by rw [Nat.add_mul]; omega]
   exact this)
  have := h3.append h4
  simp only [Nat.zero_mul, List.drop_zero, List.take_append_drop] at this
  simpa using this
theorem plainL_append {a b : List AV} : plainL (a ++ b) = (plainL a && plainL b) := by
 induction a with
 | nil => simp [plainL]
 | cons x a ih => simp [plainL, ih, Bool.and_assoc]
theorem plainL_flatten : ∀ {l : List (List AV)}, (∀ p ∈ l, plainL p = true) -> plainL l.flatten = true
 | [], _ => rfl
 | p :: l, h => by rw [List.flatten_cons, plainL_append, h p (by simp), plainL_flatten (fun q hq => h q (by simp [hq]))]; rfl
theorem plainLL_of : ∀ {l : List (List AV)}, (∀ p ∈ l, plainL p = true) -> plainLL l = true
 | [], _ => rfl
 | p :: l, h => by simp only [plainLL, Bool.and_eq_true]; exact ⟨h p (by simp), plainLL_of fun q hq => h q (by simp [hq])⟩
end
end
def eI_i8 (x : Int) : List AV := [.v (.int .i8 x)]
theorem plm_I_i8 (l : List Int) : plainLL (l.map eI_i8) = true := plainLL_map _ _ fun x _ => rfl
def eI_i16 (x : Int) : List AV := [.v (.int .i16 x)]
theorem plm_I_i16 (l : List Int) : plainLL (l.map eI_i16) = true := plainLL_map _ _ fun x _ => rfl
def eI_i32 (x : Int) : List AV := [.v (.int .i32 x)]
theorem plm_I_i32 (l : List Int) : plainLL (l.map eI_i32) = true := plainLL_map _ _ fun x _ => rfl
def eI_i64 (x : Int) : List AV := [.v (.int .i64 x)]
theorem plm_I_i64 (l : List Int) : plainLL (l.map eI_i64) = true := plainLL_map _ _ fun x _ => rfl
def eI_u8 (x : Int) : List AV := [.v (.int .u8 x)]
theorem plm_I_u8 (l : List Int) : plainLL (l.map eI_u8) = true := plainLL_map _ _ fun x _ => rfl
def eI_u16 (x : Int) : List AV := [.v (.int .u16 x)]
theorem plm_I_u16 (l : List Int) : plainLL (l.map eI_u16) = true := plainLL_map _ _ fun x _ => rfl
def eI_u32 (x : Int) : List AV := [.v (.int .u32 x)]
theorem plm_I_u32 (l : List Int) : plainLL (l.map eI_u32) = true := plainLL_map _ _ fun x _ => rfl
def eI_u64 (x : Int) : List AV := [.v (.int .u64 x)]
theorem plm_I_u64 (l : List Int) : plainLL (l.map eI_u64) = true := plainLL_map _ _ fun x _ => rfl
def eBool (x : Bool) : List AV := [.v (.bool x)]
theorem plm_Bool (l : List Bool) : plainLL (l.map eBool) = true := plainLL_map _ _ fun x _ => rfl
def eStr (x : ByteArray) : List AV := [.v (.string x)]
theorem plm_Str (l : List ByteArray) : plainLL (l.map eStr) = true := plainLL_map _ _ fun x _ => rfl
structure GOp where
 Num : Int
 Name : ByteArray
 Alias : ByteArray
 Card : Int
 Key : Int
 Kind : Int
 Target : Int
 Union : Int
def eGOp (x : GOp) : List AV := [.v (.int .i64 x.Num), .v (.string x.Name), .v (.string x.Alias), .v (.int .i64 x.Card), .v (.int .i64 x.Key), .v (.int .i64 x.Kind), .v (.int .i64 x.Target), .v (.int .i64 x.Union)]
theorem pl_GOp (x : GOp) : plainL (eGOp x) = true := by simp [eGOp, plainL, plain, plm_I_i8, plm_I_i16, plm_I_i32, plm_I_i64, plm_I_u8, plm_I_u16, plm_I_u32, plm_I_u64, plm_Bool, plm_Str, gfn_fi, gfn_cap, plm_Fn]
theorem plm_GOp (l : List GOp) : plainLL (l.map eGOp) = true := plainLL_map _ _ fun x _ => pl_GOp x
structure GProg where
 Name : ByteArray
 Ops : (List GOp)
 Unions : Int
def eGProg (x : GProg) : List AV := [.v (.string x.Name), .sl (List.map eGOp x.Ops) .no, .v (.int .i64 x.Unions)]
theorem pl_GProg (x : GProg) : plainL (eGProg x) = true := by simp [eGProg, plainL, plain, plm_I_i8, plm_I_i16, plm_I_i32, plm_I_i64, plm_I_u8, plm_I_u16, plm_I_u32, plm_I_u64, plm_Bool, plm_Str, gfn_fi, gfn_cap, plm_Fn, pl_GOp, plm_GOp]
theorem plm_GProg (l : List GProg) : plainLL (l.map eGProg) = true := plainLL_map _ _ fun x _ => pl_GProg x
structure GRaw where
 Num : Int
 Wire : Int
 Bits : Int
 Data : ByteArray
def eGRaw (x : GRaw) : List AV := [.v (.int .i64 x.Num), .v (.int .i64 x.Wire), .v (.int .u64 x.Bits), .v (.string x.Data)]
theorem pl_GRaw (x : GRaw) : plainL (eGRaw x) = true := by simp [eGRaw, plainL, plain, plm_I_i8, plm_I_i16, plm_I_i32, plm_I_i64, plm_I_u8, plm_I_u16, plm_I_u32, plm_I_u64, plm_Bool, plm_Str, gfn_fi, gfn_cap, plm_Fn, pl_GOp, plm_GOp, pl_GProg, plm_GProg]
theorem plm_GRaw (l : List GRaw) : plainLL (l.map eGRaw) = true := plainLL_map _ _ fun x _ => pl_GRaw x
structure GValue where
 Kind : Int
 Bits : Int
 Text : ByteArray
 List_ : (List GValue)
 Pairs : (List (GValue × GValue))
 Slots : (List (Int × GValue))
 Raws : (List GRaw)
mutual
def eGValue' : GValue -> List AV
 | ⟨f0, f1, f2, f3, f4, f5, f6⟩ => [.v (.int .i64 f0), .v (.int .u64 f1), .v (.string f2), .sl (eGValue'L f3) .no, .sl (eGPair'L f4) .no, .sl (eGSlot'L f5) .no, .sl (List.map eGRaw f6) .no]
def eGValue'L : List GValue -> List (List AV)
 | [] => []
 | x :: l => (eGValue' x) :: eGValue'L l
def eGPair'L : List (GValue × GValue) -> List (List AV)
 | [] => []
 | (z0, z1) :: l => (eGValue' z0 ++ eGValue' z1) :: eGPair'L l
def eGSlot'L : List (Int × GValue) -> List (List AV)
 | [] => []
 | (z0, z1) :: l => ([.v (.int .i64 z0)] ++ eGValue' z1) :: eGSlot'L l
end
def eGPair' (x : (GValue × GValue)) : List AV := eGValue' x.1 ++ eGValue' x.2
def eGSlot' (x : (Int × GValue)) : List AV := [.v (.int .i64 x.1)] ++ eGValue' x.2
theorem eGValue'L_map : ∀ l, eGValue'L l = List.map eGValue' l
 | [] => rfl
 | x :: l => by simp only [eGValue'L, List.map_cons, eGValue'L_map l]
theorem eGPair'L_map : ∀ l, eGPair'L l = List.map eGPair' l
 | [] => rfl
 | x :: l => by simp only [eGPair'L, List.map_cons, eGPair'L_map l, eGPair']
theorem eGSlot'L_map : ∀ l, eGSlot'L l = List.map eGSlot' l
 | [] => rfl
 | x :: l => by simp only [eGSlot'L, List.map_cons, eGSlot'L_map l, eGSlot']
def eGValue (x : GValue) : List AV := [.v (.int .i64 x.Kind), .v (.int .u64 x.Bits), .v (.string x.Text), .sl (List.map eGValue' x.List_) .no, .sl (List.map eGPair' x.Pairs) .no, .sl (List.map eGSlot' x.Slots) .no, .sl (List.map eGRaw x.Raws) .no]
def eGPair (x : (GValue × GValue)) : List AV := [.v (.int .i64 x.1.Kind), .v (.int .u64 x.1.Bits), .v (.string x.1.Text), .sl (List.map eGValue' x.1.List_) .no, .sl (List.map eGPair' x.1.Pairs) .no, .sl (List.map eGSlot' x.1.Slots) .no, .sl (List.map eGRaw x.1.Raws) .no, .v (.int .i64 x.2.Kind), .v (.int .u64 x.2.Bits), .v (.string x.2.Text), .sl (List.map eGValue' x.2.List_) .no, .sl (List.map eGPair' x.2.Pairs) .no, .sl (List.map eGSlot' x.2.Slots) .no, .sl (List.map eGRaw x.2.Raws) .no]
def eGSlot (x : (Int × GValue)) : List AV := [.v (.int .i64 x.1), .v (.int .i64 x.2.Kind), .v (.int .u64 x.2.Bits), .v (.string x.2.Text), .sl (List.map eGValue' x.2.List_) .no, .sl (List.map eGPair' x.2.Pairs) .no, .sl (List.map eGSlot' x.2.Slots) .no, .sl (List.map eGRaw x.2.Raws) .no]
theorem eGValue'_eq (x : GValue) : eGValue' x = eGValue x := by cases x; simp only [eGValue', eGValue, eGValue'L_map, eGPair'L_map, eGSlot'L_map]
theorem eGPair'_eq (x : (GValue × GValue)) : eGPair' x = eGPair x := by simp only [eGPair', eGPair, eGValue'_eq, eGValue, List.cons_append, List.nil_append]
theorem eGSlot'_eq (x : (Int × GValue)) : eGSlot' x = eGSlot x := by simp only [eGSlot', eGSlot, eGValue'_eq, eGValue, List.cons_append, List.nil_append]
mutual
theorem pl_GValue' : ∀ x, plainL (eGValue' x) = true
 | ⟨f0, f1, f2, f3, f4, f5, f6⟩ => by simp [eGValue', plainL, plain, pl_eGValue'L f3, pl_eGPair'L f4, pl_eGSlot'L f5, plm_I_i8, plm_I_i16, plm_I_i32, plm_I_i64, plm_I_u8, plm_I_u16, plm_I_u32, plm_I_u64, plm_Bool, plm_Str, gfn_fi, gfn_cap, plm_Fn, pl_GOp, plm_GOp, pl_GProg, plm_GProg, pl_GRaw, plm_GRaw]
theorem pl_eGValue'L : ∀ l, plainLL (eGValue'L l) = true
 | [] => rfl
 | x :: l => by simp [eGValue'L, plainLL, plainL, plain, plainL_append, pl_GValue' x, pl_eGValue'L l]
theorem pl_eGPair'L : ∀ l, plainLL (eGPair'L l) = true
 | [] => rfl
 | (z0, z1) :: l => by simp [eGPair'L, plainLL, plainL, plain, plainL_append, pl_GValue' z0, pl_GValue' z1, pl_eGPair'L l]
theorem pl_eGSlot'L : ∀ l, plainLL (eGSlot'L l) = true
 | [] => rfl
 | (z0, z1) :: l => by simp [eGSlot'L, plainLL, plainL, plain, plainL_append, pl_GValue' z1, pl_eGSlot'L l]
end
theorem plm_GValue (l : List GValue) : plainLL (l.map eGValue') = true := by rw [← eGValue'L_map]; exact pl_eGValue'L l
theorem pl_GValue (x : GValue) : plainL (eGValue x) = true := by have := plm_GValue [x]; simpa [plainLL, eGValue'_eq] using this
theorem plm_GPair (l : List (GValue × GValue)) : plainLL (l.map eGPair') = true := by rw [← eGPair'L_map]; exact pl_eGPair'L l
theorem pl_GPair (x : (GValue × GValue)) : plainL (eGPair x) = true := by have := plm_GPair [x]; simpa [plainLL, eGPair'_eq] using this
theorem plm_GSlot (l : List (Int × GValue)) : plainLL (l.map eGSlot') = true := by rw [← eGSlot'L_map]; exact pl_eGSlot'L l
theorem pl_GSlot (x : (Int × GValue)) : plainL (eGSlot x) = true := by have := plm_GSlot [x]; simpa [plainLL, eGSlot'_eq] using this
structure GNote where
 Name : ByteArray
 Val : GValue
def eGNote (x : GNote) : List AV := [.v (.string x.Name), .v (.int .i64 x.Val.Kind), .v (.int .u64 x.Val.Bits), .v (.string x.Val.Text), .sl (List.map eGValue' x.Val.List_) .no, .sl (List.map eGPair' x.Val.Pairs) .no, .sl (List.map eGSlot' x.Val.Slots) .no, .sl (List.map eGRaw x.Val.Raws) .no]
theorem pl_GNote (x : GNote) : plainL (eGNote x) = true := by simp [eGNote, plainL, plain, plm_I_i8, plm_I_i16, plm_I_i32, plm_I_i64, plm_I_u8, plm_I_u16, plm_I_u32, plm_I_u64, plm_Bool, plm_Str, gfn_fi, gfn_cap, plm_Fn, pl_GOp, plm_GOp, pl_GProg, plm_GProg, pl_GRaw, plm_GRaw, pl_GValue, plm_GValue, pl_GPair, plm_GPair, pl_GSlot, plm_GSlot]
theorem plm_GNote (l : List GNote) : plainLL (l.map eGNote) = true := plainLL_map _ _ fun x _ => pl_GNote x
structure GItem where
 Name : ByteArray
 Num : Int
 Notes : (List GNote)
def eGItem (x : GItem) : List AV := [.v (.string x.Name), .v (.int .i64 x.Num), .sl (List.map eGNote x.Notes) .no]
theorem pl_GItem (x : GItem) : plainL (eGItem x) = true := by simp [eGItem, plainL, plain, plm_I_i8, plm_I_i16, plm_I_i32, plm_I_i64, plm_I_u8, plm_I_u16, plm_I_u32, plm_I_u64, plm_Bool, plm_Str, gfn_fi, gfn_cap, plm_Fn, pl_GOp, plm_GOp, pl_GProg, plm_GProg, pl_GRaw, plm_GRaw, pl_GValue, plm_GValue, pl_GPair, plm_GPair, pl_GSlot, plm_GSlot, pl_GNote, plm_GNote]
theorem plm_GItem (l : List GItem) : plainLL (l.map eGItem) = true := plainLL_map _ _ fun x _ => pl_GItem x
structure GSpan where
 From : Int
 To : Int
def eGSpan (x : GSpan) : List AV := [.v (.int .i64 x.From), .v (.int .i64 x.To)]
theorem pl_GSpan (x : GSpan) : plainL (eGSpan x) = true := by simp [eGSpan, plainL, plain, plm_I_i8, plm_I_i16, plm_I_i32, plm_I_i64, plm_I_u8, plm_I_u16, plm_I_u32, plm_I_u64, plm_Bool, plm_Str, gfn_fi, gfn_cap, plm_Fn, pl_GOp, plm_GOp, pl_GProg, plm_GProg, pl_GRaw, plm_GRaw, pl_GValue, plm_GValue, pl_GPair, plm_GPair, pl_GSlot, plm_GSlot, pl_GNote, plm_GNote, pl_GItem, plm_GItem]
theorem plm_GSpan (l : List GSpan) : plainLL (l.map eGSpan) = true := plainLL_map _ _ fun x _ => pl_GSpan x
structure GEnum where
 Name : ByteArray
 Open : Bool
 Items : (List GItem)
 Reserved : (List GSpan)
 Notes : (List GNote)
def eGEnum (x : GEnum) : List AV := [.v (.string x.Name), .v (.bool x.Open), .sl (List.map eGItem x.Items) .no, .sl (List.map eGSpan x.Reserved) .no, .sl (List.map eGNote x.Notes) .no]
theorem pl_GEnum (x : GEnum) : plainL (eGEnum x) = true := by simp [eGEnum, plainL, plain, plm_I_i8, plm_I_i16, plm_I_i32, plm_I_i64, plm_I_u8, plm_I_u16, plm_I_u32, plm_I_u64, plm_Bool, plm_Str, gfn_fi, gfn_cap, plm_Fn, pl_GOp, plm_GOp, pl_GProg, plm_GProg, pl_GRaw, plm_GRaw, pl_GValue, plm_GValue, pl_GPair, plm_GPair, pl_GSlot, plm_GSlot, pl_GNote, plm_GNote, pl_GItem, plm_GItem, pl_GSpan, plm_GSpan]
theorem plm_GEnum (l : List GEnum) : plainLL (l.map eGEnum) = true := plainLL_map _ _ fun x _ => pl_GEnum x
structure GPlan where
 Progs : (List GProg)
 Enums : (List GEnum)
def eGPlan (x : GPlan) : List AV := [.sl (List.map eGProg x.Progs) .no, .sl (List.map eGEnum x.Enums) .no]
theorem pl_GPlan (x : GPlan) : plainL (eGPlan x) = true := by simp [eGPlan, plainL, plain, plm_I_i8, plm_I_i16, plm_I_i32, plm_I_i64, plm_I_u8, plm_I_u16, plm_I_u32, plm_I_u64, plm_Bool, plm_Str, gfn_fi, gfn_cap, plm_Fn, pl_GOp, plm_GOp, pl_GProg, plm_GProg, pl_GRaw, plm_GRaw, pl_GValue, plm_GValue, pl_GPair, plm_GPair, pl_GSlot, plm_GSlot, pl_GNote, plm_GNote, pl_GItem, plm_GItem, pl_GSpan, plm_GSpan, pl_GEnum, plm_GEnum]
theorem plm_GPlan (l : List GPlan) : plainLL (l.map eGPlan) = true := plainLL_map _ _ fun x _ => pl_GPlan x
structure Gleaf where
 name : ByteArray
 val : ByteArray
def eGleaf (x : Gleaf) : List AV := [.v (.string x.name), .v (.string x.val)]
theorem pl_Gleaf (x : Gleaf) : plainL (eGleaf x) = true := by simp [eGleaf, plainL, plain, plm_I_i8, plm_I_i16, plm_I_i32, plm_I_i64, plm_I_u8, plm_I_u16, plm_I_u32, plm_I_u64, plm_Bool, plm_Str, gfn_fi, gfn_cap, plm_Fn, pl_GOp, plm_GOp, pl_GProg, plm_GProg, pl_GRaw, plm_GRaw, pl_GValue, plm_GValue, pl_GPair, plm_GPair, pl_GSlot, plm_GSlot, pl_GNote, plm_GNote, pl_GItem, plm_GItem, pl_GSpan, plm_GSpan, pl_GEnum, plm_GEnum, pl_GPlan, plm_GPlan]
theorem plm_Gleaf (l : List Gleaf) : plainLL (l.map eGleaf) = true := plainLL_map _ _ fun x _ => pl_Gleaf x
structure Gopening where
 name : ByteArray
def eGopening (x : Gopening) : List AV := [.v (.string x.name)]
theorem pl_Gopening (x : Gopening) : plainL (eGopening x) = true := by simp [eGopening, plainL, plain, plm_I_i8, plm_I_i16, plm_I_i32, plm_I_i64, plm_I_u8, plm_I_u16, plm_I_u32, plm_I_u64, plm_Bool, plm_Str, gfn_fi, gfn_cap, plm_Fn, pl_GOp, plm_GOp, pl_GProg, plm_GProg, pl_GRaw, plm_GRaw, pl_GValue, plm_GValue, pl_GPair, plm_GPair, pl_GSlot, plm_GSlot, pl_GNote, plm_GNote, pl_GItem, plm_GItem, pl_GSpan, plm_GSpan, pl_GEnum, plm_GEnum, pl_GPlan, plm_GPlan, pl_Gleaf, plm_Gleaf]
theorem plm_Gopening (l : List Gopening) : plainLL (l.map eGopening) = true := plainLL_map _ _ fun x _ => pl_Gopening x
structure Gclosing where
def eGclosing (x : Gclosing) : List AV := []
theorem pl_Gclosing (x : Gclosing) : plainL (eGclosing x) = true := by simp [eGclosing, plainL, plain, plm_I_i8, plm_I_i16, plm_I_i32, plm_I_i64, plm_I_u8, plm_I_u16, plm_I_u32, plm_I_u64, plm_Bool, plm_Str, gfn_fi, gfn_cap, plm_Fn, pl_GOp, plm_GOp, pl_GProg, plm_GProg, pl_GRaw, plm_GRaw, pl_GValue, plm_GValue, pl_GPair, plm_GPair, pl_GSlot, plm_GSlot, pl_GNote, plm_GNote, pl_GItem, plm_GItem, pl_GSpan, plm_GSpan, pl_GEnum, plm_GEnum, pl_GPlan, plm_GPlan, pl_Gleaf, plm_Gleaf, pl_Gopening, plm_Gopening]
theorem plm_Gclosing (l : List Gclosing) : plainLL (l.map eGclosing) = true := plainLL_map _ _ fun x _ => pl_Gclosing x
structure Gparts where
 slots : (List (Int × GValue))
 raws : (List GRaw)
def eGparts (x : Gparts) : List AV := [.sl (List.map eGSlot' x.slots) .no, .sl (List.map eGRaw x.raws) .no]
theorem pl_Gparts (x : Gparts) : plainL (eGparts x) = true := by simp [eGparts, plainL, plain, plm_I_i8, plm_I_i16, plm_I_i32, plm_I_i64, plm_I_u8, plm_I_u16, plm_I_u32, plm_I_u64, plm_Bool, plm_Str, gfn_fi, gfn_cap, plm_Fn, pl_GOp, plm_GOp, pl_GProg, plm_GProg, pl_GRaw, plm_GRaw, pl_GValue, plm_GValue, pl_GPair, plm_GPair, pl_GSlot, plm_GSlot, pl_GNote, plm_GNote, pl_GItem, plm_GItem, pl_GSpan, plm_GSpan, pl_GEnum, plm_GEnum, pl_GPlan, plm_GPlan, pl_Gleaf, plm_Gleaf, pl_Gopening, plm_Gopening, pl_Gclosing, plm_Gclosing]
theorem plm_Gparts (l : List Gparts) : plainLL (l.map eGparts) = true := plainLL_map _ _ fun x _ => pl_Gparts x
structure PAV where
 t : Nat
 a : AV
 h : plain a = true
 q : List.contains [9, 126, 128, 130, 261, 275, 276, 278, 281] t = false
inductive GAny where
 | nil
 | other (x : PAV)
 | a_string (x : ByteArray)
 | a_textform_leaf (x : Gleaf)
 | a_textform_opening (x : Gopening)
 | a_textform_closing (x : Gclosing)
 | a_strconv_Error (x : Int)
 | a_order_one (x : GValue)
 | a_order_list (x : (List GValue))
 | a_order_pairs (x : (List (GValue × GValue)))
 | a_order_parts (x : Gparts)
def eAny : GAny -> AV
 | .nil => .v .nilIface
 | .other x => .iface x.t x.a
 | .a_string x => .iface 9 (.v (.string x))
 | .a_textform_leaf x => .iface 126 (.agg (eGleaf x))
 | .a_textform_opening x => .iface 128 (.agg (eGopening x))
 | .a_textform_closing x => .iface 130 (.agg (eGclosing x))
 | .a_strconv_Error x => .iface 261 (.v (.int .i64 x))
 | .a_order_one x => .iface 275 (.agg (eGValue x))
 | .a_order_list x => .iface 276 (.sl (List.map eGValue' x) .no)
 | .a_order_pairs x => .iface 278 (.sl (List.map eGPair' x) .no)
 | .a_order_parts x => .iface 281 (.agg (eGparts x))
theorem pl_Any (x : GAny) : plain (eAny x) = true := by cases x <;> simp [eAny, plain, plainL, plm_I_i8, plm_I_i16, plm_I_i32, plm_I_i64, plm_I_u8, plm_I_u16, plm_I_u32, plm_I_u64, plm_Bool, plm_Str, gfn_fi, gfn_cap, plm_Fn, pl_GOp, plm_GOp, pl_GProg, plm_GProg, pl_GRaw, plm_GRaw, pl_GValue, plm_GValue, pl_GPair, plm_GPair, pl_GSlot, plm_GSlot, pl_GNote, plm_GNote, pl_GItem, plm_GItem, pl_GSpan, plm_GSpan, pl_GEnum, plm_GEnum, pl_GPlan, plm_GPlan, pl_Gleaf, plm_Gleaf, pl_Gopening, plm_Gopening, pl_Gclosing, plm_Gclosing, pl_Gparts, plm_Gparts, PAV.h]
theorem lwc_GEnum (m : List Bool) (n : Nat) (x : GEnum) : lowL m n (eGEnum x) = true := lowL_plain _ _ _ (pl_GEnum x)
theorem lwc_GPlan (m : List Bool) (n : Nat) (x : GPlan) : lowL m n (eGPlan x) = true := lowL_plain _ _ _ (pl_GPlan x)
theorem lwm_I_u8 (m : List Bool) (n : Nat) (l : List Int) : lowLL m n (l.map eI_u8) = true := lowLL_plain _ _ _ (plm_I_u8 l)
theorem lwm_GItem (m : List Bool) (n : Nat) (l : List GItem) : lowLL m n (l.map eGItem) = true := lowLL_plain _ _ _ (plm_GItem l)
theorem lwr_Bool (m : List Bool) (n : Nat) (l : List Bool) : lowL m n (cellsOf eBool l) = true := lowL_plain _ _ _ (plainL_cellsOf _ (plm_Bool l))
def nilB (yes : Bool) : GAny -> Bool
 | .nil => yes
 | _ => !yes
theorem KEn {P : Program} {f : Nat} {R : Rm} {s : Mc} {V : Prop} (m : Nat) (b : Bool) (y : GAny) (hk : Wk P f R (put (run m s) (.v (.bool (nilB b y)))) V) (hc : okS (run m s) = true := by kernel_rfl) (ho : op (run m s) = .eq .iface b (oX (op (run m s))) (oY (op (run m s))) := by kernel_rfl) (hx : xv (run m s) = some (eAny y) := by kernel_rfl) (hy : yv (run m s) = some (.v .nilIface) := by kernel_rfl) : Wk P f R s V := fun hw => ev0 m (fun h K hk => by
 rw [ho]
 simp only [aop]
 change wv (xv _) _
 rw [hx]
 simp only [wv]
 change wv (yv _) _
 rw [hy]
 cases y <;> (cases b <;> exact hk)) (hk hw) hc
theorem rowE_Bool : RowE eBool 1 := ⟨fun y => rfl, fun y => rfl, fun y => rfl, fun y => rfl⟩
def nBool : En Bool := ⟨eBool, eBool, 1, fun _ => rfl, fun _ => rfl, rowE_Bool⟩
theorem rowE_GEnum : RowE eGEnum 5 := ⟨fun y => rfl, fun y => rfl, fun y => pl_GEnum y, fun y => rfl⟩
def nGEnum : En GEnum := ⟨eGEnum, eGEnum, 5, fun _ => rfl, fun _ => rfl, rowE_GEnum⟩
theorem rowE_GItem : RowE eGItem 3 := ⟨fun y => rfl, fun y => rfl, fun y => pl_GItem y, fun y => rfl⟩
def nGItem : En GItem := ⟨eGItem, eGItem, 3, fun _ => rfl, fun _ => rfl, rowE_GItem⟩
theorem rowE_GNote : RowE eGNote 8 := ⟨fun y => rfl, fun y => rfl, fun y => pl_GNote y, fun y => rfl⟩
def nGNote : En GNote := ⟨eGNote, eGNote, 8, fun _ => rfl, fun _ => rfl, rowE_GNote⟩
theorem rowE_GOp : RowE eGOp 8 := ⟨fun y => rfl, fun y => rfl, fun y => pl_GOp y, fun y => rfl⟩
def nGOp : En GOp := ⟨eGOp, eGOp, 8, fun _ => rfl, fun _ => rfl, rowE_GOp⟩
theorem rowE_GPair : RowE eGPair' 14 := ⟨fun y => by rw [eGPair'_eq]; rfl, fun y => by rw [eGPair'_eq]; rfl, fun y => by rw [eGPair'_eq]; exact pl_GPair y, fun y => by rw [eGPair'_eq]; rfl⟩
def nGPair : En (GValue × GValue) := ⟨eGPair, eGPair', 14, fun y => eGPair'_eq y, fun _ => rfl, rowE_GPair⟩
theorem rowE_GProg : RowE eGProg 3 := ⟨fun y => rfl, fun y => rfl, fun y => pl_GProg y, fun y => rfl⟩
def nGProg : En GProg := ⟨eGProg, eGProg, 3, fun _ => rfl, fun _ => rfl, rowE_GProg⟩
theorem rowE_GRaw : RowE eGRaw 4 := ⟨fun y => rfl, fun y => rfl, fun y => pl_GRaw y, fun y => rfl⟩
def nGRaw : En GRaw := ⟨eGRaw, eGRaw, 4, fun _ => rfl, fun _ => rfl, rowE_GRaw⟩
theorem rowE_GSlot : RowE eGSlot' 8 := ⟨fun y => by rw [eGSlot'_eq]; rfl, fun y => by rw [eGSlot'_eq]; rfl, fun y => by rw [eGSlot'_eq]; exact pl_GSlot y, fun y => by rw [eGSlot'_eq]; rfl⟩
def nGSlot : En (Int × GValue) := ⟨eGSlot, eGSlot', 8, fun y => eGSlot'_eq y, fun _ => rfl, rowE_GSlot⟩
theorem rowE_GSpan : RowE eGSpan 2 := ⟨fun y => rfl, fun y => rfl, fun y => pl_GSpan y, fun y => rfl⟩
def nGSpan : En GSpan := ⟨eGSpan, eGSpan, 2, fun _ => rfl, fun _ => rfl, rowE_GSpan⟩
theorem rowE_GValue : RowE eGValue' 7 := ⟨fun y => by rw [eGValue'_eq]; rfl, fun y => by rw [eGValue'_eq]; rfl, fun y => by rw [eGValue'_eq]; exact pl_GValue y, fun y => by rw [eGValue'_eq]; rfl⟩
def nGValue : En GValue := ⟨eGValue, eGValue', 7, fun y => eGValue'_eq y, fun _ => rfl, rowE_GValue⟩
theorem rowE_I_u8 : RowE eI_u8 1 := ⟨fun y => rfl, fun y => rfl, fun y => rfl, fun y => rfl⟩
def nI_u8 : En Int := ⟨eI_u8, eI_u8, 1, fun _ => rfl, fun _ => rfl, rowE_I_u8⟩
noncomputable abbrev Pg : Program := Tryz.prog
def GLm (mg : Int) : List (Nat × List AV) := [(1, [.v (.int .u64 1), .v (.int .u64 10), .v (.int .u64 100), .v (.int .u64 1000), .v (.int .u64 10000), .v (.int .u64 100000), .v (.int .u64 1000000), .v (.int .u64 10000000), .v (.int .u64 100000000), .v (.int .u64 1000000000), .v (.int .u64 10000000000), .v (.int .u64 100000000000), .v (.int .u64 1000000000000), .v (.int .u64 10000000000000), .v (.int .u64 100000000000000), .v (.int .u64 1000000000000000), .v (.int .u64 10000000000000000), .v (.int .u64 100000000000000000), .v (.int .u64 1000000000000000000), .v (.int .u64 10000000000000000000)]), (5, [.v (.int .u8 0), .v (.int .u8 1), .v (.int .u8 56), .v (.int .u8 2), .v (.int .u8 57), .v (.int .u8 49), .v (.int .u8 28), .v (.int .u8 3), .v (.int .u8 61), .v (.int .u8 58), .v (.int .u8 42), .v (.int .u8 50), .v (.int .u8 38), .v (.int .u8 29), .v (.int .u8 17), .v (.int .u8 4), .v (.int .u8 62), .v (.int .u8 47), .v (.int .u8 59), .v (.int .u8 36), .v (.int .u8 45), .v (.int .u8 43), .v (.int .u8 51), .v (.int .u8 22), .v (.int .u8 53), .v (.int .u8 39), .v (.int .u8 33), .v (.int .u8 30), .v (.int .u8 24), .v (.int .u8 18), .v (.int .u8 12), .v (.int .u8 5), .v (.int .u8 63), .v (.int .u8 55), .v (.int .u8 48), .v (.int .u8 27), .v (.int .u8 60), .v (.int .u8 41), .v (.int .u8 37), .v (.int .u8 16), .v (.int .u8 46), .v (.int .u8 35), .v (.int .u8 44), .v (.int .u8 21), .v (.int .u8 52), .v (.int .u8 32), .v (.int .u8 23), .v (.int .u8 11), .v (.int .u8 54), .v (.int .u8 26), .v (.int .u8 40), .v (.int .u8 15), .v (.int .u8 34), .v (.int .u8 20), .v (.int .u8 31), .v (.int .u8 10), .v (.int .u8 25), .v (.int .u8 14), .v (.int .u8 19), .v (.int .u8 9), .v (.int .u8 13), .v (.int .u8 8), .v (.int .u8 7), .v (.int .u8 6)]), (3, [.iface 307 (.elt [] 0)]), (2, [.iface 307 (.elt [] 0)])]
abbrev e4 (r : Bool) : AV := .v (.bool r)
def law33_TextformScalars (mg : Int) (p : GPlan) (o_ : GOp) (v : GValue) (s : ByteArray) (r : Bool) : Prop := PureN Pg (GLm mg) 4 [.agg (eGPlan p), .agg (eGOp o_), .agg (eGValue v), .v (.string s)] (e4 r)
abbrev e5 (r : Int) : AV := .v (.int .i64 r)
def ref22_Check (p : GPlan) (r : Int) : Prop := PureN Pg [] 5 [.agg (eGPlan p)] (e5 r)
abbrev e6 (r : Bool) : AV := .v (.bool r)
def law33_awake (mg : Int)  (r : Bool) : Prop := PureN Pg (GLm mg) 6 [] (e6 r)
abbrev e11 (r : ByteArray) : AV := .v (.string r)
def textform_Scalar (mg : Int) (p : GPlan) (o_ : GOp) (v : GValue) (r : ByteArray) : Prop := PureN Pg (GLm mg) 11 [.agg (eGPlan p), .agg (eGOp o_), .agg (eGValue v)] (e11 r)
abbrev e12 (r : (GValue × Int)) : AV := .tuple [.agg (eGValue r.1), .v (.int .i64 r.2)]
def textform_ParseScalar (mg : Int) (p : GPlan) (o_ : GOp) (s : ByteArray) (r : (GValue × Int)) : Prop := PureN Pg (GLm mg) 12 [.agg (eGPlan p), .agg (eGOp o_), .v (.string s)] (e12 r)
abbrev e13 (r : (GValue × Int)) : AV := .tuple [.agg (eGValue r.1), .v (.int .i64 r.2)]
def ref33_ParseScalar (p : GPlan) (o_ : GOp) (s : ByteArray) (r : (GValue × Int)) : Prop := PureN Pg [] 13 [.agg (eGPlan p), .agg (eGOp o_), .v (.string s)] (e13 r)
abbrev e14 (r : ByteArray) : AV := .v (.string r)
def ref33_Scalar (p : GPlan) (o_ : GOp) (v : GValue) (r : ByteArray) : Prop := PureN Pg [] 14 [.agg (eGPlan p), .agg (eGOp o_), .agg (eGValue v)] (e14 r)
abbrev e15 (r : Bool) : AV := .v (.bool r)
def ref17_Same (a : GValue) (b : GValue) (r : Bool) : Prop := PureN Pg [] 15 [.agg (eGValue a), .agg (eGValue b)] (e15 r)
abbrev e16 (r : Bool) : AV := .v (.bool r)
def ref22_Accepts (p : GPlan) (enum : Int) (num : Int) (r : Bool) : Prop := PureN Pg [] 16 [.agg (eGPlan p), .v (.int .i64 enum), .v (.int .u64 num)] (e16 r)
abbrev e17 (r : Bool) : AV := .v (.bool r)
def ref22_limits (p : GPlan) (r : Bool) : Prop := PureN Pg [] 17 [.agg (eGPlan p)] (e17 r)
abbrev e18 (r : Bool) : AV := .v (.bool r)
def ref22_names (p : GPlan) (r : Bool) : Prop := PureN Pg [] 18 [.agg (eGPlan p)] (e18 r)
abbrev e19 (r : Bool) : AV := .v (.bool r)
def ref22_ordered (p : GPlan) (r : Bool) : Prop := PureN Pg [] 19 [.agg (eGPlan p)] (e19 r)
abbrev e20 (r : Bool) : AV := .v (.bool r)
def ref22_single (p : GPlan) (r : Bool) : Prop := PureN Pg [] 20 [.agg (eGPlan p)] (e20 r)
abbrev e21 (r : Bool) : AV := .v (.bool r)
def ref22_ranges (p : GPlan) (r : Bool) : Prop := PureN Pg [] 21 [.agg (eGPlan p)] (e21 r)
abbrev e22 (r : Bool) : AV := .v (.bool r)
def ref22_arguments (p : GPlan) (r : Bool) : Prop := PureN Pg [] 22 [.agg (eGPlan p)] (e22 r)
abbrev e23 (r : Bool) : AV := .v (.bool r)
def ref22_finite (p : GPlan) (r : Bool) : Prop := PureN Pg [] 23 [.agg (eGPlan p)] (e23 r)
abbrev e29 (r : ByteArray) : AV := .v (.string r)
def strings_Repeat (s : ByteArray) (count : Int) (r : ByteArray) : Prop := PureN Pg [] 29 [.v (.string s), .v (.int .i64 count)] (e29 r)
abbrev e35 (r : Bool) : AV := .v (.bool r)
def scalar_Is (kind : Int) (r : Bool) : Prop := PureN Pg [] 35 [.v (.int .i64 kind)] (e35 r)
abbrev e36 (r : Bool) : AV := .v (.bool r)
def scalar_Fits (kind : Int) (v : GValue) (r : Bool) : Prop := PureN Pg [] 36 [.v (.int .i64 kind), .agg (eGValue v)] (e36 r)
abbrev e37 (r : ByteArray) : AV := .v (.string r)
def scalar_Text (mg : Int) (v : GValue) (r : ByteArray) : Prop := PureN Pg (GLm mg) 37 [.agg (eGValue v)] (e37 r)
abbrev e38 (r : (GItem × Bool)) : AV := .tuple [.agg (eGItem r.1), .v (.bool r.2)]
def textform_itemOf (p : GPlan) (enum : Int) (num : Int) (r : (GItem × Bool)) : Prop := PureN Pg [] 38 [.agg (eGPlan p), .v (.int .i64 enum), .v (.int .u64 num)] (e38 r)
abbrev e39 (r : (GValue × Int)) : AV := .tuple [.agg (eGValue r.1), .v (.int .i64 r.2)]
def scalar_Parse (mg : Int) (kind : Int) (s : ByteArray) (r : (GValue × Int)) : Prop := PureN Pg (GLm mg) 39 [.v (.int .i64 kind), .v (.string s)] (e39 r)
abbrev e40 (r : (ByteArray × Bool)) : AV := .tuple [.v (.string r.1), .v (.bool r.2)]
def strings_CutPrefix (s : ByteArray) (prefix_ : ByteArray) (r : (ByteArray × Bool)) : Prop := PureN Pg [] 40 [.v (.string s), .v (.string prefix_)] (e40 r)
abbrev e41 (r : Bool) : AV := .v (.bool r)
def plan_Accepts (p : GPlan) (enum : Int) (num : Int) (r : Bool) : Prop := PureN Pg [] 41 [.agg (eGPlan p), .v (.int .i64 enum), .v (.int .u64 num)] (e41 r)
abbrev e42 (r : Bool) : AV := .v (.bool r)
def ident_IsPart (s : ByteArray) (r : Bool) : Prop := PureN Pg [] 42 [.v (.string s)] (e42 r)
abbrev e43 (r : (GValue × Int)) : AV := .tuple [.agg (eGValue r.1), .v (.int .i64 r.2)]
def ref04_Parse (kind : Int) (s : ByteArray) (r : (GValue × Int)) : Prop := PureN Pg [] 43 [.v (.int .i64 kind), .v (.string s)] (e43 r)
abbrev e44 (r : (GEnum × Bool)) : AV := .tuple [.agg (eGEnum r.1), .v (.bool r.2)]
def ref33_enum (p : GPlan) (o_ : GOp) (r : (GEnum × Bool)) : Prop := PureN Pg [] 44 [.agg (eGPlan p), .agg (eGOp o_)] (e44 r)
abbrev e45 (r : (ByteArray × Bool)) : AV := .tuple [.v (.string r.1), .v (.bool r.2)]
def ref33_item (e_ : GEnum) (bits : Int) (r : (ByteArray × Bool)) : Prop := PureN Pg [] 45 [.agg (eGEnum e_), .v (.int .u64 bits)] (e45 r)
abbrev e46 (r : Bool) : AV := .v (.bool r)
def ref06_IsPart (s : ByteArray) (r : Bool) : Prop := PureN Pg [] 46 [.v (.string s)] (e46 r)
abbrev e47 (r : Bool) : AV := .v (.bool r)
def ref04_Fits (kind : Int) (v : GValue) (r : Bool) : Prop := PureN Pg [] 47 [.v (.int .i64 kind), .agg (eGValue v)] (e47 r)
abbrev e48 (r : ByteArray) : AV := .v (.string r)
def ref04_Text (v : GValue) (r : ByteArray) : Prop := PureN Pg [] 48 [.agg (eGValue v)] (e48 r)
abbrev e49 (r : Bool) : AV := .v (.bool r)
def ref22_defined (s : ByteArray) (r : Bool) : Prop := PureN Pg [] 49 [.v (.string s)] (e49 r)
abbrev e50 (r : Bool) : AV := .v (.bool r)
def ref22_simple (s : ByteArray) (r : Bool) : Prop := PureN Pg [] 50 [.v (.string s)] (e50 r)
abbrev e51 (r : Bool) : AV := .v (.bool r)
def ref12_Reserved (l : (List GSpan)) (n : Int) (r : Bool) : Prop := PureN Pg [] 51 [.sl (List.map eGSpan l) .no, .v (.int .i64 n)] (e51 r)
abbrev e52 (r : Int) : AV := .v (.int .i64 r)
def ref08_Check (l : (List GNote)) (target : Int) (r : Int) : Prop := PureN Pg [] 52 [.sl (List.map eGNote l) .no, .v (.int .i64 target)] (e52 r)
abbrev e53 (r : Bool) : AV := .v (.bool r)
def ref22_joined (g : GProg) (r : Bool) : Prop := PureN Pg [] 53 [.agg (eGProg g)] (e53 r)
abbrev e54 (r : Bool) : AV := .v (.bool r)
def ref22_operation (p : GPlan) (o_ : GOp) (r : Bool) : Prop := PureN Pg [] 54 [.agg (eGPlan p), .agg (eGOp o_)] (e54 r)
abbrev e63 (r : (Int × Int)) : AV := .tuple [.v (.int .u64 r.1), .v (.int .u64 r.2)]
def math_bits_Mul (x : Int) (y : Int) (r : (Int × Int)) : Prop := PureN Pg [] 63 [.v (.int .u64 x), .v (.int .u64 y)] (e63 r)
abbrev e64 (r : Bool) : AV := .v (.bool r)
def strings_HasPrefix (s : ByteArray) (prefix_ : ByteArray) (r : Bool) : Prop := PureN Pg [] 64 [.v (.string s), .v (.string prefix_)] (e64 r)
abbrev e72 (r : Bool) : AV := .v (.bool r)
def scalar_lean (v : GValue) (r : Bool) : Prop := PureN Pg [] 72 [.agg (eGValue v)] (e72 r)
abbrev e73 (r : Bool) : AV := .v (.bool r)
def scalar_within (kind : Int) (bits : Int) (r : Bool) : Prop := PureN Pg [] 73 [.v (.int .i64 kind), .v (.int .u64 bits)] (e73 r)
abbrev e74 (r : Bool) : AV := .v (.bool r)
def utf_Valid (s : ByteArray) (r : Bool) : Prop := PureN Pg [] 74 [.v (.string s)] (e74 r)
abbrev e75 (r : ByteArray) : AV := .v (.string r)
def strconv_FormatBool (b : Bool) (r : ByteArray) : Prop := PureN Pg [] 75 [.v (.bool b)] (e75 r)
abbrev e76 (r : ByteArray) : AV := .v (.string r)
def strconv_Itoa (mg : Int) (x0 : Int) (r : ByteArray) : Prop := PureN Pg (GLm mg) 76 [.v (.int .i64 x0)] (e76 r)
abbrev e77 (r : ByteArray) : AV := .v (.string r)
def scalar_double (mg : Int) (bits : Int) (r : ByteArray) : Prop := PureN Pg (GLm mg) 77 [.v (.int .u64 bits)] (e77 r)
abbrev e78 (r : ByteArray) : AV := .v (.string r)
def utf_Quote (s : ByteArray) (r : ByteArray) : Prop := PureN Pg [] 78 [.v (.string s)] (e78 r)
abbrev e79 (r : ByteArray) : AV := .v (.string r)
def utf_Hex (s : ByteArray) (r : ByteArray) : Prop := PureN Pg [] 79 [.v (.string s)] (e79 r)
abbrev e80 (r : ByteArray) : AV := .v (.string r)
def strconv_FormatUint (mg : Int) (x0 : Int) (x1 : Int) (r : ByteArray) : Prop := PureN Pg (GLm mg) 80 [.v (.int .u64 x0), .v (.int .i64 x1)] (e80 r)
abbrev e81 (r : (GValue × Int)) : AV := .tuple [.agg (eGValue r.1), .v (.int .i64 r.2)]
def scalar_parseDouble (mg : Int) (s : ByteArray) (r : (GValue × Int)) : Prop := PureN Pg (GLm mg) 81 [.v (.string s)] (e81 r)
abbrev e82 (r : Bool) : AV := .v (.bool r)
def scalar_texty (kind : Int) (r : Bool) : Prop := PureN Pg [] 82 [.v (.int .i64 kind)] (e82 r)
abbrev e83 (r : (GValue × Int)) : AV := .tuple [.agg (eGValue r.1), .v (.int .i64 r.2)]
def scalar_parseText (kind : Int) (s : ByteArray) (r : (GValue × Int)) : Prop := PureN Pg [] 83 [.v (.int .i64 kind), .v (.string s)] (e83 r)
abbrev e84 (r : (GValue × Int)) : AV := .tuple [.agg (eGValue r.1), .v (.int .i64 r.2)]
def scalar_number (mg : Int) (kind : Int) (s : ByteArray) (r : (GValue × Int)) : Prop := PureN Pg (GLm mg) 84 [.v (.int .i64 kind), .v (.string s)] (e84 r)
abbrev e85 (r : (ByteArray × Bool)) : AV := .tuple [.v (.string r.1), .v (.bool r.2)]
def internal_stringslite_CutPrefix (s : ByteArray) (prefix_ : ByteArray) (r : (ByteArray × Bool)) : Prop := PureN Pg [] 85 [.v (.string s), .v (.string prefix_)] (e85 r)
abbrev e86 (r : Bool) : AV := .v (.bool r)
def slices_ContainsFunc_LItem_Item (s : (List GItem)) (f : GFn) (r : Bool) : Prop := PureN Pg [] 86 [.sl (List.map eGItem s) .no, .clo (.func f.fn) f.fi f.cap] (e86 r)
abbrev e87 (r : Bool) : AV := .v (.bool r)
def plan_Accepts_1 (it : GItem) (c1_ : Int) (r : Bool) : Prop := PureN Pg [] 87 [.agg (eGItem it), .elt (eI_u64 c1_) 0] (e87 r)
abbrev e88 (r : Int) : AV := .v (.int .i64 r)
def ident_class (c : Int) (r : Int) : Prop := PureN Pg [] 88 [.v (.int .i32 c)] (e88 r)
abbrev e89 (r : Bool) : AV := .v (.bool r)
def ref04_Is (kind : Int) (r : Bool) : Prop := PureN Pg [] 89 [.v (.int .i64 kind)] (e89 r)
abbrev e90 (r : (GValue × Int)) : AV := .tuple [.agg (eGValue r.1), .v (.int .i64 r.2)]
def ref04_double (s : ByteArray) (r : (GValue × Int)) : Prop := PureN Pg [] 90 [.v (.string s)] (e90 r)
abbrev e91 (r : (GValue × Int)) : AV := .tuple [.agg (eGValue r.1), .v (.int .i64 r.2)]
def ref04_text (kind : Int) (s : ByteArray) (r : (GValue × Int)) : Prop := PureN Pg [] 91 [.v (.int .i64 kind), .v (.string s)] (e91 r)
abbrev e92 (r : (GValue × Int)) : AV := .tuple [.agg (eGValue r.1), .v (.int .i64 r.2)]
def ref04_whole (kind : Int) (s : ByteArray) (r : (GValue × Int)) : Prop := PureN Pg [] 92 [.v (.int .i64 kind), .v (.string s)] (e92 r)
abbrev e93 (r : Bool) : AV := .v (.bool r)
def ref06_small (b : Int) (r : Bool) : Prop := PureN Pg [] 93 [.v (.int .u8 b)] (e93 r)
abbrev e94 (r : Bool) : AV := .v (.bool r)
def ref06_capital (b : Int) (r : Bool) : Prop := PureN Pg [] 94 [.v (.int .u8 b)] (e94 r)
abbrev e95 (r : Bool) : AV := .v (.bool r)
def ref04_lone (v : GValue) (r : Bool) : Prop := PureN Pg [] 95 [.agg (eGValue v)] (e95 r)
abbrev e96 (r : Bool) : AV := .v (.bool r)
def ref04_texts (kind : Int) (r : Bool) : Prop := PureN Pg [] 96 [.v (.int .i64 kind)] (e96 r)
abbrev e97 (r : Bool) : AV := .v (.bool r)
def ref03_Valid (s : ByteArray) (r : Bool) : Prop := PureN Pg [] 97 [.v (.string s)] (e97 r)
abbrev e98 (r : ByteArray) : AV := .v (.string r)
def ref04_decimal (u : Int) (r : ByteArray) : Prop := PureN Pg [] 98 [.v (.int .u64 u)] (e98 r)
abbrev e99 (r : Int) : AV := .v (.int .i64 r)
def ref04_Class (bits : Int) (r : Int) : Prop := PureN Pg [] 99 [.v (.int .u64 bits)] (e99 r)
abbrev e100 (r : ByteArray) : AV := .v (.string r)
def ref04_hex (u : Int) (r : ByteArray) : Prop := PureN Pg [] 100 [.v (.int .u64 u)] (e100 r)
abbrev e101 (r : ByteArray) : AV := .v (.string r)
def ref03_Quote (s : ByteArray) (r : ByteArray) : Prop := PureN Pg [] 101 [.v (.string s)] (e101 r)
abbrev e102 (r : ByteArray) : AV := .v (.string r)
def ref03_Hex (s : ByteArray) (r : ByteArray) : Prop := PureN Pg [] 102 [.v (.string s)] (e102 r)
abbrev e103 (r : Bool) : AV := .v (.bool r)
def ref06_IsFull (s : ByteArray) (r : Bool) : Prop := PureN Pg [] 103 [.v (.string s)] (e103 r)
abbrev e104 (r : (ByteArray × ByteArray)) : AV := .tuple [.v (.string r.1), .v (.string r.2)]
def ref06_Split (full : ByteArray) (r : (ByteArray × ByteArray)) : Prop := PureN Pg [] 104 [.v (.string full)] (e104 r)
abbrev e105 (r : Bool) : AV := .v (.bool r)
def ref06_IsWord (s : ByteArray) (r : Bool) : Prop := PureN Pg [] 105 [.v (.string s)] (e105 r)
abbrev e106 (r : Int) : AV := .v (.int .i64 r)
def ref08_Kind (name : ByteArray) (r : Int) : Prop := PureN Pg [] 106 [.v (.string name)] (e106 r)
abbrev e107 (r : Bool) : AV := .v (.bool r)
def ref08_fits (name : ByteArray) (target : Int) (r : Bool) : Prop := PureN Pg [] 107 [.v (.string name), .v (.int .i64 target)] (e107 r)
abbrev e108 (r : Bool) : AV := .v (.bool r)
def ref08_Right (n : GNote) (r : Bool) : Prop := PureN Pg [] 108 [.agg (eGNote n)] (e108 r)
abbrev e109 (r : Bool) : AV := .v (.bool r)
def ref22_target (p : GPlan) (o_ : GOp) (r : Bool) : Prop := PureN Pg [] 109 [.agg (eGPlan p), .agg (eGOp o_)] (e109 r)
abbrev e129 (r : (Int × Int)) : AV := .tuple [.v (.int .u64 r.1), .v (.int .u64 r.2)]
def math_bits_Mul64 (x : Int) (y : Int) (r : (Int × Int)) : Prop := PureN Pg [] 129 [.v (.int .u64 x), .v (.int .u64 y)] (e129 r)
abbrev e130 (r : Bool) : AV := .v (.bool r)
def internal_stringslite_HasPrefix (s : ByteArray) (prefix_ : ByteArray) (r : Bool) : Prop := PureN Pg [] 130 [.v (.string s), .v (.string prefix_)] (e130 r)
abbrev e139 (r : Int) : AV := .v (.int .i64 r)
def utf_Bad (s : ByteArray) (r : Int) : Prop := PureN Pg [] 139 [.v (.string s)] (e139 r)
abbrev e140 (r : ByteArray) : AV := .v (.string r)
def internal_strconv_FormatBool (b : Bool) (r : ByteArray) : Prop := PureN Pg [] 140 [.v (.bool b)] (e140 r)
abbrev e142 (r : Int) : AV := .v (.int .i64 r)
def scalar_Class (bits : Int) (r : Int) : Prop := PureN Pg [] 142 [.v (.int .u64 bits)] (e142 r)
abbrev e143 (r : ByteArray) : AV := .v (.string r)
def utf_form (s : ByteArray) (at_ : Int) (c : Int) (r : ByteArray) : Prop := PureN Pg [] 143 [.v (.string s), .v (.int .i64 at_), .v (.int .i32 c)] (e143 r)
abbrev e145 (r : (Int × GAny)) : AV := .tuple [.v (.int .u64 r.1), eAny r.2]
def strconv_ParseUint (mg : Int) (x0 : ByteArray) (x1 : Int) (x2 : Int) (r : (Int × GAny)) : Prop := PureN Pg (GLm mg) 145 [.v (.string x0), .v (.int .i64 x1), .v (.int .i64 x2)] (e145 r)
abbrev e146 (r : ByteArray) : AV := .v (.string r)
def strings_TrimPrefix (s : ByteArray) (prefix_ : ByteArray) (r : ByteArray) : Prop := PureN Pg [] 146 [.v (.string s), .v (.string prefix_)] (e146 r)
abbrev e147 (r : (ByteArray × Bool)) : AV := .tuple [.v (.string r.1), .v (.bool r.2)]
def scalar_quoted (s : ByteArray) (r : (ByteArray × Bool)) : Prop := PureN Pg [] 147 [.v (.string s)] (e147 r)
abbrev e148 (r : (ByteArray × Int)) : AV := .tuple [.v (.string r.1), .v (.int .i64 r.2)]
def utf_Unhex (s : ByteArray) (r : (ByteArray × Int)) : Prop := PureN Pg [] 148 [.v (.string s)] (e148 r)
abbrev e149 (r : Bool) : AV := .v (.bool r)
def scalar_decimal (s : ByteArray) (r : Bool) : Prop := PureN Pg [] 149 [.v (.string s)] (e149 r)
abbrev e150 (r : (Int × GAny)) : AV := .tuple [.v (.int .i64 r.1), eAny r.2]
def strconv_ParseInt (mg : Int) (x0 : ByteArray) (x1 : Int) (x2 : Int) (r : (Int × GAny)) : Prop := PureN Pg (GLm mg) 150 [.v (.string x0), .v (.int .i64 x1), .v (.int .i64 x2)] (e150 r)
abbrev e151 (r : Int) : AV := .v (.int .i64 r)
def slices_IndexFunc_LItem_Item (s : (List GItem)) (f : GFn) (r : Int) : Prop := PureN Pg [] 151 [.sl (List.map eGItem s) .no, .clo (.func f.fn) f.fi f.cap] (e151 r)
abbrev e152 (r : (ByteArray × Int)) : AV := .tuple [.v (.string r.1), .v (.int .i64 r.2)]
def ref03_Unhex (s : ByteArray) (r : (ByteArray × Int)) : Prop := PureN Pg [] 152 [.v (.string s)] (e152 r)
abbrev e153 (r : (ByteArray × Int × Int)) : AV := .tuple [.v (.string r.1), .v (.int .i64 r.2.1), .v (.int .i64 r.2.2)]
def ref03_Unquote (s : ByteArray) (r : (ByteArray × Int × Int)) : Prop := PureN Pg [] 153 [.v (.string s)] (e153 r)
abbrev e154 (r : (Int × Bool × Int)) : AV := .tuple [.v (.int .u64 r.1), .v (.bool r.2.1), .v (.int .i64 r.2.2)]
def ref04_number (s : ByteArray) (r : (Int × Bool × Int)) : Prop := PureN Pg [] 154 [.v (.string s)] (e154 r)
abbrev e155 (r : Bool) : AV := .v (.bool r)
def ref04_signed (kind : Int) (r : Bool) : Prop := PureN Pg [] 155 [.v (.int .i64 kind)] (e155 r)
abbrev e156 (r : Int) : AV := .v (.int .i64 r)
def ref03_Bad (s : ByteArray) (r : Int) : Prop := PureN Pg [] 156 [.v (.string s)] (e156 r)
abbrev e157 (r : Int) : AV := .v (.int .i64 r)
def ref03_Size (s : ByteArray) (i : Int) (r : Int) : Prop := PureN Pg [] 157 [.v (.string s), .v (.int .i64 i)] (e157 r)
abbrev e158 (r : ByteArray) : AV := .v (.string r)
def ref03_pair (b : Int) (r : ByteArray) : Prop := PureN Pg [] 158 [.v (.int .u8 b)] (e158 r)
abbrev e190 (r : Bool) : AV := .v (.bool r)
def utf_wrong (s : ByteArray) (at_ : Int) (c : Int) (r : Bool) : Prop := PureN Pg [] 190 [.v (.string s), .v (.int .i64 at_), .v (.int .i32 c)] (e190 r)
abbrev e192 (r : ByteArray) : AV := .v (.string r)
def utf_escape (c : Int) (r : ByteArray) : Prop := PureN Pg [] 192 [.v (.int .u8 c)] (e192 r)
abbrev e197 (r : (Int × GAny)) : AV := .tuple [.v (.int .u64 r.1), eAny r.2]
def internal_strconv_ParseUint (s : ByteArray) (base : Int) (bitSize : Int) (r : (Int × GAny)) : Prop := PureN Pg [] 197 [.v (.string s), .v (.int .i64 base), .v (.int .i64 bitSize)] (e197 r)
abbrev e199 (r : ByteArray) : AV := .v (.string r)
def internal_stringslite_TrimPrefix (s : ByteArray) (prefix_ : ByteArray) (r : ByteArray) : Prop := PureN Pg [] 199 [.v (.string s), .v (.string prefix_)] (e199 r)
abbrev e200 (r : (ByteArray × Int × Int)) : AV := .tuple [.v (.string r.1), .v (.int .i64 r.2.1), .v (.int .i64 r.2.2)]
def utf_Unquote (s : ByteArray) (r : (ByteArray × Int × Int)) : Prop := PureN Pg [] 200 [.v (.string s)] (e200 r)
abbrev e201 (r : Int) : AV := .v (.int .i64 r)
def utf_value (c : Int) (r : Int) : Prop := PureN Pg [] 201 [.v (.int .u8 c)] (e201 r)
abbrev e203 (r : Int) : AV := .v (.int .i64 r)
def ref03_digit (b : Int) (r : Int) : Prop := PureN Pg [] 203 [.v (.int .u8 b)] (e203 r)
abbrev e204 (r : (Int × Int)) : AV := .tuple [.v (.int .u8 r.1), .v (.int .i64 r.2)]
def ref03_escape (s : ByteArray) (i : Int) (r : (Int × Int)) : Prop := PureN Pg [] 204 [.v (.string s), .v (.int .i64 i)] (e204 r)
abbrev e205 (r : Bool) : AV := .v (.bool r)
def ref03_tail (s : ByteArray) (i : Int) (n : Int) (r : Bool) : Prop := PureN Pg [] 205 [.v (.string s), .v (.int .i64 i), .v (.int .i64 n)] (e205 r)
abbrev e206 (r : Bool) : AV := .v (.bool r)
def ref03_between (s : ByteArray) (i : Int) (lo : Int) (hi : Int) (r : Bool) : Prop := PureN Pg [] 206 [.v (.string s), .v (.int .i64 i), .v (.int .u8 lo), .v (.int .u8 hi)] (e206 r)
abbrev e232 (r : Int) : AV := .v (.int .u8 r)
def internal_strconv_lower (c : Int) (r : Int) : Prop := PureN Pg [] 232 [.v (.int .u8 c)] (e232 r)
abbrev e233 (r : Bool) : AV := .v (.bool r)
def internal_strconv_underscoreOK (x0 : ByteArray) (r : Bool) : Prop := PureN Pg [] 233 [.v (.string x0)] (e233 r)
abbrev e238 (r : (Int × Int)) : AV := .tuple [.v (.int .u8 r.1), .v (.int .i64 r.2)]
def utf_unescape (s : ByteArray) (at_ : Int) (r : (Int × Int)) : Prop := PureN Pg [] 238 [.v (.string s), .v (.int .i64 at_)] (e238 r)
abbrev e239 (r : Int) : AV := .v (.int .i64 r)
def strings_IndexByte (s : ByteArray) (c : Int) (r : Int) : Prop := PureN Pg [] 239 [.v (.string s), .v (.int .u8 c)] (e239 r)
abbrev e240 (r : Int) : AV := .v (.int .i64 r)
def internal_stringslite_IndexByte (s : ByteArray) (c : Int) (r : Int) : Prop := PureN Pg [] 240 [.v (.string s), .v (.int .u8 c)] (e240 r)
abbrev e275 (r : (Int × Bool)) : AV := .tuple [.v (.int .u8 r.1), .v (.bool r.2)]
def utf_plain (c : Int) (r : (Int × Bool)) : Prop := PureN Pg [] 275 [.v (.int .u8 c)] (e275 r)
set_option maxHeartbeats 1000000 in
set_option maxRecDepth 100000 in
theorem cc_used (b : Nat) (w : World) (h0 : w.cell? ⟨b, 0, none⟩ = some (.pointer (some ⟨b, 0, none⟩))) :
  Calls Tryz.prog 62 #[.pointer (some ⟨b, 0, none⟩)] w fun e w' => e = .returned (.tuple #[]) /\ w' = w := by
 obtain ⟨j, hj, _⟩ := Option.map_eq_some_iff.1 (show ((Tryz.prog).info? 68).map (·.size) = some 2 by kernel_rfl)
 go_enter Tryz.func62, Tryz.ntmps62
 go_wp2
 rw [Lib.run_neq_ptr_same w _ Tryz.underlying65 hj]
 go_wp2
 go_end0
 exact ⟨rfl, rfl⟩
set_option maxHeartbeats 1000000 in
set_option maxRecDepth 100000 in
theorem cc_fresh (b : Nat) (w : World) (h0 : w.cell? ⟨b, 0, none⟩ = some (.pointer none)) (hsh : w.shape? b = some (68, 2)) (hfz : w.frozen? ⟨b, 0, none⟩ = false) :
  Calls Tryz.prog 62 #[.pointer (some ⟨b, 0, none⟩)] w fun e w' => e = .returned (.tuple #[]) /\ w' = w.setCell ⟨b, 0, none⟩ (.pointer (some ⟨b, 0, none⟩)) := by
 obtain ⟨j, hj, hjs⟩ := Option.map_eq_some_iff.1 (show ((Tryz.prog).info? 68).map (·.size) = some 2 by kernel_rfl)
 have hlies : liesAt Tryz.prog (Tryz.prog).depth 68 (2 / (Tryz.prog).cellsOf 68) 0 68 1 = true := by kernel_rfl
 go_enter Tryz.func62, Tryz.ntmps62
 go_wp2
 rw [Lib.run_to_unsafe w ⟨b, 0, none⟩ Tryz.underlying65 Tryz.underlying180 hj (by rw [hjs]; decide) hsh (Nat.zero_lt_succ 1)]
 simp only [Result.andThen]
 rw [Oper.upon_value]
 go_wp2
 rw [run_callFunc_extern Tryz.func127 (by kernel_rfl) (by kernel_rfl) (by kernel_rfl) (e := Extern.AbiNoEscape.same) (by kernel_rfl)]
 rw [Lib.run_noEscape]
 simp only [Result.andThen]
 rw [Oper.upon_value]
 go_wp2
 rw [Lib.run_from_unsafe w ⟨b, 0, none⟩ Tryz.underlying180 Tryz.underlying65 hj hsh hlies]
 simp only [Result.andThen]
 rw [Oper.upon_value]
 go_wp2
 go_end0
 exact ⟨rfl, rfl⟩
theorem cc_ok : CCOK Tryz.prog 62 68 := by
 intro h n r hb K hk
 refine ⟨⟨_, Tryz.func62, by kernel_rfl, by kernel_rfl⟩, fun σ cargs hi hr => ?_⟩
 obtain ⟨hl, hx⟩ := hr
 obtain ⟨x0, h0, r0⟩ := hx 0 _ rfl
 obtain ⟨b, k1, k2⟩ := hi.blk n _ hb
 cases r0 with
 | ptr _ _ b' hb' =>
 rw [k1] at hb'; cases hb'
 obtain rfl : cargs = #[.pointer (some ⟨b, 0, none⟩)] := by
  apply Array.ext'
  match hc : cargs.toList, hl, h0 with
  | [a], _, h0 => simp at h0; simp [h0]
 obtain ⟨cs, rest, elem, hh, hc⟩ := k2.plain rfl
 obtain ⟨_, x, hx0, hrx⟩ := hc.2 0 _ rfl
 have hcell : σ.w.cell? ⟨b, 0, none⟩ = some x := by
  rw [blk_cell hh, ← Array.getElem?_toList, List.toList_toArray, List.getElem?_append_left (List.getElem?_eq_some_iff.1 hx0).1]
  exact hx0
 cases hrx with
 | ps _ _ b2 p hb2 hs hp =>
 rw [k1] at hb2; cases hb2
 rcases hp with rfl | rfl
 ·refine (cc_fresh b σ.w hcell hs (frozen_blk hh 0)).mono fun e w' ⟨he, hw⟩ => ?_
  subst he hw
  have hlt : b < σ.w.heap.size := heap_lt hh
  obtain ⟨q1, q2, q3, q4, q5⟩ := setCells_past b [.pointer (some ⟨b, 0, none⟩)] 0 σ.w
  have q6 := setCells_heap b elem (0, 0) [.pointer (some ⟨b, 0, none⟩)] 0 σ.w (cs ++ rest) hh (by have := (List.getElem?_eq_some_iff.1 hx0).1; simp; omega)
  have hw : σ.w.setCells b 0 [.pointer (some ⟨b, 0, none⟩)] = σ.w.setCell ⟨b, 0, none⟩ (.pointer (some ⟨b, 0, none⟩)) := rfl
  obtain ⟨c0, cs, rfl⟩ : ∃ c0 cs', cs = c0 :: cs' := by
   cases cs with
   | nil => simp at hx0
   | cons c0 cs' => exact ⟨c0, cs', rfl⟩
  obtain ⟨hle, hinv⟩ := put_ok (w' := σ.w.setCells b 0 [.pointer (some ⟨b, 0, none⟩)]) (cells' := .ps n 68 :: r) hi k1 hb (by simp) q1 q2 q3 q4 q5 (fun o ho => setCells_some b _ 0 σ.w _ ho) (fun hle => by
   refine .cells _ (.pointer (some ⟨b, 0, none⟩) :: cs) rest elem (by rw [q6]; simp) ⟨by simpa using hc.1, fun i av hi => ?_⟩
   cases i with
   | zero => simp at hi; subst hi; exact ⟨rfl, _, rfl, .ps _ _ b _ k1 (setCells_shape b _ 0 _ b hs) (.inr rfl)⟩
   | succ i =>
    obtain ⟨g1, y, g2, g3⟩ := hc.2 (i + 1) av (by simpa using hi)
    exact ⟨g1, y, by simpa using g2, g3.mono hle⟩) (fun _ => ⟨_, _, q6⟩) (by simp) (fun x hx => setCells_shape b _ 0 _ b hx)
  have e1 : h.blks.set n (some (.ps n 68 :: r)) = h.blks := by
   apply List.ext_getElem?
   intro i
   by_cases hni : n = i
   ·subst hni
    rw [List.getElem?_set_self (List.getElem?_eq_some_iff.1 hb).1, hb]
   ·rw [List.getElem?_set_ne hni]
  rw [e1] at hinv
  exact ⟨_, h, .tuple [], _, rfl, hw, hle, hinv, Rel.tuple_mk rfl fun i av hi => by simp at hi, hk⟩
 ·refine (cc_used b σ.w hcell).mono fun e w' ⟨he, hw⟩ => ?_
  subst he hw
  exact ⟨σ, h, .tuple [], _, rfl, rfl, Le.refl σ, hi, Rel.tuple_mk rfl fun i av hi => by simp at hi, hk⟩
section
attribute [local irreducible] Ok run put putH br jn pos dr0 So
attribute [-simp] List.map_take List.map_drop List.map_append List.map_set List.map_replicate List.map_cons List.map_map
attribute [local simp] plain plainL lowE lowB keepB low lowL lowLL plm_I_i8 plm_I_i16 plm_I_i32 plm_I_i64 plm_I_u8 plm_I_u16 plm_I_u32 plm_I_u64 plm_Bool plm_Str gfn_fi gfn_cap plm_Fn pl_GOp plm_GOp pl_GProg plm_GProg pl_GRaw plm_GRaw pl_GValue plm_GValue pl_GPair plm_GPair pl_GSlot plm_GSlot pl_GNote plm_GNote pl_GItem plm_GItem pl_GSpan plm_GSpan pl_GEnum plm_GEnum pl_GPlan plm_GPlan pl_Gleaf plm_Gleaf pl_Gopening plm_Gopening pl_Gclosing plm_Gclosing pl_Gparts plm_Gparts pl_Any eI_i8 eI_i16 eI_i32 eI_i64 eI_u8 eI_u16 eI_u32 eI_u64 eBool eStr eFn lwr_Bool lwm_I_u8 lwm_GItem lwc_GEnum lwc_GPlan
theorem law33_TextformScalars_step (mg : Int) (p : GPlan) (o_ : GOp) (v : GValue) (s : ByteArray) (r : Bool) (hw : ∃ y1, ref22_Check p y1 /\ (IF (y1 != 0) (∃ y2, law33_awake mg y2 /\ (r = y2)) (∃ y3, textform_Scalar mg p o_ v y3 /\ (∃ y4, textform_ParseScalar mg p o_ s y4 /\ (∃ y5, ref33_ParseScalar p o_ s y5 /\ (∃ y6, ref33_Scalar p o_ v y6 /\ (JN (fun bz1 : Bool=>IF (bz1 || (y4.2 != y5.2)) (r = false) (JN (fun bz2 : Bool=>IF bz2 (∃ y9, law33_awake mg y9 /\ (r = y9)) (∃ y10, textform_ParseScalar mg p o_ y3 y10 /\ (IF (y10.2 == 0) (∃ y11, ref17_Same y10.1 v y11 /\ (IF y11 (∃ y12, law33_awake mg y12 /\ (r = y12)) (r = false))) (r = false)))) fun R2=>IF ((decide (y3 = (⟨#[]⟩ : ByteArray))) || (o_.Kind == 6)) (R2 true) (JN (fun bz3 : Bool=>R2 bz3) fun R3=>IF (o_.Kind == 9) (∃ y8, ref22_Accepts p o_.Target v.Bits y8 /\ (R3 (!y8))) (R3 false)))) fun R1=>IF (!(decide (y3 = y6))) (R1 true) (∃ y7, ref17_Same y4.1 y5.1 y7 /\ (R1 (!y7)))))))))) : law33_TextformScalars mg p o_ v s r :=
 fP hw<|KC 12<|KW 3 (KCg 2<|KR 5)<|KCg 7<|KCg 8<|KC 13<|KC 15<|KQ 2 5 kB (KT 1 4<|KW 2 (KR 7)<|KT 8 4<|KQ 1 13 kB (KW 2 (KCg 2<|KR 5)<|KCg 7<|KW 13 (KC 2<|KW 2 (KCg 0<|KR 5)<|KR 6)<|KR 11) (fun key=>KE 13 key) fun key=>KQ 4 8 kB (KE 1 key) (fun key=>KC 5<|KE 2 key) fun key=>KE 8 key) (fun key=>KE 5 key) fun key=>KC 2<|KE 2 key
theorem ref22_Check_step (p : GPlan) (r : Int) (hw : ∃ y1, ref22_limits p y1 /\ (IF (!y1) (r = 3) (∃ y2, ref22_names p y2 /\ (IF (!y2) (r = 8) (∃ y3, ref22_ordered p y3 /\ (IF (!y3) (r = 11) (∃ y4, ref22_single p y4 /\ (IF (!y4) (r = 9) (∃ y5, ref22_ranges p y5 /\ (IF (!y5) (r = 6) (∃ y6, ref22_arguments p y6 /\ (IF (!y6) (r = 1) (∃ y7, ref22_finite p y7 /\ (IF (!y7) (r = 19) (r = 0))))))))))))))) : ref22_Check p r :=
 fP hw<|KC 11<|KW 4 (KR 8)<|KC 3<|KW 4 (KR 8)<|KC 3<|KW 4 (KR 8)<|KC 3<|KW 4 (KR 8)<|KC 3<|KW 4 (KR 8)<|KC 3<|KW 4 (KR 8)<|KC 3<|KW 4 (KR 8)<|KR 9
theorem textform_Scalar_step (mg : Int) (p : GPlan) (o_ : GOp) (v : GValue) (r : ByteArray) (hw : ∃ y1, scalar_Is o_.Kind y1 /\ (JN (fun bz1 : Bool=>IF bz1 (r = (⟨#[]⟩ : ByteArray)) (IF (o_.Kind != 9) (∃ y3, scalar_Text mg v y3 /\ (r = y3)) (∃ y4, textform_itemOf p o_.Target v.Bits y4 /\ (IF y4.2 (r = y4.1.Name) (∃ y5, scalar_Text mg v y5 /\ (CT (⟨#[35]⟩ : ByteArray) y5 (r = ((⟨#[35]⟩ : ByteArray) ++ y5)))))))) fun R1=>IF (!y1) (R1 true) (∃ y2, scalar_Fits o_.Kind v y2 /\ (R1 (!y2))))) : textform_Scalar mg p o_ v r :=
 fP hw<|KC 13<|KQ 2 6 kB (KW 2 (KR 7)<|KW 10 (KCg 3<|KR 5)<|KC 10<|KW 13 (KR 9)<|KCg 5<|KCat 0<|KR 4) (fun key=>KE 6 key) fun key=>KC 3<|KE 2 key
def textform_ParseScalar_j2 (ij1 : Int) (y8 : GEnum) (s : ByteArray) (mg : Int) (r : (GValue × Int)) : Prop := J Pg 12 (.ret (e12 r)) 25 [(89, aI ij1), (88, aI (y8.Items.length : Int)), (87, .sl (List.map eGItem y8.Items) .no), (6, .ptr 2 0), (2, aS s)] ⟨[none, none, some zV], [], GLm mg⟩
theorem textform_ParseScalar_j2_step (ij1 : Int) (y8 : GEnum) (s : ByteArray) (mg : Int) (r : (GValue × Int)) (hw : ID (ij1 < (y8.Items.length : Int)) (IX y8.Items ij1 fun y10=>ID (y10.Name = s) (r = ((⟨9, (wU y10.Num), ⟨#[]⟩, [], [], [], []⟩ : GValue), 0)) (textform_ParseScalar_j2 (wI (ij1 + 1)) y8 s mg r)) (r = ((⟨0, 0, ⟨#[]⟩, [], [], [], []⟩ : GValue), 16))) : textform_ParseScalar_j2 ij1 y8 s mg r :=
 fJ hw<|KW 7 (KI 6 nGItem<|KW 13 (KR 16)<|KJl 8 [])<|KR 13
theorem textform_ParseScalar_step (mg : Int) (p : GPlan) (o_ : GOp) (s : ByteArray) (r : (GValue × Int)) (hw : ∃ y1, scalar_Is o_.Kind y1 /\ (IF (!y1) (r = ((⟨0, 0, ⟨#[]⟩, [], [], [], []⟩ : GValue), 12)) (IF (o_.Kind != 9) (∃ y2, scalar_Parse mg o_.Kind s y2 /\ (r = (y2.1, y2.2))) (∃ y3, strings_CutPrefix s (⟨#[35]⟩ : ByteArray) y3 /\ (IF y3.2 (∃ y4, scalar_Parse mg 9 y3.1 y4 /\ (IF (y4.2 != 0) (r = ((⟨0, 0, ⟨#[]⟩, [], [], [], []⟩ : GValue), y4.2)) (∃ y5, textform_itemOf p o_.Target y4.1.Bits y5 /\ (JN (fun bz1 : Bool=>IF bz1 (r = ((⟨0, 0, ⟨#[]⟩, [], [], [], []⟩ : GValue), 16)) (r = (y4.1, 0))) fun R1=>IF y5.2 (R1 true) (∃ y6, plan_Accepts p o_.Target y4.1.Bits y6 /\ (R1 (!y6))))))) (∃ y7, ident_IsPart s y7 /\ (IF (!y7) (r = ((⟨0, 0, ⟨#[]⟩, [], [], [], []⟩ : GValue), 2)) (IF ((decide (0 <= o_.Target)) && (decide (o_.Target < (p.Enums.length : Int)))) (IX p.Enums o_.Target fun y8=>textform_ParseScalar_j2 0 y8 s mg r) (r = ((⟨0, 0, ⟨#[]⟩, [], [], [], []⟩ : GValue), 16)))))))))) : textform_ParseScalar mg p o_ s r :=
 fP hw<|KC 13<|KW 3 (KR 9)<|KW 10 (KCg 5<|KR 8)<|KC 6<|KW 12 (KCg 3<|KW 15 (KR 11)<|KC 10<|KQ 12 8 kB (KW 2 (KR 10)<|KR 11) (fun key=>KE 8 key) fun key=>KC 5<|KE 2 key)<|KC 6<|KW 3 (KR 9)<|KT2 9 7 (decide (0 <= o_.Target)) (fun z=>aB (z && (decide (o_.Target < (p.Enums.length : Int))))) (fun key=>KL 4 nGEnum p.Enums<|KE2 2 key) (fun key=>KE2 7 key)<|KW 2 (KI 6 nGEnum fun {y8}=>KL 2 nGItem y8.Items<|KJl 5 [])<|KR 10
def ref33_ParseScalar_j2 (ij1 : Int) (s : ByteArray) (y2 : (GEnum × Bool)) (r : (GValue × Int)) : Prop := J Pg 13 (.ret (e13 r)) 24 [(14, aI ij1), (8, .ptr 3 0), (6, .ptr 2 0), (2, aS s)] ⟨[none, none, some zV, some (eGEnum y2.1)], [], []⟩
theorem ref33_ParseScalar_j2_step (ij1 : Int) (s : ByteArray) (y2 : (GEnum × Bool)) (r : (GValue × Int)) (hw : ID (ij1 < (y2.1.Items.length : Int)) (IX y2.1.Items ij1 fun y9=>ID (y9.Name = s) (IX y2.1.Items ij1 fun y10=>r = ((⟨9, (wU y10.Num), ⟨#[]⟩, [], [], [], []⟩ : GValue), 0)) (ref33_ParseScalar_j2 (wI (ij1 + 1)) s y2 r)) (r = ((⟨0, 0, ⟨#[]⟩, [], [], [], []⟩ : GValue), 16))) : ref33_ParseScalar_j2 ij1 s y2 r :=
 fJ hw<|KL 7 nGItem y2.1.Items<|KW 3 (KI 9 nGItem<|KW 6 (KI 5 nGItem<|KR 14)<|KJ 9)<|KR 13
theorem ref33_ParseScalar_step (p : GPlan) (o_ : GOp) (s : ByteArray) (r : (GValue × Int)) (hw : IF ((decide (o_.Kind < 1)) || (decide (9 < o_.Kind))) (r = ((⟨0, 0, ⟨#[]⟩, [], [], [], []⟩ : GValue), 12)) (IF (o_.Kind != 9) (∃ y1, ref04_Parse o_.Kind s y1 /\ (r = (y1.1, y1.2))) (∃ y2, ref33_enum p o_ y2 /\ (JN (fun bz1 : Bool=>IF bz1 (SS s (1 : Int) (s.size : Int) (∃ y3, ref04_Parse 9 (s.extract (1 : Int).toNat (s.size : Int).toNat) y3 /\ (IF (y3.2 != 0) (r = ((⟨0, 0, ⟨#[]⟩, [], [], [], []⟩ : GValue), y3.2)) (∃ y4, ref33_item y2.1 y3.1.Bits y4 /\ (JN (fun bz2 : Bool=>IF bz2 (r = ((⟨0, 0, ⟨#[]⟩, [], [], [], []⟩ : GValue), 16)) (r = (y3.1, 0))) fun R2=>IF y4.2 (R2 true) (∃ y5, ref22_Accepts p o_.Target y3.1.Bits y5 /\ (R2 (!y5)))))))) (∃ y6, ref06_IsPart s y6 /\ (IF (!y6) (r = ((⟨0, 0, ⟨#[]⟩, [], [], [], []⟩ : GValue), 2)) (ref33_ParseScalar_j2 0 s y2 r)))) fun R1=>IF (!(decide (s = (⟨#[]⟩ : ByteArray)))) (SI s (0 : Int) (R1 ((byteAt s (0 : Int).toNat) == 35))) (R1 false))))) : ref33_ParseScalar p o_ s r :=
 fP hw<|KT 15 4<|KW 2 (KR 9)<|KW 10 (KC 5<|KR 8)<|KC 6<|KQ 14 4 kB (KW 2 (KSS 3<|KC 0<|KW 15 (KR 11)<|KC 7<|KQ 12 8 kB (KW 2 (KR 10)<|KR 11) (fun key=>KE 8 key) fun key=>KC 5<|KE 2 key)<|KC 6<|KW 3 (KR 9)<|KJl 10 []) (fun key=>KIS 1<|KE 2 key) fun key=>KE 4 key
theorem ref33_Scalar_step (p : GPlan) (o_ : GOp) (v : GValue) (r : ByteArray) (hw : JN (fun bz1 : Bool=>IF bz1 (r = (⟨#[]⟩ : ByteArray)) (IF (o_.Kind != 9) (∃ y2, ref04_Text v y2 /\ (r = y2)) (∃ y3, ref33_enum p o_ y3 /\ (∃ y4, ref33_item y3.1 v.Bits y4 /\ (IF y4.2 (r = y4.1) (∃ y5, ref04_Text v y5 /\ (CT (⟨#[35]⟩ : ByteArray) y5 (r = ((⟨#[35]⟩ : ByteArray) ++ y5))))))))) fun R1=>IF (v.Kind != o_.Kind) (R1 true) (∃ y1, ref04_Fits o_.Kind v y1 /\ (R1 (!y1)))) : ref33_Scalar p o_ v r :=
 fP hw<|KQ 17 6 kB (KW 2 (KR 7)<|KW 10 (KC 3<|KR 5)<|KC 6<|KC 13<|KW 13 (KR 8)<|KC 5<|KCat 0<|KR 4) (fun key=>KE 6 key) fun key=>KC 3<|KE 2 key
def ref17_Same_j30 (ij15 : Int) (a : GValue) (b : GValue) (r : Bool) : Prop := J Pg 15 (.ret (e15 r)) 30 [(8, aI ij15), (3, .ptr 1 0), (2, .ptr 0 0)] ⟨[some (eGValue a), some (eGValue b)], [], []⟩
def ref17_Same_j28 (ij14 : Int) (a : GValue) (b : GValue) (r : Bool) : Prop := J Pg 15 (.ret (e15 r)) 22 [(7, aI ij14), (3, .ptr 1 0), (2, .ptr 0 0)] ⟨[some (eGValue a), some (eGValue b)], [], []⟩
def ref17_Same_j24 (ij12 : Int) (a : GValue) (b : GValue) (r : Bool) : Prop := J Pg 15 (.ret (e15 r)) 14 [(6, aI ij12), (3, .ptr 1 0), (2, .ptr 0 0)] ⟨[some (eGValue a), some (eGValue b)], [], []⟩
def ref17_Same_j16 (ij8 : Int) (a : GValue) (b : GValue) (r : Bool) : Prop := J Pg 15 (.ret (e15 r)) 6 [(5, aI ij8), (3, .ptr 1 0), (2, .ptr 0 0)] ⟨[some (eGValue a), some (eGValue b)], [], []⟩
theorem ref17_Same_j30_step (ij15 : Int) (a : GValue) (b : GValue) (r : Bool) (hw : ID (ij15 < (a.Raws.length : Int)) (IX a.Raws ij15 fun y97=>IX b.Raws ij15 fun y98=>IF (!(y97.Num == y98.Num && (y97.Wire == y98.Wire && (y97.Bits == y98.Bits && (y97.Data == y98.Data && true))))) (r = false) (ref17_Same_j30 (wI (ij15 + 1)) a b r)) (r = true)) : ref17_Same_j30 ij15 a b r :=
 fJ hw<|KL 7 nGRaw a.Raws<|KW 3 (KD 5 [0, 1]<|KI 3 nGRaw<|KI 4 nGRaw<|KW 5 (KR 11)<|KJ 9)<|KR 11
theorem ref17_Same_j28_step (ij14 : Int) (a : GValue) (b : GValue) (r : Bool) (hw : ID (ij14 < (a.Slots.length : Int)) (IX a.Slots ij14 fun y99=>IX b.Slots ij14 fun y100=>IF (y99.1 != y100.1) (r = false) (IX a.Slots ij14 fun y102=>IX b.Slots ij14 fun y103=>∃ y104, ref17_Same y102.2 y103.2 y104 /\ (IF (!y104) (r = false) (ref17_Same_j28 (wI (ij14 + 1)) a b r)))) (ref17_Same_j30 0 a b r)) : ref17_Same_j28 ij14 a b r :=
 fJ hw<|KL 7 nGSlot a.Slots<|KW 3 (KD 5 [0, 1]<|KI 3 nGSlot<|KI 5 nGSlot<|KW 4 (KR 30)<|KI 3 nGSlot<|KI 5 nGSlot<|KC 3<|KW 4 (KR 11)<|KJ 9)<|KJ 13
theorem ref17_Same_j24_step (ij12 : Int) (a : GValue) (b : GValue) (r : Bool) (hw : ID (ij12 < (a.Pairs.length : Int)) (IX a.Pairs ij12 fun y105=>IX b.Pairs ij12 fun y106=>∃ y107, ref17_Same y105.1 y106.1 y107 /\ (IF (!y107) (r = false) (IX a.Pairs ij12 fun y109=>IX b.Pairs ij12 fun y110=>∃ y111, ref17_Same y109.2 y110.2 y111 /\ (IF (!y111) (r = false) (ref17_Same_j24 (wI (ij12 + 1)) a b r))))) (ref17_Same_j28 0 a b r)) : ref17_Same_j24 ij12 a b r :=
 fJ hw<|KL 7 nGPair a.Pairs<|KW 3 (KD 5 [0, 1]<|KI 3 nGPair<|KI 5 nGPair<|KC 2<|KW 2 (KR 30)<|KI 3 nGPair<|KI 5 nGPair<|KC 3<|KW 4 (KR 11)<|KJ 9)<|KJ 13
theorem ref17_Same_j16_step (ij8 : Int) (a : GValue) (b : GValue) (r : Bool) (hw : ID (ij8 < (a.List_.length : Int)) (IX a.List_ ij8 fun y112=>IX b.List_ ij8 fun y113=>∃ y114, ref17_Same y112 y113 y114 /\ (IF (!y114) (r = false) (ref17_Same_j16 (wI (ij8 + 1)) a b r))) (ref17_Same_j24 0 a b r)) : ref17_Same_j16 ij8 a b r :=
 fJ hw<|KL 7 nGValue a.List_<|KW 3 (KD 5 [0, 1]<|KI 3 nGValue<|KI 4 nGValue<|KC 2<|KW 3 (KR 11)<|KJ 9)<|KJ 13
theorem ref17_Same_step (a : GValue) (b : GValue) (r : Bool) (hw : IF (((((((a.Kind != b.Kind) || (a.Bits != b.Bits)) || (!(decide (a.Text = b.Text)))) || ((a.List_.length : Int) != (b.List_.length : Int))) || ((a.Pairs.length : Int) != (b.Pairs.length : Int))) || ((a.Slots.length : Int) != (b.Slots.length : Int))) || ((a.Raws.length : Int) != (b.Raws.length : Int))) (r = false) (ref17_Same_j16 0 a b r)) : ref17_Same a b r :=
 fP hw<|KT 16 6<|KT 1 6<|KT2 1 8 (((a.Kind != b.Kind) || (a.Bits != b.Bits)) || (!(decide (a.Text = b.Text)))) (fun z=>aB (z || ((a.List_.length : Int) != (b.List_.length : Int)))) (fun key=>KE2 8 key) (fun key=>KL 2 nGValue a.List_<|KL 2 nGValue b.List_<|KE2 2 key)<|KT2 1 8 ((((a.Kind != b.Kind) || (a.Bits != b.Bits)) || (!(decide (a.Text = b.Text)))) || ((a.List_.length : Int) != (b.List_.length : Int))) (fun z=>aB (z || ((a.Pairs.length : Int) != (b.Pairs.length : Int)))) (fun key=>KE2 8 key) (fun key=>KL 2 nGPair a.Pairs<|KL 2 nGPair b.Pairs<|KE2 2 key)<|KT2 1 8 (((((a.Kind != b.Kind) || (a.Bits != b.Bits)) || (!(decide (a.Text = b.Text)))) || ((a.List_.length : Int) != (b.List_.length : Int))) || ((a.Pairs.length : Int) != (b.Pairs.length : Int))) (fun z=>aB (z || ((a.Slots.length : Int) != (b.Slots.length : Int)))) (fun key=>KE2 8 key) (fun key=>KL 2 nGSlot a.Slots<|KL 2 nGSlot b.Slots<|KE2 2 key)<|KT2 1 8 ((((((a.Kind != b.Kind) || (a.Bits != b.Bits)) || (!(decide (a.Text = b.Text)))) || ((a.List_.length : Int) != (b.List_.length : Int))) || ((a.Pairs.length : Int) != (b.Pairs.length : Int))) || ((a.Slots.length : Int) != (b.Slots.length : Int))) (fun z=>aB (z || ((a.Raws.length : Int) != (b.Raws.length : Int)))) (fun key=>KE2 8 key) (fun key=>KL 2 nGRaw a.Raws<|KL 2 nGRaw b.Raws<|KE2 2 key)<|KW 2 (KR 7)<|KJ 10
def ref22_Accepts_j2 (ij1 : Int) (bj2 : Bool) (enum : Int) (num : Int) (p : GPlan) (r : Bool) : Prop := J Pg 16 (.ret (e16 r)) 7 [(8, aI ij1), (7, aB bj2), (3, .ptr 0 0), (1, aI enum), (2, aU num)] ⟨[some (eGPlan p)], [], []⟩
theorem ref22_Accepts_j2_step (ij1 : Int) (bj2 : Bool) (enum : Int) (num : Int) (p : GPlan) (r : Bool) (hw : IX p.Enums enum fun y6=>ID (ij1 < (y6.Items.length : Int)) (IF bj2 (ref22_Accepts_j2 (wI (ij1 + 1)) true enum num p r) (IX p.Enums enum fun y8=>IX y8.Items ij1 fun y9=>ref22_Accepts_j2 (wI (ij1 + 1)) (y9.Num == (wI num)) enum num p r)) (r = bj2)) : ref22_Accepts_j2 ij1 bj2 enum num p r :=
 fJ hw<|KI 8 nGEnum fun {y6}=>KL 2 nGItem y6.Items<|KW 3 (KW 7 (KJ 24)<|KI 3 nGEnum<|KI 3 nGItem<|KJ 16)<|KR 12
theorem ref22_Accepts_step (p : GPlan) (enum : Int) (num : Int) (r : Bool) (hw : IF (((decide (enum < 0)) || (decide ((p.Enums.length : Int) <= enum))) || (decide (2147483647 < num))) (r = false) (IX p.Enums enum fun y1=>ref22_Accepts_j2 0 y1.Open enum num p r)) : ref22_Accepts p enum num r :=
 fP hw<|KT2 12 6 (decide (enum < 0)) (fun z=>aB (z || (decide ((p.Enums.length : Int) <= enum)))) (fun key=>KE2 6 key) (fun key=>KL 3 nGEnum p.Enums<|KE2 2 key)<|KT 1 3<|KW 2 (KR 7)<|KI 7 nGEnum<|KJ 13
def ref22_limits_j6 (ij5 : Int) (bj6 : Bool) (p : GPlan) (r : Bool) : Prop := J Pg 17 (.ret (e17 r)) 10 [(5, aI ij5), (3, aB bj6), (1, .ptr 0 0)] ⟨[some (eGPlan p)], [], []⟩
def ref22_limits_j4 (ij3 : Int) (bj4 : Bool) (p : GPlan) (r : Bool) : Prop := J Pg 17 (.ret (e17 r)) 4 [(4, aI ij3), (3, aB bj4), (1, .ptr 0 0)] ⟨[some (eGPlan p)], [], []⟩
theorem ref22_limits_j6_step (ij5 : Int) (bj6 : Bool) (p : GPlan) (r : Bool) (hw : ID (ij5 < (p.Enums.length : Int)) (IX p.Enums ij5 fun y12=>IF ((bj6 && (decide (1 <= (y12.Items.length : Int)))) && (decide ((y12.Items.length : Int) <= 64))) (IX p.Enums ij5 fun y14=>ref22_limits_j6 (wI (ij5 + 1)) (decide ((y14.Reserved.length : Int) <= 16)) p r) (ref22_limits_j6 (wI (ij5 + 1)) false p r)) (r = bj6)) : ref22_limits_j6 ij5 bj6 p r :=
 fJ hw<|KL 7 nGEnum p.Enums<|KW 3 (KI 9 nGEnum fun {y12}=>KL 2 nGItem y12.Items<|KT 6 3<|KT 1 3<|KW 1 (KI 3 nGEnum fun {y14}=>KL 2 nGSpan y14.Reserved<|KJ 12)<|KJ 19)<|KR 12
theorem ref22_limits_j4_step (ij3 : Int) (bj4 : Bool) (p : GPlan) (r : Bool) (hw : ID (ij3 < (p.Progs.length : Int)) (IF bj4 (IX p.Progs ij3 fun y16=>ref22_limits_j4 (wI (ij3 + 1)) (decide ((y16.Ops.length : Int) <= 64)) p r) (ref22_limits_j4 (wI (ij3 + 1)) false p r)) (ref22_limits_j6 0 bj4 p r)) : ref22_limits_j4 ij3 bj4 p r :=
 fJ hw<|KL 7 nGProg p.Progs<|KW 3 (KW 7 (KI 3 nGProg fun {y16}=>KL 2 nGOp y16.Ops<|KJ 12)<|KJ 19)<|KJ 13
theorem ref22_limits_step (p : GPlan) (r : Bool) (hw : ref22_limits_j4 0 ((decide ((p.Progs.length : Int) <= 64)) && (decide ((p.Enums.length : Int) <= 64))) p r) : ref22_limits p r :=
 fP hw<|KL 10 nGProg p.Progs<|KT2 2 5 (decide ((p.Progs.length : Int) <= 64)) (fun z=>aB (z && (decide ((p.Enums.length : Int) <= 64)))) (fun key=>KL 2 nGEnum p.Enums<|KE2 2 key) (fun key=>KE2 5 key)<|KJ 11
def ref22_names_j16 (ij15 : Int) (bj16 : Bool) (ij13 : Int) (p : GPlan) (r : Bool) : Prop := J Pg 18 (.ret (e18 r)) 22 [(7, aI ij15), (3, aB bj16), (6, aI ij13), (1, .ptr 0 0)] ⟨[some (eGPlan p)], [], []⟩
def ref22_names_j14 (ij13 : Int) (bj14 : Bool) (p : GPlan) (r : Bool) : Prop := J Pg 18 (.ret (e18 r)) 16 [(6, aI ij13), (3, aB bj14), (1, .ptr 0 0)] ⟨[some (eGPlan p)], [], []⟩
def ref22_names_j18 (ij17 : Int) (bj18 : Bool) (ij9 : Int) (p : GPlan) (r : Bool) : Prop := J Pg 18 (.ret (e18 r)) 10 [(5, aI ij17), (3, aB bj18), (4, aI ij9), (1, .ptr 0 0)] ⟨[some (eGPlan p)], [], []⟩
def ref22_names_j10 (ij9 : Int) (bj10 : Bool) (p : GPlan) (r : Bool) : Prop := J Pg 18 (.ret (e18 r)) 4 [(4, aI ij9), (3, aB bj10), (1, .ptr 0 0)] ⟨[some (eGPlan p)], [], []⟩
theorem ref22_names_j16_step (ij15 : Int) (bj16 : Bool) (ij13 : Int) (p : GPlan) (r : Bool) (hw : IX p.Enums ij13 fun y59=>ID (ij15 < (y59.Items.length : Int)) (IF bj16 (IX p.Enums ij13 fun y61=>IX y61.Items ij15 fun y62=>∃ y63, ref22_simple y62.Name y63 /\ (ref22_names_j16 (wI (ij15 + 1)) y63 ij13 p r)) (ref22_names_j16 (wI (ij15 + 1)) false ij13 p r)) (ref22_names_j14 (wI (ij13 + 1)) bj16 p r)) : ref22_names_j16 ij15 bj16 ij13 p r :=
 fJ hw<|KI 8 nGEnum fun {y59}=>KL 2 nGItem y59.Items<|KW 3 (KW 7 (KI 3 nGEnum<|KI 3 nGItem<|KC 2<|KJ 11)<|KJ 22)<|KJ 12
theorem ref22_names_j14_step (ij13 : Int) (bj14 : Bool) (p : GPlan) (r : Bool) (hw : ID (ij13 < (p.Enums.length : Int)) (JN (fun bz3 : Bool=>ref22_names_j16 0 bz3 ij13 p r) fun R3=>IF bj14 (IX p.Enums ij13 fun y52=>∃ y53, ref22_defined y52.Name y53 /\ (R3 y53)) (R3 false)) (r = bj14)) : ref22_names_j14 ij13 bj14 p r :=
 fJ hw<|KL 7 nGEnum p.Enums<|KW 3 (KQ 8 8 kB (KJ 10) (fun key=>KI 3 nGEnum<|KC 2<|KE 1 key) fun key=>KE 8 key)<|KR 12
theorem ref22_names_j18_step (ij17 : Int) (bj18 : Bool) (ij9 : Int) (p : GPlan) (r : Bool) (hw : IX p.Progs ij9 fun y72=>ID (ij17 < (y72.Ops.length : Int)) (IF bj18 (IX p.Progs ij9 fun y74=>IX y74.Ops ij17 fun y75=>∃ y76, ref22_simple y75.Name y76 /\ (ref22_names_j18 (wI (ij17 + 1)) y76 ij9 p r)) (ref22_names_j18 (wI (ij17 + 1)) false ij9 p r)) (ref22_names_j10 (wI (ij9 + 1)) bj18 p r)) : ref22_names_j18 ij17 bj18 ij9 p r :=
 fJ hw<|KI 8 nGProg fun {y72}=>KL 2 nGOp y72.Ops<|KW 3 (KW 7 (KI 3 nGProg<|KI 3 nGOp<|KC 2<|KJ 11)<|KJ 22)<|KJ 12
theorem ref22_names_j10_step (ij9 : Int) (bj10 : Bool) (p : GPlan) (r : Bool) (hw : ID (ij9 < (p.Progs.length : Int)) (JN (fun bz4 : Bool=>ref22_names_j18 0 bz4 ij9 p r) fun R4=>IF bj10 (IX p.Progs ij9 fun y65=>∃ y66, ref22_defined y65.Name y66 /\ (R4 y66)) (R4 false)) (ref22_names_j14 0 bj10 p r)) : ref22_names_j10 ij9 bj10 p r :=
 fJ hw<|KL 7 nGProg p.Progs<|KW 3 (KQ 8 8 kB (KJ 10) (fun key=>KI 3 nGProg<|KC 2<|KE 1 key) fun key=>KE 8 key)<|KJ 13
theorem ref22_names_step (p : GPlan) (r : Bool) (hw : ref22_names_j10 0 true p r) : ref22_names p r :=
 fP hw<|KJ 19
def ref22_ordered_j16 (ij15 : Int) (bj16 : Bool) (ij13 : Int) (p : GPlan) (r : Bool) : Prop := J Pg 19 (.ret (e19 r)) 22 [(7, aI ij15), (3, aB bj16), (6, aI ij13), (1, .ptr 0 0)] ⟨[some (eGPlan p)], [], []⟩
def ref22_ordered_j14 (ij13 : Int) (bj14 : Bool) (p : GPlan) (r : Bool) : Prop := J Pg 19 (.ret (e19 r)) 16 [(6, aI ij13), (3, aB bj14), (1, .ptr 0 0)] ⟨[some (eGPlan p)], [], []⟩
def ref22_ordered_j18 (ij17 : Int) (bj18 : Bool) (ij9 : Int) (p : GPlan) (r : Bool) : Prop := J Pg 19 (.ret (e19 r)) 10 [(5, aI ij17), (3, aB bj18), (4, aI ij9), (1, .ptr 0 0)] ⟨[some (eGPlan p)], [], []⟩
def ref22_ordered_j10 (ij9 : Int) (bj10 : Bool) (p : GPlan) (r : Bool) : Prop := J Pg 19 (.ret (e19 r)) 4 [(4, aI ij9), (3, aB bj10), (1, .ptr 0 0)] ⟨[some (eGPlan p)], [], []⟩
theorem ref22_ordered_j16_step (ij15 : Int) (bj16 : Bool) (ij13 : Int) (p : GPlan) (r : Bool) (hw : IX p.Enums ij13 fun y61=>ID (ij15 < (y61.Items.length : Int)) (IF bj16 (IX p.Enums ij13 fun y63=>IX y63.Items (wI (ij15 - 1)) fun y64=>IX p.Enums ij13 fun y65=>IX y65.Items ij15 fun y66=>ref22_ordered_j16 (wI (ij15 + 1)) (decide (y64.Num < y66.Num)) ij13 p r) (ref22_ordered_j16 (wI (ij15 + 1)) false ij13 p r)) (ref22_ordered_j14 (wI (ij13 + 1)) bj16 p r)) : ref22_ordered_j16 ij15 bj16 ij13 p r :=
 fJ hw<|KI 8 nGEnum fun {y61}=>KL 2 nGItem y61.Items<|KW 3 (KD 4 [0]<|KW 2 (KI 3 nGEnum<|KI 4 nGItem<|KI 5 nGEnum<|KI 3 nGItem<|KJ 15)<|KJ 34)<|KJ 12
theorem ref22_ordered_j14_step (ij13 : Int) (bj14 : Bool) (p : GPlan) (r : Bool) (hw : ID (ij13 < (p.Enums.length : Int)) (JN (fun bz3 : Bool=>ref22_ordered_j16 1 bz3 ij13 p r) fun R3=>IF bj14 (JN (fun bz4 : Bool=>R3 bz4) fun R4=>IF (ij13 == 0) (R4 true) (IX p.Enums (wI (ij13 - 1)) fun y53=>IX p.Enums ij13 fun y54=>R4 (Op.bytesLess y53.Name.toList y54.Name.toList))) (R3 false)) (r = bj14)) : ref22_ordered_j14 ij13 bj14 p r :=
 fJ hw<|KL 7 nGEnum p.Enums<|KW 3 (KD 5 [0]<|KQ 2 20 kB (KJ 10) (fun key=>KQ 3 16 kB (KE 1 key) (fun key=>KE 16 key) fun key=>KI 4 nGEnum<|KI 5 nGEnum<|KE 5 key) fun key=>KE 20 key)<|KR 12
theorem ref22_ordered_j18_step (ij17 : Int) (bj18 : Bool) (ij9 : Int) (p : GPlan) (r : Bool) (hw : IX p.Progs ij9 fun y77=>ID (ij17 < (y77.Ops.length : Int)) (IF bj18 (IX p.Progs ij9 fun y79=>IX y79.Ops (wI (ij17 - 1)) fun y80=>IX p.Progs ij9 fun y81=>IX y81.Ops ij17 fun y82=>ref22_ordered_j18 (wI (ij17 + 1)) (decide (y80.Num < y82.Num)) ij9 p r) (ref22_ordered_j18 (wI (ij17 + 1)) false ij9 p r)) (ref22_ordered_j10 (wI (ij9 + 1)) bj18 p r)) : ref22_ordered_j18 ij17 bj18 ij9 p r :=
 fJ hw<|KI 8 nGProg fun {y77}=>KL 2 nGOp y77.Ops<|KW 3 (KD 4 [0]<|KW 2 (KI 3 nGProg<|KI 4 nGOp<|KI 5 nGProg<|KI 3 nGOp<|KJ 15)<|KJ 34)<|KJ 12
theorem ref22_ordered_j10_step (ij9 : Int) (bj10 : Bool) (p : GPlan) (r : Bool) (hw : ID (ij9 < (p.Progs.length : Int)) (JN (fun bz5 : Bool=>ref22_ordered_j18 1 bz5 ij9 p r) fun R5=>IF bj10 (JN (fun bz6 : Bool=>R5 bz6) fun R6=>IF (ij9 == 0) (R6 true) (IX p.Progs (wI (ij9 - 1)) fun y69=>IX p.Progs ij9 fun y70=>R6 (Op.bytesLess y69.Name.toList y70.Name.toList))) (R5 false)) (ref22_ordered_j14 0 bj10 p r)) : ref22_ordered_j10 ij9 bj10 p r :=
 fJ hw<|KL 7 nGProg p.Progs<|KW 3 (KD 5 [0]<|KQ 2 20 kB (KJ 10) (fun key=>KQ 3 16 kB (KE 1 key) (fun key=>KE 16 key) fun key=>KI 4 nGProg<|KI 5 nGProg<|KE 5 key) fun key=>KE 20 key)<|KJ 13
theorem ref22_ordered_step (p : GPlan) (r : Bool) (hw : ref22_ordered_j10 0 true p r) : ref22_ordered p r :=
 fP hw<|KJ 19
def ref22_single_j56 (ij49 : Int) (ij47 : Int) (y69 : GEnum) (ij42 : Int) (bj50 : Bool) (p : GPlan) (r : Bool) : Prop := J Pg 20 (.ret (e20 r)) 38 [(12, aI ij49), (11, aI ij47), (10, .sl (List.map eGItem y69.Items) .no), (9, aI ij42), (3, aB bj50), (1, .ptr 0 0)] ⟨[some (eGPlan p)], [], []⟩
def ref22_single_j54 (ij47 : Int) (y69 : GEnum) (ij42 : Int) (bj48 : Bool) (p : GPlan) (r : Bool) : Prop := J Pg 20 (.ret (e20 r)) 33 [(11, aI ij47), (10, .sl (List.map eGItem y69.Items) .no), (9, aI ij42), (3, aB bj48), (1, .ptr 0 0)] ⟨[some (eGPlan p)], [], []⟩
def ref22_single_j48 (ij42 : Int) (bj43 : Bool) (p : GPlan) (r : Bool) : Prop := J Pg 20 (.ret (e20 r)) 27 [(9, aI ij42), (3, aB bj43), (1, .ptr 0 0)] ⟨[some (eGPlan p)], [], []⟩
def ref22_single_j74 (ij65 : Int) (ij63 : Int) (y98 : GProg) (ij33 : Int) (bj66 : Bool) (p : GPlan) (r : Bool) : Prop := J Pg 20 (.ret (e20 r)) 21 [(8, aI ij65), (7, aI ij63), (6, .sl (List.map eGOp y98.Ops) .no), (4, aI ij33), (3, aB bj66), (1, .ptr 0 0)] ⟨[some (eGPlan p)], [], []⟩
def ref22_single_j72 (ij63 : Int) (y98 : GProg) (ij33 : Int) (bj64 : Bool) (p : GPlan) (r : Bool) : Prop := J Pg 20 (.ret (e20 r)) 16 [(7, aI ij63), (6, .sl (List.map eGOp y98.Ops) .no), (4, aI ij33), (3, aB bj64), (1, .ptr 0 0)] ⟨[some (eGPlan p)], [], []⟩
def ref22_single_j66 (ij58 : Int) (ij33 : Int) (bj59 : Bool) (p : GPlan) (r : Bool) : Prop := J Pg 20 (.ret (e20 r)) 10 [(5, aI ij58), (4, aI ij33), (3, aB bj59), (1, .ptr 0 0)] ⟨[some (eGPlan p)], [], []⟩
def ref22_single_j38 (ij33 : Int) (bj34 : Bool) (p : GPlan) (r : Bool) : Prop := J Pg 20 (.ret (e20 r)) 4 [(4, aI ij33), (3, aB bj34), (1, .ptr 0 0)] ⟨[some (eGPlan p)], [], []⟩
theorem ref22_single_j56_step (ij49 : Int) (ij47 : Int) (y69 : GEnum) (ij42 : Int) (bj50 : Bool) (p : GPlan) (r : Bool) (hw : ID (ij49 < ij47) (IF bj50 (IX y69.Items ij49 fun y80=>IX y69.Items ij47 fun y81=>ref22_single_j56 (wI (ij49 + 1)) ij47 y69 ij42 (!(decide (y80.Name = y81.Name))) p r) (ref22_single_j56 (wI (ij49 + 1)) ij47 y69 ij42 false p r)) (ref22_single_j54 (wI (ij47 + 1)) y69 ij42 bj50 p r)) : ref22_single_j56 ij49 ij47 y69 ij42 bj50 p r :=
 fJ hw<|KW 9 (KD 4 []<|KW 2 (KI 2 nGItem<|KI 4 nGItem<|KJ 15)<|KJ 23)<|KJ 12
theorem ref22_single_j54_step (ij47 : Int) (y69 : GEnum) (ij42 : Int) (bj48 : Bool) (p : GPlan) (r : Bool) (hw : ID (ij47 < (y69.Items.length : Int)) (ref22_single_j56 0 ij47 y69 ij42 bj48 p r) (ref22_single_j48 (wI (ij42 + 1)) bj48 p r)) : ref22_single_j54 ij47 y69 ij42 bj48 p r :=
 fJ hw<|KL 6 nGItem y69.Items<|KW 3 (KJ 11)<|KJ 12
theorem ref22_single_j48_step (ij42 : Int) (bj43 : Bool) (p : GPlan) (r : Bool) (hw : ID (ij42 < (p.Enums.length : Int)) (IX p.Enums ij42 fun y69=>ref22_single_j54 0 y69 ij42 bj43 p r) (r = bj43)) : ref22_single_j48 ij42 bj43 p r :=
 fJ hw<|KL 7 nGEnum p.Enums<|KW 3 (KI 9 nGEnum<|KJ 12)<|KR 12
theorem ref22_single_j74_step (ij65 : Int) (ij63 : Int) (y98 : GProg) (ij33 : Int) (bj66 : Bool) (p : GPlan) (r : Bool) (hw : ID (ij65 < ij63) (IF bj66 (IX y98.Ops ij65 fun y109=>IX y98.Ops ij63 fun y110=>ref22_single_j74 (wI (ij65 + 1)) ij63 y98 ij33 (!(decide (y109.Name = y110.Name))) p r) (ref22_single_j74 (wI (ij65 + 1)) ij63 y98 ij33 false p r)) (ref22_single_j72 (wI (ij63 + 1)) y98 ij33 bj66 p r)) : ref22_single_j74 ij65 ij63 y98 ij33 bj66 p r :=
 fJ hw<|KW 9 (KD 4 []<|KW 2 (KI 2 nGOp<|KI 4 nGOp<|KJ 15)<|KJ 23)<|KJ 12
theorem ref22_single_j72_step (ij63 : Int) (y98 : GProg) (ij33 : Int) (bj64 : Bool) (p : GPlan) (r : Bool) (hw : ID (ij63 < (y98.Ops.length : Int)) (ref22_single_j74 0 ij63 y98 ij33 bj64 p r) (ref22_single_j38 (wI (ij33 + 1)) bj64 p r)) : ref22_single_j72 ij63 y98 ij33 bj64 p r :=
 fJ hw<|KL 6 nGOp y98.Ops<|KW 3 (KJ 11)<|KJ 12
theorem ref22_single_j66_step (ij58 : Int) (ij33 : Int) (bj59 : Bool) (p : GPlan) (r : Bool) (hw : ID (ij58 < (p.Enums.length : Int)) (IF bj59 (IX p.Progs ij33 fun y112=>IX p.Enums ij58 fun y113=>ref22_single_j66 (wI (ij58 + 1)) ij33 (!(decide (y112.Name = y113.Name))) p r) (ref22_single_j66 (wI (ij58 + 1)) ij33 false p r)) (IX p.Progs ij33 fun y98=>ref22_single_j72 0 y98 ij33 bj59 p r)) : ref22_single_j66 ij58 ij33 bj59 p r :=
 fJ hw<|KL 7 nGEnum p.Enums<|KW 3 (KD 4 [0]<|KW 2 (KI 3 nGProg<|KI 5 nGEnum<|KJ 15)<|KJ 25)<|KI 10 nGProg<|KJ 12
theorem ref22_single_j38_step (ij33 : Int) (bj34 : Bool) (p : GPlan) (r : Bool) (hw : ID (ij33 < (p.Progs.length : Int)) (ref22_single_j66 0 ij33 bj34 p r) (ref22_single_j48 0 bj34 p r)) : ref22_single_j38 ij33 bj34 p r :=
 fJ hw<|KL 7 nGProg p.Progs<|KW 3 (KJ 12)<|KJ 13
theorem ref22_single_step (p : GPlan) (r : Bool) (hw : ref22_single_j38 0 true p r) : ref22_single p r :=
 fP hw<|KJ 19
end
section
attribute [local irreducible] Ok run put putH br jn pos dr0 So
attribute [-simp] List.map_take List.map_drop List.map_append List.map_set List.map_replicate List.map_cons List.map_map
attribute [local simp] plain plainL lowE lowB keepB low lowL lowLL plm_I_i8 plm_I_i16 plm_I_i32 plm_I_i64 plm_I_u8 plm_I_u16 plm_I_u32 plm_I_u64 plm_Bool plm_Str gfn_fi gfn_cap plm_Fn pl_GOp plm_GOp pl_GProg plm_GProg pl_GRaw plm_GRaw pl_GValue plm_GValue pl_GPair plm_GPair pl_GSlot plm_GSlot pl_GNote plm_GNote pl_GItem plm_GItem pl_GSpan plm_GSpan pl_GEnum plm_GEnum pl_GPlan plm_GPlan pl_Gleaf plm_Gleaf pl_Gopening plm_Gopening pl_Gclosing plm_Gclosing pl_Gparts plm_Gparts pl_Any eI_i8 eI_i16 eI_i32 eI_i64 eI_u8 eI_u16 eI_u32 eI_u64 eBool eStr eFn lwr_Bool lwm_I_u8 lwm_GItem lwc_GEnum lwc_GPlan
def ref22_ranges_j32 (ij31 : Int) (ij25 : Int) (bj32 : Bool) (p : GPlan) (y52 : GEnum) (r : Bool) : Prop := J Pg 21 (.ret (e21 r)) 29 [(11, aI ij31), (8, .ptr 1 0), (7, aI ij25), (3, aB bj32), (1, .ptr 0 0)] ⟨[some (eGPlan p), some (eGEnum y52)], [], []⟩
def ref22_ranges_j30 (ij29 : Int) (ij25 : Int) (bj30 : Bool) (p : GPlan) (y52 : GEnum) (r : Bool) : Prop := J Pg 21 (.ret (e21 r)) 23 [(9, aI ij29), (8, .ptr 1 0), (7, aI ij25), (3, aB bj30), (1, .ptr 0 0)] ⟨[some (eGPlan p), some (eGEnum y52)], [], []⟩
def ref22_ranges_j26 (ij25 : Int) (bj26 : Bool) (p : GPlan) (r : Bool) : Prop := J Pg 21 (.ret (e21 r)) 16 [(7, aI ij25), (3, aB bj26), (1, .ptr 0 0)] ⟨[some (eGPlan p)], [], []⟩
def ref22_ranges_j34 (ij33 : Int) (ij17 : Int) (bj34 : Bool) (p : GPlan) (r : Bool) : Prop := J Pg 21 (.ret (e21 r)) 9 [(5, aI ij33), (4, aI ij17), (3, aB bj34), (1, .ptr 0 0)] ⟨[some (eGPlan p)], [], []⟩
def ref22_ranges_j18 (ij17 : Int) (bj18 : Bool) (p : GPlan) (r : Bool) : Prop := J Pg 21 (.ret (e21 r)) 4 [(4, aI ij17), (3, aB bj18), (1, .ptr 0 0)] ⟨[some (eGPlan p)], [], []⟩
theorem ref22_ranges_j32_step (ij31 : Int) (ij25 : Int) (bj32 : Bool) (p : GPlan) (y52 : GEnum) (r : Bool) (hw : ID (ij31 < (y52.Reserved.length : Int)) (IX y52.Reserved ij31 fun y61=>IF (((bj32 && (decide (0 <= y61.From))) && (decide (y61.To <= 2147483647))) && (decide (y61.From <= y61.To))) (IF (ij31 == 0) (ref22_ranges_j32 (wI (ij31 + 1)) ij25 true p y52 r) (IX y52.Reserved (wI (ij31 - 1)) fun y64=>ref22_ranges_j32 (wI (ij31 + 1)) ij25 (decide (y64.To < y61.From)) p y52 r)) (ref22_ranges_j32 (wI (ij31 + 1)) ij25 false p y52 r)) (ref22_ranges_j26 (wI (ij25 + 1)) bj32 p r)) : ref22_ranges_j32 ij31 ij25 bj32 p y52 r :=
 fJ hw<|KL 7 nGSpan y52.Reserved<|KW 3 (KI 9 nGSpan<|KD 5 [1, 2]<|KT 2 4<|KT 1 4<|KT 1 6<|KW 1 (KW 3 (KJl 23 [])<|KI 6 nGSpan<|KJl 16 [])<|KJl 26 [])<|KJl 12 []
theorem ref22_ranges_j30_step (ij29 : Int) (ij25 : Int) (bj30 : Bool) (p : GPlan) (y52 : GEnum) (r : Bool) (hw : ID (ij29 < (y52.Items.length : Int)) (IX y52.Items ij29 fun y65=>IF ((bj30 && (decide (y65.Num <= 2147483647))) && ((decide (0 < ij29)) || (y65.Num == 0))) (∃ y66, ref12_Reserved y52.Reserved y65.Num y66 /\ (ref22_ranges_j30 (wI (ij29 + 1)) ij25 (!y66) p y52 r)) (ref22_ranges_j30 (wI (ij29 + 1)) ij25 false p y52 r)) (ref22_ranges_j32 0 ij25 bj30 p y52 r)) : ref22_ranges_j30 ij29 ij25 bj30 p y52 r :=
 fJ hw<|KL 7 nGItem y52.Items<|KW 3 (KI 9 nGItem fun {y65}=>KT 8 3<|KT2 1 7 (bj30 && (decide (y65.Num <= 2147483647))) (fun z=>aB (z && ((decide (0 < ij29)) || (y65.Num == 0)))) (fun key=>KT 3 3<|KE2 1 key) (fun key=>KE2 7 key)<|KW 1 (KC 3<|KJ 12)<|KJ 16)<|KJ 12
theorem ref22_ranges_j26_step (ij25 : Int) (bj26 : Bool) (p : GPlan) (r : Bool) (hw : ID (ij25 < (p.Enums.length : Int)) (IX p.Enums ij25 fun y52=>ref22_ranges_j30 0 ij25 bj26 p y52 r) (r = bj26)) : ref22_ranges_j26 ij25 bj26 p r :=
 fJ hw<|KL 7 nGEnum p.Enums<|KW 3 (KI 9 nGEnum<|KJ 13)<|KR 12
theorem ref22_ranges_j34_step (ij33 : Int) (ij17 : Int) (bj34 : Bool) (p : GPlan) (r : Bool) (hw : IX p.Progs ij17 fun y70=>ID (ij33 < (y70.Ops.length : Int)) (IX p.Progs ij17 fun y71=>IX y71.Ops ij33 fun y72=>ref22_ranges_j34 (wI (ij33 + 1)) ij17 ((bj34 && (decide (1 <= y72.Num))) && (decide (y72.Num <= 65535))) p r) (ref22_ranges_j18 (wI (ij17 + 1)) bj34 p r)) : ref22_ranges_j34 ij33 ij17 bj34 p r :=
 fJ hw<|KI 8 nGProg fun {y70}=>KL 2 nGOp y70.Ops<|KW 3 (KI 9 nGProg<|KI 3 nGOp<|KT 8 3<|KT 1 3<|KJ 10)<|KJ 12
theorem ref22_ranges_j18_step (ij17 : Int) (bj18 : Bool) (p : GPlan) (r : Bool) (hw : ID (ij17 < (p.Progs.length : Int)) (ref22_ranges_j34 0 ij17 bj18 p r) (ref22_ranges_j26 0 bj18 p r)) : ref22_ranges_j18 ij17 bj18 p r :=
 fJ hw<|KL 7 nGProg p.Progs<|KW 3 (KJ 11)<|KJ 13
theorem ref22_ranges_step (p : GPlan) (r : Bool) (hw : ref22_ranges_j18 0 true p r) : ref22_ranges p r :=
 fP hw<|KJ 19
def ref22_arguments_j16 (ij15 : Int) (bj16 : Bool) (ij13 : Int) (p : GPlan) (r : Bool) : Prop := J Pg 22 (.ret (e22 r)) 23 [(8, aI ij15), (3, aB bj16), (7, aI ij13), (1, .ptr 0 0)] ⟨[some (eGPlan p)], [], []⟩
def ref22_arguments_j14 (ij13 : Int) (bj14 : Bool) (p : GPlan) (r : Bool) : Prop := J Pg 22 (.ret (e22 r)) 17 [(7, aI ij13), (3, aB bj14), (1, .ptr 0 0)] ⟨[some (eGPlan p)], [], []⟩
def ref22_arguments_j18 (ij17 : Int) (bj18 : Bool) (ij9 : Int) (p : GPlan) (r : Bool) : Prop := J Pg 22 (.ret (e22 r)) 10 [(5, aI ij17), (3, aB bj18), (4, aI ij9), (1, .ptr 0 0)] ⟨[some (eGPlan p)], [], []⟩
def ref22_arguments_j10 (ij9 : Int) (bj10 : Bool) (p : GPlan) (r : Bool) : Prop := J Pg 22 (.ret (e22 r)) 4 [(4, aI ij9), (3, aB bj10), (1, .ptr 0 0)] ⟨[some (eGPlan p)], [], []⟩
theorem ref22_arguments_j16_step (ij15 : Int) (bj16 : Bool) (ij13 : Int) (p : GPlan) (r : Bool) (hw : IX p.Progs ij13 fun y64=>ID (ij15 < (y64.Ops.length : Int)) (IF bj16 (IX p.Progs ij13 fun y66=>IX y66.Ops ij15 fun y67=>∃ y68, ref22_operation p y67 y68 /\ (ref22_arguments_j16 (wI (ij15 + 1)) y68 ij13 p r)) (ref22_arguments_j16 (wI (ij15 + 1)) false ij13 p r)) (ref22_arguments_j14 (wI (ij13 + 1)) bj16 p r)) : ref22_arguments_j16 ij15 bj16 ij13 p r :=
 fJ hw<|KI 8 nGProg fun {y64}=>KL 2 nGOp y64.Ops<|KW 3 (KD 4 [0]<|KW 2 (KI 4 nGProg<|KI 3 nGOp<|KC 2<|KJ 11)<|KJ 23)<|KJ 12
theorem ref22_arguments_j14_step (ij13 : Int) (bj14 : Bool) (p : GPlan) (r : Bool) (hw : ID (ij13 < (p.Progs.length : Int)) (JN (fun bz5 : Bool=>ref22_arguments_j16 0 bz5 ij13 p r) fun R5=>IF bj14 (IX p.Progs ij13 fun y57=>∃ y58, ref22_joined y57 y58 /\ (R5 y58)) (R5 false)) (r = bj14)) : ref22_arguments_j14 ij13 bj14 p r :=
 fJ hw<|KL 7 nGProg p.Progs<|KW 3 (KQ 8 7 kB (KJ 10) (fun key=>KI 3 nGProg<|KC 1<|KE 1 key) fun key=>KE 7 key)<|KR 12
theorem ref22_arguments_j18_step (ij17 : Int) (bj18 : Bool) (ij9 : Int) (p : GPlan) (r : Bool) (hw : IX p.Enums ij9 fun y79=>ID (ij17 < (y79.Items.length : Int)) (IX p.Enums ij9 fun y80=>IX y80.Items ij17 fun y81=>IF bj18 (IF ((y81.Notes.length : Int) == 0) (ref22_arguments_j18 (wI (ij17 + 1)) true ij9 p r) (JN (fun bz8 : Bool=>IF bz8 (∃ y86, ref08_Check y81.Notes 4 y86 /\ (ref22_arguments_j18 (wI (ij17 + 1)) (y86 == 0) ij9 p r)) (ref22_arguments_j18 (wI (ij17 + 1)) false ij9 p r)) fun R8=>IF ((y81.Notes.length : Int) == 1) (IX y81.Notes (0 : Int) fun y85=>R8 (decide (y85.Name = (⟨#[97, 108, 105, 97, 115]⟩ : ByteArray)))) (R8 false))) (ref22_arguments_j18 (wI (ij17 + 1)) false ij9 p r)) (ref22_arguments_j10 (wI (ij9 + 1)) bj18 p r)) : ref22_arguments_j18 ij17 bj18 ij9 p r :=
 fJ hw<|KI 8 nGEnum fun {y79}=>KL 2 nGItem y79.Items<|KW 3 (KI 9 nGEnum<|KI 3 nGItem fun {y81}=>KW 8 (KL 1 nGNote y81.Notes<|KW 2 (KJ 27)<|KL 1 nGNote y81.Notes<|KQ 2 6 kB (KW 1 (KC 1<|KJ 14)<|KJ 16) (fun key=>KI 1 nGNote<|KE 4 key) fun key=>KE 6 key)<|KJ 31)<|KJ 12
theorem ref22_arguments_j10_step (ij9 : Int) (bj10 : Bool) (p : GPlan) (r : Bool) (hw : ID (ij9 < (p.Enums.length : Int)) (JN (fun bz6 : Bool=>ref22_arguments_j18 0 bz6 ij9 p r) fun R6=>IF bj10 (IX p.Enums ij9 fun y70=>R6 ((y70.Notes.length : Int) == 0)) (R6 false)) (ref22_arguments_j14 0 bj10 p r)) : ref22_arguments_j10 ij9 bj10 p r :=
 fJ hw<|KL 7 nGEnum p.Enums<|KW 3 (KQ 8 9 kB (KJ 10) (fun key=>KI 3 nGEnum fun {y70}=>KL 2 nGNote y70.Notes<|KE 2 key) fun key=>KE 9 key)<|KJ 13
theorem ref22_arguments_step (p : GPlan) (r : Bool) (hw : ref22_arguments_j10 0 true p r) : ref22_arguments p r :=
 fP hw<|KJ 19
def ref22_finite_j14 (ij16 : Int) (bj17 : Bool) (ij13 : Int) (bj15 : Bool) (ij8 : Int) (p : GPlan) (lj14 : (List Bool)) (r : Bool) : Prop := J Pg 23 (.ret (e23 r)) 18 [(7, aI ij16), (6, aB bj17), (5, aI ij13), (4, aB bj15), (20, aI ij8), (19, aI (p.Progs.length : Int)), (3, .row 1 0 1 (p.Progs.length : Int).toNat (p.Progs.length : Int).toNat), (1, .ptr 0 0)] ⟨[some (eGPlan p), some (cellsOf eBool lj14)], [], []⟩
def ref22_finite_j12 (ij13 : Int) (bj15 : Bool) (ij8 : Int) (p : GPlan) (lj14 : (List Bool)) (r : Bool) : Prop := J Pg 23 (.ret (e23 r)) 11 [(5, aI ij13), (4, aB bj15), (20, aI ij8), (19, aI (p.Progs.length : Int)), (3, .row 1 0 1 (p.Progs.length : Int).toNat (p.Progs.length : Int).toNat), (1, .ptr 0 0)] ⟨[some (eGPlan p), some (cellsOf eBool lj14)], [], []⟩
def ref22_finite_j8 (ij8 : Int) (p : GPlan) (bj9 : Bool) (lj10 : (List Bool)) (r : Bool) : Prop := J Pg 23 (.ret (e23 r)) 5 [(20, aI ij8), (19, aI (p.Progs.length : Int)), (4, aB bj9), (3, .row 1 0 1 (p.Progs.length : Int).toNat (p.Progs.length : Int).toNat), (1, .ptr 0 0)] ⟨[some (eGPlan p), some (cellsOf eBool lj10)], [], []⟩
theorem ref22_finite_j14_step (ij16 : Int) (bj17 : Bool) (ij13 : Int) (bj15 : Bool) (ij8 : Int) (p : GPlan) (lj14 : (List Bool)) (r : Bool) (hw : IX p.Progs ij13 fun y29=>ID (ij16 < (y29.Ops.length : Int)) (IX p.Progs ij13 fun y30=>IX y30.Ops ij16 fun y31=>IF bj17 (IF ((y31.Card != 1) || (y31.Kind != 10)) (ref22_finite_j14 (wI (ij16 + 1)) true ij13 bj15 ij8 p lj14 r) ((0 <= y31.Target /\ y31.Target < ((p.Progs.length : Int).toNat : Int)) /\ (∃ y32, lj14[y31.Target.toNat]? = some y32 /\ (ref22_finite_j14 (wI (ij16 + 1)) y32 ij13 bj15 ij8 p lj14 r)))) (ref22_finite_j14 (wI (ij16 + 1)) false ij13 bj15 ij8 p lj14 r)) ((0 <= ij13 /\ ij13 < ((p.Progs.length : Int).toNat : Int)) /\ (ij13.toNat < lj14.length /\ (ref22_finite_j12 (wI (ij13 + 1)) (bj15 && bj17) ij8 p (lj14.set ij13.toNat bj17) r)))) : ref22_finite_j14 ij16 bj17 ij13 bj15 ij8 p lj14 r :=
 fJ hw<|KI 8 nGProg fun {y29}=>KL 2 nGOp y29.Ops<|KW 3 (KI 9 nGProg<|KI 3 nGOp<|KW 8 (KT 4 4<|KW 1 (KJl 17 [])<|KRI 3 1<|KR1 0 nBool 0<|KJl 12 [])<|KJl 26 [])<|KRI 10 1<|KRS 0 nBool bj17<|KT 5 2<|KJ 10
theorem ref22_finite_j12_step (ij13 : Int) (bj15 : Bool) (ij8 : Int) (p : GPlan) (lj14 : (List Bool)) (r : Bool) (hw : ID (ij13 < (p.Progs.length : Int)) (ref22_finite_j14 0 true ij13 bj15 ij8 p lj14 r) (ref22_finite_j8 (wI (ij8 + 1)) p bj15 lj14 r)) : ref22_finite_j12 ij13 bj15 ij8 p lj14 r :=
 fJ hw<|KL 7 nGProg p.Progs<|KW 3 (KJ 17)<|KJ 11
theorem ref22_finite_j8_step (ij8 : Int) (p : GPlan) (bj9 : Bool) (lj10 : (List Bool)) (r : Bool) (hw : ID (ij8 < (p.Progs.length : Int)) (ref22_finite_j12 0 true ij8 p lj10 r) (r = bj9)) : ref22_finite_j8 ij8 p bj9 lj10 r :=
 fJ hw<|KW 7 (KJ 16)<|KR 12
theorem ref22_finite_step (p : GPlan) (r : Bool) (hw : (0 <= (p.Progs.length : Int) /\ (p.Progs.length : Int) <= (p.Progs.length : Int) /\ (p.Progs.length : Int) * 1 <= 140737488355328) /\ (ref22_finite_j8 0 p ((p.Progs.length : Int) == 0) (List.replicate (p.Progs.length : Int).toNat false) r)) : ref22_finite p r :=
 fP hw<|KL 10 nGProg p.Progs<|KM 0 nBool false<|KL 7 nGProg p.Progs<|KL 9 nGProg p.Progs<|KJ 5
def strings_Repeat_j18 (ij9 : Int) (y1 : (Int × Int)) (s : ByteArray) (r : ByteArray) : Prop := JP Pg 29 (e29 r) 34 [(8, aI ij9), (7, aI (wI y1.2)), (0, aS s)]
def strings_Repeat_j24 (ij12 : Int) (y1 : (Int × Int)) (s : ByteArray) (r : ByteArray) : Prop := JP Pg 29 (e29 r) 34 [(8, aI ij12), (7, aI (wI y1.2)), (0, aS s)]
def strings_Repeat_j14 (bj7 : Bool) (y1 : (Int × Int)) (s : ByteArray) (r : ByteArray) : Prop := JP Pg 29 (e29 r) 18 [(43, aB bj7), (7, aI (wI y1.2)), (0, aS s)]
theorem strings_Repeat_j14_step (bj7 : Bool) (y1 : (Int × Int)) (s : ByteArray) (r : ByteArray) (hw : IF bj7 (JN (fun bz6 : Bool=>IF bz6 (SS (bR 128 32) (0 : Int) (wI y1.2) (r = ((bR 128 32).extract (0 : Int).toNat (wI y1.2).toNat))) (JN (fun bz7 : Bool=>IF bz7 (SS (bR 128 45) (0 : Int) (wI y1.2) (r = ((bR 128 45).extract (0 : Int).toNat (wI y1.2).toNat))) (JN (fun bz8 : Bool=>IF bz8 (SS (bR 64 48) (0 : Int) (wI y1.2) (r = ((bR 64 48).extract (0 : Int).toNat (wI y1.2).toNat))) (JN (fun bz9 : Bool=>IF bz9 (SS (bR 128 61) (0 : Int) (wI y1.2) (r = ((bR 128 61).extract (0 : Int).toNat (wI y1.2).toNat))) (JN (fun bz10 : Bool=>IF bz10 (SS (bR 64 9) (0 : Int) (wI y1.2) (r = ((bR 64 9).extract (0 : Int).toNat (wI y1.2).toNat))) (ID (8192 < (wI y1.2)) ((s.size : Int) ≠ 0 /\ (IF ((wI ((wI ((8192 : Int).tdiv (s.size : Int))) * (s.size : Int))) == 0) (strings_Repeat_j18 (s.size : Int) y1 s r) (strings_Repeat_j18 (wI ((wI ((8192 : Int).tdiv (s.size : Int))) * (s.size : Int))) y1 s r))) (strings_Repeat_j18 (wI y1.2) y1 s r))) fun R10=>ID ((wI y1.2) <= 64) (∃ y11, strings_HasPrefix (bR 64 9) s y11 /\ (R10 y11)) (R10 false))) fun R9=>ID ((wI y1.2) <= 128) (∃ y10, strings_HasPrefix (bR 128 61) s y10 /\ (R9 y10)) (R9 false))) fun R8=>ID ((wI y1.2) <= 64) (∃ y9, strings_HasPrefix (bR 64 48) s y9 /\ (R8 y9)) (R8 false))) fun R7=>ID ((wI y1.2) <= 128) (∃ y8, strings_HasPrefix (bR 128 45) s y8 /\ (R7 y8)) (R7 false))) fun R6=>ID ((wI y1.2) <= 128) (∃ y7, strings_HasPrefix (bR 128 32) s y7 /\ (R6 y7)) (R6 false)) (ID (8192 < (wI y1.2)) ((s.size : Int) ≠ 0 /\ (IF ((wI ((wI ((8192 : Int).tdiv (s.size : Int))) * (s.size : Int))) == 0) (strings_Repeat_j24 (s.size : Int) y1 s r) (strings_Repeat_j24 (wI ((wI ((8192 : Int).tdiv (s.size : Int))) * (s.size : Int))) y1 s r))) (strings_Repeat_j24 (wI y1.2) y1 s r))) : strings_Repeat_j14 bj7 y1 s r :=
 fJ hw<|KW 0 (KQ 6 3 kB (KW 3 (KSS 3<|KR 7)<|KQ 5 3 kB (KW 3 (KSS 3<|KR 7)<|KQ 5 3 kB (KW 3 (KSS 3<|KR 7)<|KQ 5 3 kB (KW 3 (KSS 3<|KR 7)<|KQ 5 3 kB (KW 3 (KSS 3<|KR 7)<|KW 17 (KB 4<|KW 12 (KJ 6)<|KJ 2)<|KJ 2) (fun key=>KC 1<|KE 1 key) fun key=>KE 3 key) (fun key=>KC 1<|KE 1 key) fun key=>KE 3 key) (fun key=>KC 1<|KE 1 key) fun key=>KE 3 key) (fun key=>KC 1<|KE 1 key) fun key=>KE 3 key) (fun key=>KC 1<|KE 1 key) fun key=>KE 3 key)<|KW 16 (KB 4<|KW 12 (KJ 6)<|KJ 2)<|KJ 2
theorem strings_Repeat_step (s : ByteArray) (count : Int) (r : ByteArray) (hw : IF (count == 0) (r = (⟨#[]⟩ : ByteArray)) (IF (count == 1) (r = s) (ID (count < 0) (False) (∃ y1, math_bits_Mul (wU (s.size : Int)) (wU count) y1 /\ (IF ((decide (0 < y1.1)) || (decide (9223372036854775807 < y1.2))) (False) (IF ((s.size : Int) == 0) (r = (⟨#[]⟩ : ByteArray)) (SI s (0 : Int) (IF ((byteAt s (0 : Int).toNat) == 32) (strings_Repeat_j14 ((byteAt s (0 : Int).toNat) == 32) y1 s r) (IF ((byteAt s (0 : Int).toNat) == 45) (strings_Repeat_j14 ((byteAt s (0 : Int).toNat) == 45) y1 s r) (IF ((byteAt s (0 : Int).toNat) == 48) (strings_Repeat_j14 ((byteAt s (0 : Int).toNat) == 48) y1 s r) (IF ((byteAt s (0 : Int).toNat) == 61) (strings_Repeat_j14 ((byteAt s (0 : Int).toNat) == 61) y1 s r) (strings_Repeat_j14 ((byteAt s (0 : Int).toNat) == 9) y1 s r)))))))))))) : strings_Repeat s count r :=
 fP hw<|KW 18 (KR 8)<|KW 6 (KR 9)<|KW 10 (kF)<|KC 9<|KT 13 3<|KW 2 (kF)<|KW 17 (KR 7)<|KIS 6<|KW 10 (KJ 2)<|KW 6 (KJ 2)<|KW 6 (KJ 2)<|KW 6 (KJ 2)<|KJ 5
theorem scalar_Is_step (kind : Int) (r : Bool) (hw : r = ((decide (1 <= kind)) && (decide (kind <= 9)))) : scalar_Is kind r :=
 fP hw<|KT 10 3<|KR 4
theorem scalar_Fits_step (kind : Int) (v : GValue) (r : Bool) (hw : ∃ y1, scalar_Is kind y1 /\ (JN (fun bz1 : Bool=>JN (fun bz2 : Bool=>IF (bz2 || (decide (4096 < (v.Text.size : Int)))) (r = false) (IF (kind != 7) (r = true) (∃ y4, utf_Valid v.Text y4 /\ (r = y4)))) fun R2=>IF bz1 (R2 true) (∃ y3, scalar_within kind v.Bits y3 /\ (R2 (!y3)))) fun R1=>IF ((!y1) || (v.Kind != kind)) (R1 true) (∃ y2, scalar_lean v y2 /\ (R1 (!y2))))) : scalar_Fits kind v r :=
 fP hw<|KC 10<|KT 2 5<|KQ 1 4 kB (KQ 1 6 kB (KT 1 5<|KW 2 (KR 7)<|KW 7 (KR 8)<|KC 2<|KR 5) (fun key=>KE 6 key) fun key=>KC 3<|KE 2 key) (fun key=>KE 4 key) fun key=>KC 1<|KE 2 key
def scalar_Text_j2 (bj1 : Bool) (v : GValue) (mg : Int) (r : ByteArray) : Prop := J Pg 37 (.ret (e37 r)) 8 [(16, aB bj1), (9, aI v.Kind), (1, .ptr 0 0)] ⟨[some (eGValue v)], [], GLm mg⟩
theorem scalar_Text_j2_step (bj1 : Bool) (v : GValue) (mg : Int) (r : ByteArray) (hw : IF bj1 (∃ y9, strconv_Itoa mg (wI v.Bits) y9 /\ (r = y9)) (IF (v.Kind == 6) (∃ y10, scalar_double mg v.Bits y10 /\ (r = y10)) (IF (v.Kind == 7) (∃ y11, utf_Quote v.Text y11 /\ (r = y11)) (IF (v.Kind == 8) (∃ y12, utf_Hex v.Text y12 /\ (∃ y13, utf_Quote y12 y13 /\ (CT (⟨#[120]⟩ : ByteArray) y13 (r = ((⟨#[120]⟩ : ByteArray) ++ y13))))) (∃ y14, strconv_FormatUint mg v.Bits 10 y14 /\ (r = y14)))))) : scalar_Text_j2 bj1 v mg r :=
 fJ hw<|KW 0 (KCg 5<|KR 6)<|KW 6 (KCg 4<|KR 6)<|KW 6 (KC 4<|KR 6)<|KW 6 (KC 4<|KC 0<|KCat 0<|KR 6)<|KCg 7<|KR 4
theorem scalar_Text_step (mg : Int) (v : GValue) (r : ByteArray) (hw : ∃ y1, scalar_Fits v.Kind v y1 /\ (IF (!y1) (r = (⟨#[]⟩ : ByteArray)) (IF (v.Kind == 1) (∃ y2, strconv_FormatBool (v.Bits == 1) y2 /\ (r = y2)) (IF (v.Kind == 2) (scalar_Text_j2 (v.Kind == 2) v mg r) (scalar_Text_j2 (v.Kind == 3) v mg r))))) : scalar_Text mg v r :=
 fP hw<|KC 12<|KW 3 (KR 7)<|KW 16 (KC 5<|KR 6)<|KW 7 (KJ 2)<|KJ 5
def textform_itemOf_j2 (ij1 : Int) (y1 : GEnum) (num : Int) (r : (GItem × Bool)) : Prop := J Pg 38 (.ret (e38 r)) 6 [(27, aI ij1), (26, aI (y1.Items.length : Int)), (25, .sl (List.map eGItem y1.Items) .no), (6, .ptr 1 0), (2, aU num)] ⟨[none, some [aE, aI 0, .nil]], [], []⟩
theorem textform_itemOf_j2_step (ij1 : Int) (y1 : GEnum) (num : Int) (r : (GItem × Bool)) (hw : ID (ij1 < (y1.Items.length : Int)) (IX y1.Items ij1 fun y3=>IF ((decide (0 <= y3.Num)) && ((wU y3.Num) == num)) (r = (y3, true)) (textform_itemOf_j2 (wI (ij1 + 1)) y1 num r)) (r = ((⟨⟨#[]⟩, 0, []⟩ : GItem), false))) : textform_itemOf_j2 ij1 y1 num r :=
 fJ hw<|KW 7 (KI 6 nGItem<|KT 11 6<|KW 2 (KR 13)<|KJl 8 [])<|KR 13
theorem textform_itemOf_step (p : GPlan) (enum : Int) (num : Int) (r : (GItem × Bool)) (hw : IF ((decide (enum < 0)) || (decide ((p.Enums.length : Int) <= enum))) (r = ((⟨⟨#[]⟩, 0, []⟩ : GItem), false)) (IX p.Enums enum fun y1=>textform_itemOf_j2 0 y1 num r)) : textform_itemOf p enum num r :=
 fP hw<|KT2 13 6 (decide (enum < 0)) (fun z=>aB (z || (decide ((p.Enums.length : Int) <= enum)))) (fun key=>KE2 6 key) (fun key=>KL 3 nGEnum p.Enums<|KE2 2 key)<|KW 2 (KR 9)<|KI 8 nGEnum fun {y1}=>KL 2 nGItem y1.Items<|KJl 5 []
theorem scalar_Parse_step (mg : Int) (kind : Int) (s : ByteArray) (r : (GValue × Int)) (hw : ∃ y1, scalar_Is kind y1 /\ (IF (!y1) (r = ((⟨0, 0, ⟨#[]⟩, [], [], [], []⟩ : GValue), 1)) (IF ((kind == 1) && (decide (s = (⟨#[116, 114, 117, 101]⟩ : ByteArray)))) (r = ((⟨kind, 1, ⟨#[]⟩, [], [], [], []⟩ : GValue), 0)) (IF ((kind == 1) && (decide (s = (⟨#[102, 97, 108, 115, 101]⟩ : ByteArray)))) (r = ((⟨kind, 0, ⟨#[]⟩, [], [], [], []⟩ : GValue), 0)) (IF (kind == 1) (r = ((⟨0, 0, ⟨#[]⟩, [], [], [], []⟩ : GValue), 2)) (IF (kind == 6) (∃ y2, scalar_parseDouble mg s y2 /\ (r = (y2.1, y2.2))) (∃ y3, scalar_texty kind y3 /\ (IF y3 (∃ y4, scalar_parseText kind s y4 /\ (r = (y4.1, y4.2))) (∃ y5, scalar_number mg kind s y5 /\ (r = (y5.1, y5.2))))))))))) : scalar_Parse mg kind s r :=
 fP hw<|KC 11<|KW 4 (KR 10)<|KT 5 3<|KW 3 (KR 11)<|KT 5 3<|KW 3 (KR 11)<|KW 7 (KR 10)<|KW 7 (KCg 3<|KR 9)<|KC 3<|KW 3 (KC 4<|KR 9)<|KCg 7<|KR 7
theorem strings_CutPrefix_step (s : ByteArray) (prefix_ : ByteArray) (r : (ByteArray × Bool)) (hw : ∃ y1, internal_stringslite_CutPrefix s prefix_ y1 /\ (r = (y1.1, y1.2))) : strings_CutPrefix s prefix_ r :=
 fP hw<|KC 10<|KR 7
theorem plan_Accepts_step (p : GPlan) (enum : Int) (num : Int) (r : Bool) (hw : IF (((decide (enum < 0)) || (decide ((p.Enums.length : Int) <= enum))) || (decide (2147483647 < num))) (r = false) (IX p.Enums enum fun y1=>IF y1.Open (r = true) (∃ y2, slices_ContainsFunc_LItem_Item y1.Items (⟨87, [], [.elt [aU num] 0], by simp⟩ : GFn) y2 /\ (r = y2)))) : plan_Accepts p enum num r :=
 fP hw<|KT2 13 6 (decide (enum < 0)) (fun z=>aB (z || (decide ((p.Enums.length : Int) <= enum)))) (fun key=>KE2 6 key) (fun key=>KL 3 nGEnum p.Enums<|KE2 2 key)<|KT 1 3<|KW 2 (KR 7)<|KI 7 nGEnum fun {y1}=>KFz 6 1 [true, false, true] 0 [(7, .ptr 2 0), (5, .elt [aU num] 0)] [some (eGPlan p), none, some (eGEnum y1)]<|KW 4 (KR 9)<|KC 3<|KR 5
def ident_IsPart_j2 (s : ByteArray) (nj1 : Nat) (r : Bool) : Prop := J Pg 42 (.ret (e42 r)) 3 [(7, .ptr 0 0), (0, aS s)] ⟨[some [.it s nj1]], [], []⟩
theorem ident_IsPart_j2_step (s : ByteArray) (nj1 : Nat) (r : Bool) (hw : (nj1 < s.size -> ∃ y2, ident_class (Utf8.decode s nj1).1 y2 /\ (IF ((y2 == 0) || (((((nj1 : Nat) : Int) == 0) && (y2 != 1)) && (y2 != 2))) (r = false) (ident_IsPart_j2 s (nj1 + (Utf8.decode s nj1).2) r))) /\ (¬ nj1 < s.size -> r = ((decide (1 <= (s.size : Int))) && (decide ((s.size : Int) <= 40))))) : ident_IsPart_j2 s nj1 r :=
 fJ hw<|KX 3 (KC 19 fun {y2}=>KT2 8 11 (y2 == 0) (fun z=>aB (z || (((((nj1 : Nat) : Int) == 0) && (y2 != 1)) && (y2 != 2)))) (fun key=>KE2 11 key) (fun key=>KT 3 3<|KT 1 3<|KE2 1 key)<|KW 2 (KR 10)<|KJ 3)<|KT 16 4<|KR 4
theorem ident_IsPart_step (s : ByteArray) (r : Bool) (hw : ident_IsPart_j2 s 0 r) : ident_IsPart s r :=
 fP hw<|KJ 14
theorem ref04_Parse_step (kind : Int) (s : ByteArray) (r : (GValue × Int)) (hw : ∃ y1, ref04_Is kind y1 /\ (IF (!y1) (r = ((⟨0, 0, ⟨#[]⟩, [], [], [], []⟩ : GValue), 1)) (IF (kind == 1) (IF ((!(decide (s = (⟨#[116, 114, 117, 101]⟩ : ByteArray)))) && (!(decide (s = (⟨#[102, 97, 108, 115, 101]⟩ : ByteArray))))) (r = ((⟨0, 0, ⟨#[]⟩, [], [], [], []⟩ : GValue), 2)) (ID (s = (⟨#[116, 114, 117, 101]⟩ : ByteArray)) (r = ((⟨kind, 1, ⟨#[]⟩, [], [], [], []⟩ : GValue), 0)) (r = ((⟨kind, 0, ⟨#[]⟩, [], [], [], []⟩ : GValue), 0)))) (IF (kind == 6) (∃ y2, ref04_double s y2 /\ (r = (y2.1, y2.2))) (IF (kind == 7) (∃ y3, ref04_text kind s y3 /\ (r = (y3.1, y3.2))) (IF (kind == 8) (JN (fun bz1 : Bool=>IF bz1 (r = ((⟨0, 0, ⟨#[]⟩, [], [], [], []⟩ : GValue), 2)) (SS s (1 : Int) (s.size : Int) (∃ y4, ref04_text kind (s.extract (1 : Int).toNat (s.size : Int).toNat) y4 /\ (r = (y4.1, y4.2))))) fun R1=>ID (s = (⟨#[]⟩ : ByteArray)) (R1 true) (SI s (0 : Int) (R1 ((byteAt s (0 : Int).toNat) != 120)))) (∃ y5, ref04_whole kind s y5 /\ (r = (y5.1, y5.2))))))))) : ref04_Parse kind s r :=
 fP hw<|KC 10<|KW 3 (KR 9)<|KW 15 (KT 6 3<|KW 2 (KR 11)<|KW 9 (KR 12)<|KR 13)<|KW 6 (KC 3<|KR 9)<|KW 6 (KC 4<|KR 9)<|KW 6 (KQ 6 4 kB (KW 2 (KR 11)<|KSS 6<|KC 0<|KR 9) (fun key=>KE 4 key) fun key=>KIS 1<|KE 2 key)<|KC 7<|KR 7
theorem ref33_enum_step (p : GPlan) (o_ : GOp) (r : (GEnum × Bool)) (hw : IF ((decide (o_.Target < 0)) || (decide ((p.Enums.length : Int) <= o_.Target))) (r = ((⟨⟨#[]⟩, false, [], [], []⟩ : GEnum), false)) (IX p.Enums o_.Target fun y1=>r = (y1, true))) : ref33_enum p o_ r :=
 fP hw<|KT2 15 7 (decide (o_.Target < 0)) (fun z=>aB (z || (decide ((p.Enums.length : Int) <= o_.Target)))) (fun key=>KE2 7 key) (fun key=>KL 4 nGEnum p.Enums<|KE2 2 key)<|KW 2 (KR 9)<|KI 8 nGEnum<|KR 6
def ref33_item_j2 (ij1 : Int) (bits : Int) (e_ : GEnum) (r : (ByteArray × Bool)) : Prop := J Pg 45 (.ret (e45 r)) 3 [(6, aI ij1), (2, .ptr 0 0), (1, aU bits)] ⟨[some (eGEnum e_)], [], []⟩
theorem ref33_item_j2_step (ij1 : Int) (bits : Int) (e_ : GEnum) (r : (ByteArray × Bool)) (hw : ID (ij1 < (e_.Items.length : Int)) (IX e_.Items ij1 fun y5=>JN (fun bz2 : Bool=>IF bz2 (IX e_.Items ij1 fun y8=>r = (y8.Name, true)) (ref33_item_j2 (wI (ij1 + 1)) bits e_ r)) fun R2=>ID (0 <= y5.Num) (IX e_.Items ij1 fun y7=>R2 ((wU y7.Num) == bits)) (R2 false)) (r = ((⟨#[]⟩ : ByteArray), false))) : ref33_item_j2 ij1 bits e_ r :=
 fJ hw<|KL 7 nGItem e_.Items<|KW 3 (KI 9 nGItem<|KQ 4 10 kB (KW 2 (KI 5 nGItem<|KR 12)<|KJ 9) (fun key=>KI 3 nGItem<|KE 6 key) fun key=>KE 10 key)<|KR 12
theorem ref33_item_step (e_ : GEnum) (bits : Int) (r : (ByteArray × Bool)) (hw : ref33_item_j2 0 bits e_ r) : ref33_item e_ bits r :=
 fP hw<|KJ 15
def ref06_IsPart_j2 (ij1 : Int) (s : ByteArray) (r : Bool) : Prop := JP Pg 46 (e46 r) 6 [(3, aI ij1), (0, aS s)]
theorem ref06_IsPart_j2_step (ij1 : Int) (s : ByteArray) (r : Bool) (hw : ID (ij1 < (s.size : Int)) (SI s ij1 (∃ y5, ref06_small (byteAt s ij1.toNat) y5 /\ (JN (fun bz6 : Bool=>JN (fun bz7 : Bool=>IF bz7 (SI s ij1 (JN (fun bz8 : Bool=>IF bz8 (r = false) (ref06_IsPart_j2 (wI (ij1 + 1)) s r)) fun R8=>ID ((byteAt s ij1.toNat) < 48) (R8 true) (SI s ij1 (R8 (decide (57 < (byteAt s ij1.toNat))))))) (ref06_IsPart_j2 (wI (ij1 + 1)) s r)) fun R7=>IF bz6 (SI s ij1 (R7 ((byteAt s ij1.toNat) != 95))) (R7 false)) fun R6=>IF (!y5) (SI s ij1 (∃ y6, ref06_capital (byteAt s ij1.toNat) y6 /\ (R6 (!y6)))) (R6 false)))) (r = true)) : ref06_IsPart_j2 ij1 s r :=
 fJ hw<|KW 10 (KIS 8<|KC 0<|KQ 2 6 kB (KQ 1 5 kB (KW 1 (KIS 2<|KQ 2 5 kB (KW 3 (KR 11)<|KJ 9) (fun key=>KE 5 key) fun key=>KIS 2<|KE 2 key)<|KJ 23) (fun key=>KIS 2<|KE 2 key) fun key=>KE 5 key) (fun key=>KIS 2<|KC 0<|KE 2 key) fun key=>KE 6 key)<|KR 11
theorem ref06_IsPart_step (s : ByteArray) (r : Bool) (hw : JN (fun bz1 : Bool=>IF bz1 (r = false) (ref06_IsPart_j2 1 s r)) fun R1=>IF (((s.size : Int) == 0) || (decide (40 < (s.size : Int)))) (R1 true) (SI s (0 : Int) (∃ y1, ref06_small (byteAt s (0 : Int).toNat) y1 /\ (JN (fun bz2 : Bool=>R1 bz2) fun R2=>IF (!y1) (SI s (0 : Int) (∃ y2, ref06_capital (byteAt s (0 : Int).toNat) y2 /\ (R2 (!y2)))) (R2 false))))) : ref06_IsPart s r :=
 fP hw<|KT 12 4<|KQ 1 11 kB (KW 2 (KR 7)<|KJ 10) (fun key=>KE 11 key) fun key=>KIS 1<|KC 0<|KQ 2 5 kB (KE 1 key) (fun key=>KIS 1<|KC 0<|KE 2 key) fun key=>KE 5 key
theorem ref04_Fits_step (kind : Int) (v : GValue) (r : Bool) (hw : ∃ y1, ref04_Is kind y1 /\ (JN (fun bz1 : Bool=>IF bz1 (r = false) (∃ y3, ref04_texts kind y3 /\ (IF y3 (JN (fun bz2 : Bool=>r = bz2) fun R2=>IF ((v.Bits == 0) && (decide ((v.Text.size : Int) <= 4096))) (JN (fun bz3 : Bool=>R2 bz3) fun R3=>IF (kind == 8) (R3 true) (∃ y4, ref03_Valid v.Text y4 /\ (R3 y4))) (R2 false)) (IF (!(decide (v.Text = (⟨#[]⟩ : ByteArray)))) (r = false) (IF (kind == 1) (r = (decide (v.Bits <= 1))) (IF (kind == 2) (r = ((decide ((-2147483648) <= (wI v.Bits))) && (decide ((wI v.Bits) <= 2147483647)))) (IF (kind == 4) (r = (decide (v.Bits < 4294967296))) (IF (kind == 9) (r = (decide (v.Bits < 2147483648))) (r = true))))))))) fun R1=>IF ((!y1) || (v.Kind != kind)) (R1 true) (∃ y2, ref04_lone v y2 /\ (R1 (!y2))))) : ref04_Fits kind v r :=
 fP hw<|KC 10<|KT 2 5<|KQ 1 4 kB (KW 2 (KR 7)<|KC 6<|KW 2 (KT 6 5<|KQ 1 8 kB (KR 5) (fun key=>KQ 3 4 kB (KE 1 key) (fun key=>KE 4 key) fun key=>KC 2<|KE 1 key) fun key=>KE 8 key)<|KW 10 (KR 7)<|KW 15 (KR 11)<|KW 6 (KT 13 3<|KR 6)<|KW 6 (KR 11)<|KW 6 (KR 11)<|KR 9) (fun key=>KE 4 key) fun key=>KC 1<|KE 2 key
end
section
attribute [local irreducible] Ok run put putH br jn pos dr0 So
attribute [-simp] List.map_take List.map_drop List.map_append List.map_set List.map_replicate List.map_cons List.map_map
attribute [local simp] plain plainL lowE lowB keepB low lowL lowLL plm_I_i8 plm_I_i16 plm_I_i32 plm_I_i64 plm_I_u8 plm_I_u16 plm_I_u32 plm_I_u64 plm_Bool plm_Str gfn_fi gfn_cap plm_Fn pl_GOp plm_GOp pl_GProg plm_GProg pl_GRaw plm_GRaw pl_GValue plm_GValue pl_GPair plm_GPair pl_GSlot plm_GSlot pl_GNote plm_GNote pl_GItem plm_GItem pl_GSpan plm_GSpan pl_GEnum plm_GEnum pl_GPlan plm_GPlan pl_Gleaf plm_Gleaf pl_Gopening plm_Gopening pl_Gclosing plm_Gclosing pl_Gparts plm_Gparts pl_Any eI_i8 eI_i16 eI_i32 eI_i64 eI_u8 eI_u16 eI_u32 eI_u64 eBool eStr eFn lwr_Bool lwm_I_u8 lwm_GItem lwc_GEnum lwc_GPlan
def ref04_Text_j2 (bj1 : Bool) (v : GValue) (r : ByteArray) : Prop := J Pg 48 (.ret (e48 r)) 11 [(15, aB bj1), (9, aI v.Kind), (1, .ptr 0 0)] ⟨[some (eGValue v)], [], []⟩
theorem ref04_Text_j2_step (bj1 : Bool) (v : GValue) (r : ByteArray) (hw : IF bj1 (ID (9223372036854775808 <= v.Bits) (∃ y10, ref04_decimal (wU (0 - v.Bits)) y10 /\ (CT (⟨#[45]⟩ : ByteArray) y10 (r = ((⟨#[45]⟩ : ByteArray) ++ y10)))) (∃ y11, ref04_decimal v.Bits y11 /\ (r = y11))) (IF (v.Kind == 6) (∃ y12, ref04_Class v.Bits y12 /\ (IF (y12 == 0) (r = (⟨#[110, 97, 110]⟩ : ByteArray)) (IF (y12 == 1) (ID (9223372036854775808 <= v.Bits) (r = (⟨#[45, 105, 110, 102]⟩ : ByteArray)) (r = (⟨#[105, 110, 102]⟩ : ByteArray))) (∃ y13, ref04_hex v.Bits y13 /\ (CT (⟨#[48, 120]⟩ : ByteArray) y13 (r = ((⟨#[48, 120]⟩ : ByteArray) ++ y13))))))) (IF (v.Kind == 7) (∃ y14, ref03_Quote v.Text y14 /\ (r = y14)) (IF (v.Kind == 8) (∃ y15, ref03_Hex v.Text y15 /\ (∃ y16, ref03_Quote y15 y16 /\ (CT (⟨#[120]⟩ : ByteArray) y16 (r = ((⟨#[120]⟩ : ByteArray) ++ y16))))) (∃ y17, ref04_decimal v.Bits y17 /\ (r = y17)))))) : ref04_Text_j2 bj1 v r :=
 fJ hw<|KW 0 (KW 8 (KC 5<|KCat 0<|KR 7)<|KC 6<|KR 6)<|KW 6 (KC 5<|KW 9 (KR 10)<|KW 6 (KW 8 (KR 11)<|KR 12)<|KC 7<|KCat 0<|KR 6)<|KW 6 (KC 4<|KR 6)<|KW 6 (KC 4<|KC 0<|KCat 0<|KR 6)<|KC 7<|KR 4
theorem ref04_Text_step (v : GValue) (r : ByteArray) (hw : ∃ y1, ref04_Fits v.Kind v y1 /\ (IF (!y1) (r = (⟨#[]⟩ : ByteArray)) (IF (v.Kind == 1) (IF (v.Bits == 1) (r = (⟨#[116, 114, 117, 101]⟩ : ByteArray)) (r = (⟨#[102, 97, 108, 115, 101]⟩ : ByteArray))) (IF (v.Kind == 2) (ref04_Text_j2 (v.Kind == 2) v r) (ref04_Text_j2 (v.Kind == 3) v r))))) : ref04_Text v r :=
 fP hw<|KC 12<|KW 3 (KR 7)<|KW 16 (KW 8 (KR 9)<|KR 10)<|KW 7 (KJ 2)<|KJ 5
def ref22_defined_j2 (sj1 : ByteArray) (r : Bool) : Prop := JP Pg 49 (e49 r) 5 [(0, aS sj1)]
theorem ref22_defined_j2_step (sj1 : ByteArray) (r : Bool) (hw : IF (!(decide (sj1 = (⟨#[]⟩ : ByteArray)))) (∃ y4, ref06_Split sj1 y4 /\ (∃ y5, ref06_IsWord y4.2 y5 /\ (IF y5 (r = false) (ref22_defined_j2 y4.1 r)))) (r = true)) : ref22_defined_j2 sj1 r :=
 fJ hw<|KW 8 (KC 6<|KC 11<|KW 2 (KR 11)<|KJ 8)<|KR 11
theorem ref22_defined_step (s : ByteArray) (r : Bool) (hw : ∃ y1, ref06_IsFull s y1 /\ (IF (!y1) (r = false) (ref22_defined_j2 s r))) : ref22_defined s r :=
 fP hw<|KC 9<|KW 3 (KR 7)<|KJ 5
theorem ref22_simple_step (s : ByteArray) (r : Bool) (hw : ∃ y1, ref06_IsPart s y1 /\ (IF y1 (∃ y2, ref06_IsWord s y2 /\ (r = (!y2))) (r = false))) : ref22_simple s r :=
 fP hw<|KC 8<|KW 1 (KC 1<|KR 6)<|KR 8
def ref12_Reserved_j2 (ij1 : Int) (l : (List GSpan)) (n : Int) (r : Bool) : Prop := JP Pg 51 (e51 r) 3 [(5, aI ij1), (0, .sl (List.map eGSpan l) .no), (1, aI n)]
theorem ref12_Reserved_j2_step (ij1 : Int) (l : (List GSpan)) (n : Int) (r : Bool) (hw : ID (ij1 < (l.length : Int)) (IX l ij1 fun y4=>ID (y4.From <= n) (IX l ij1 fun y6=>ID (n <= y6.To) (r = true) (ref12_Reserved_j2 (wI (ij1 + 1)) l n r)) (ref12_Reserved_j2 (wI (ij1 + 1)) l n r)) (r = false)) : ref12_Reserved_j2 ij1 l n r :=
 fJ hw<|KL 6 nGSpan l<|KW 3 (KI 8 nGSpan<|KW 5 (KI 3 nGSpan<|KW 6 (KR 11)<|KJ 9)<|KJ 20)<|KR 11
theorem ref12_Reserved_step (l : (List GSpan)) (n : Int) (r : Bool) (hw : ref12_Reserved_j2 0 l n r) : ref12_Reserved l n r :=
 fP hw<|KJ 13
def ref08_Check_j2 (ij1 : Int) (l : (List GNote)) (target : Int) (r : Int) : Prop := JP Pg 52 (e52 r) 6 [(5, aI ij1), (0, .sl (List.map eGNote l) .no), (1, aI target)]
theorem ref08_Check_j2_step (ij1 : Int) (l : (List GNote)) (target : Int) (r : Int) (hw : ID (ij1 < (l.length : Int)) (IX l ij1 fun y7=>∃ y8, ref08_Kind y7.Name y8 /\ (IF (y8 == 0) (r = 8) (IX l ij1 fun y9=>∃ y10, ref08_fits y9.Name target y10 /\ (IF (!y10) (r = 1) (IX l ij1 fun y11=>∃ y12, ref08_Right y11 y12 /\ (IF (!y12) (r = 12) (JN (fun bz1 : Bool=>IF bz1 (r = 11) (ID (0 < ij1) (IX l ij1 fun y17=>IX l (wI (ij1 - 1)) fun y18=>ID (y17.Name = y18.Name) (r = 9) (ref08_Check_j2 (wI (ij1 + 1)) l target r)) (ref08_Check_j2 (wI (ij1 + 1)) l target r))) fun R1=>ID (0 < ij1) (IX l ij1 fun y14=>IX l (wI (ij1 - 1)) fun y15=>R1 (Op.bytesLess y14.Name.toList y15.Name.toList)) (R1 false)))))))) (r = 0)) : ref08_Check_j2 ij1 l target r :=
 fJ hw<|KL 6 nGNote l<|KW 3 (KI 9 nGNote<|KC 2<|KW 3 (KR 12)<|KI 7 nGNote<|KC 3<|KW 3 (KR 12)<|KI 7 nGNote<|KC 1<|KW 3 (KR 12)<|KD 4 []<|KQ 3 14 kB (KW 2 (KR 12)<|KD 3 []<|KW 3 (KI 2 nGNote<|KI 5 nGNote<|KW 7 (KR 11)<|KJ 9)<|KJ 26) (fun key=>KI 2 nGNote<|KI 5 nGNote<|KE 5 key) fun key=>KE 14 key)<|KR 11
theorem ref08_Check_step (l : (List GNote)) (target : Int) (r : Int) (hw : ID (8 < (l.length : Int)) (r = 3) (ref08_Check_j2 0 l target r)) : ref08_Check l target r :=
 fP hw<|KL 9 nGNote l<|KW 3 (KR 7)<|KJ 10
def ref22_joined_j2 (ij1 : Int) (ij2 : Int) (g : GProg) (r : Bool) : Prop := J Pg 53 (.ret (e53 r)) 4 [(4, aI ij1), (3, aI ij2), (1, .ptr 0 0)] ⟨[some (eGProg g)], [], []⟩
theorem ref22_joined_j2_step (ij1 : Int) (ij2 : Int) (g : GProg) (r : Bool) (hw : ID (ij1 < (g.Ops.length : Int)) (IX g.Ops ij1 fun y2=>IF (y2.Union == ij2) (ref22_joined_j2 (wI (ij1 + 1)) (wI (ij2 + 1)) g r) (JN (fun bz1 : Bool=>IF bz1 (r = false) (ref22_joined_j2 (wI (ij1 + 1)) ij2 g r)) fun R1=>IF (y2.Union != (-1)) (IF (ij1 == 0) (R1 true) (IX g.Ops (wI (ij1 - 1)) fun y5=>R1 (y5.Union != y2.Union))) (R1 false))) (r = (g.Unions == ij2))) : ref22_joined_j2 ij1 ij2 g r :=
 fJ hw<|KL 7 nGOp g.Ops<|KW 3 (KI 9 nGOp<|KW 14 (KJ 14)<|KQ 5 14 kB (KW 3 (KR 12)<|KJ 10) (fun key=>KW 3 (KE 11 key)<|KI 4 nGOp<|KE 6 key) fun key=>KE 14 key)<|KR 15
theorem ref22_joined_step (g : GProg) (r : Bool) (hw : ref22_joined_j2 0 0 g r) : ref22_joined g r :=
 fP hw<|KJ 19
def ref22_operation_j2 (bj1 : Bool) (p : GPlan) (o_ : GOp) (r : Bool) : Prop := J Pg 54 (.ret (e54 r)) 5 [(5, aB bj1), (3, .ptr 1 0), (2, .ptr 0 0)] ⟨[some (eGPlan p), some (eGOp o_)], [], []⟩
theorem ref22_operation_j2_step (bj1 : Bool) (p : GPlan) (o_ : GOp) (r : Bool) (hw : JN (fun bz2 : Bool=>r = (bz2 && ((o_.Union == (-1)) || (o_.Card == 2)))) fun R2=>IF bj1 (∃ y3, ref22_target p o_ y3 /\ (R2 y3)) (R2 false)) : ref22_operation_j2 bj1 p o_ r :=
 fJ hw<|KQ 4 4 kB (fun {bz2}=>KT2 1 9 bz2 (fun z=>aB (z && ((o_.Union == (-1)) || (o_.Card == 2)))) (fun key=>KT 4 4<|KE2 1 key) (fun key=>KE2 9 key)<|KR 4) (fun key=>KC 2<|KE 1 key) fun key=>KE 4 key
theorem ref22_operation_step (p : GPlan) (o_ : GOp) (r : Bool) (hw : ∃ y1, ref03_Valid o_.Alias y1 /\ (IF ((((((!y1) || (decide (4096 < (o_.Alias.size : Int)))) || (decide (o_.Card < 1))) || (decide (5 < o_.Card))) || (decide (o_.Kind < 1))) || (decide (10 < o_.Kind))) (r = false) (IF (o_.Card != 5) (ref22_operation_j2 (o_.Key == 0) p o_ r) (ref22_operation_j2 (((decide (1 <= o_.Key)) && (decide (o_.Key <= 5))) || (o_.Key == 7)) p o_ r)))) : ref22_operation p o_ r :=
 fP hw<|KC 12<|KT 2 5<|KT 1 4<|KT 1 4<|KT 1 4<|KT 1 4<|KW 2 (KR 7)<|KT 8 4<|KT 1 4<|KW 11 (KJ 7)<|KJ 2
theorem math_bits_Mul_step (x : Int) (y : Int) (r : (Int × Int)) (hw : ∃ y1, math_bits_Mul64 x y y1 /\ (r = (y1.1, y1.2))) : math_bits_Mul x y r :=
 fP hw<|KC 14<|KR 16
theorem strings_HasPrefix_step (s : ByteArray) (prefix_ : ByteArray) (r : Bool) (hw : ∃ y1, internal_stringslite_HasPrefix s prefix_ y1 /\ (r = y1)) : strings_HasPrefix s prefix_ r :=
 fP hw<|KC 9<|KR 4
theorem scalar_lean_step (v : GValue) (r : Bool) (hw : ID (0 < (wI ((wI ((wI ((v.List_.length : Int) + (v.Pairs.length : Int))) + (v.Slots.length : Int))) + (v.Raws.length : Int)))) (r = false) (∃ y1, scalar_texty v.Kind y1 /\ (IF y1 (r = (v.Bits == 0)) (r = (decide (v.Text = (⟨#[]⟩ : ByteArray))))))) : scalar_lean v r :=
 fP hw<|KL 11 nGValue v.List_<|KL 2 nGPair v.Pairs<|KL 3 nGSlot v.Slots<|KL 3 nGRaw v.Raws<|KW 4 (KR 7)<|KC 7<|KW 2 (KR 10)<|KR 11
theorem scalar_within_step (kind : Int) (bits : Int) (r : Bool) (hw : IF (kind == 1) (r = (decide (bits <= 1))) (IF (kind == 2) (r = ((decide ((-2147483648) <= (wI bits))) && (decide ((wI bits) <= 2147483647)))) (IF (kind == 9) (r = (decide (bits <= 2147483647))) (IF (kind == 4) (r = (decide (bits <= 4294967295))) (r = true))))) : scalar_within kind bits r :=
 fP hw<|KW 33 (KR 23)<|KW 9 (KT 14 4<|KR 11)<|KW 9 (KR 27)<|KW 8 (KR 23)<|KR 19
theorem utf_Valid_step (s : ByteArray) (r : Bool) (hw : ∃ y1, utf_Bad s y1 /\ (r = (decide (y1 < 0)))) : utf_Valid s r :=
 fP hw<|KC 8<|KR 5
theorem strconv_FormatBool_step (b : Bool) (r : ByteArray) (hw : ∃ y1, internal_strconv_FormatBool b y1 /\ (r = y1)) : strconv_FormatBool b r :=
 fP hw<|KC 8<|KR 4
theorem scalar_double_step (mg : Int) (bits : Int) (r : ByteArray) (hw : ∃ y1, scalar_Class bits y1 /\ (IF (y1 == 0) (r = (⟨#[110, 97, 110]⟩ : ByteArray)) (IF ((y1 == 1) && ((bitsOf .and .u64 bits 9223372036854775808) != 0)) (r = (⟨#[45, 105, 110, 102]⟩ : ByteArray)) (IF (y1 == 1) (r = (⟨#[105, 110, 102]⟩ : ByteArray)) (∃ y2, strconv_FormatUint mg bits 16 y2 /\ (∃ y3, strings_Repeat (⟨#[48]⟩ : ByteArray) (wI (16 - (y2.size : Int))) y3 /\ (CT (⟨#[48, 120]⟩ : ByteArray) y3 (CT ((⟨#[48, 120]⟩ : ByteArray) ++ y3) y2 (r = (((⟨#[48, 120]⟩ : ByteArray) ++ y3) ++ y2)))))))))) : scalar_double mg bits r :=
 fP hw<|KC 9<|KW 11 (KR 8)<|KT 5 4<|KW 3 (KR 8)<|KW 7 (KR 8)<|KCg 6<|KC 8<|KCat 0<|KCat 1<|KR 4
def utf_Quote_j2 (s : ByteArray) (sj1 : ByteArray) (nj2 : Nat) (r : ByteArray) : Prop := J Pg 78 (.ret (e78 r)) 5 [(8, .ptr 1 0), (3, .ptr 0 0), (0, aS s)] ⟨[some [.ps 0 68, .bb (.own 0) (bE sj1) 5], some [.it s nj2]], [(sj1.size, 1)], []⟩
theorem utf_Quote_j2_step (s : ByteArray) (sj1 : ByteArray) (nj2 : Nat) (r : ByteArray) (hw : (nj2 < s.size -> ∃ y2, utf_form s ((nj2 : Nat) : Int) (Utf8.decode s nj2).1 y2 /\ (sj1.size + y2.size <= 140737488355328 /\ (utf_Quote_j2 s (sj1 ++ y2) (nj2 + (Utf8.decode s nj2).2) r))) /\ (¬ nj2 < s.size -> sj1.size + (⟨#[34]⟩ : ByteArray).size <= 140737488355328 /\ ((sj1 ++ (⟨#[34]⟩ : ByteArray)).size <= 140737488355328 /\ (r = (sj1 ++ (⟨#[34]⟩ : ByteArray)))))) : utf_Quote_j2 s sj1 nj2 r :=
 fJ hw<|KX 3 (KC 20<|KIl 0 28<|KCc 9 cc_ok<|KAb 10<|KRl 14<|KJ 3)<|KIl 12 28<|KCc 9 cc_ok<|KAb 10<|KRl 14<|KIl 4 31<|KD 6 [0]<|KUs 11<|KRl 4<|KR 4
theorem utf_Quote_step (s : ByteArray) (r : ByteArray) (hw : (⟨#[]⟩ : ByteArray).size + (⟨#[34]⟩ : ByteArray).size <= 140737488355328 /\ (utf_Quote_j2 s ((⟨#[]⟩ : ByteArray) ++ (⟨#[34]⟩ : ByteArray)) 0 r)) : utf_Quote s r :=
 fP hw<|KOB 11 0<|KIl 1 28<|KCc 9 cc_ok<|KAb 10<|KRl 14<|KJ 11
def utf_Hex_j2 (ij1 : Int) (s : ByteArray) (lj2 : (List Int)) (r : ByteArray) : Prop := J Pg 79 (.ret (e79 r)) 4 [(11, aI ij1), (10, aI (s.size : Int)), (3, .sl (List.map eI_u8 lj2) (.own 0)), (0, aS s)] ⟨[], [(lj2.length, 1)], []⟩
theorem utf_Hex_j2_step (ij1 : Int) (s : ByteArray) (lj2 : (List Int)) (r : ByteArray) (hw : ID (ij1 < (s.size : Int)) (SI s ij1 (SI (⟨#[48, 49, 50, 51, 52, 53, 54, 55, 56, 57, 97, 98, 99, 100, 101, 102]⟩ : ByteArray) ((byteAt s ij1.toNat).fdiv (2 ^ min (4 : Int).toNat IntKind.u8.bits)) (SI s ij1 (SI (⟨#[48, 49, 50, 51, 52, 53, 54, 55, 56, 57, 97, 98, 99, 100, 101, 102]⟩ : ByteArray) (bitsOf .and .u8 (byteAt s ij1.toNat) 15) ((lj2.length + [(byteAt (⟨#[48, 49, 50, 51, 52, 53, 54, 55, 56, 57, 97, 98, 99, 100, 101, 102]⟩ : ByteArray) ((byteAt s ij1.toNat).fdiv (2 ^ min (4 : Int).toNat IntKind.u8.bits)).toNat), (byteAt (⟨#[48, 49, 50, 51, 52, 53, 54, 55, 56, 57, 97, 98, 99, 100, 101, 102]⟩ : ByteArray) (bitsOf .and .u8 (byteAt s ij1.toNat) 15).toNat)].length) * 1 <= 140737488355328 /\ (utf_Hex_j2 (wI (ij1 + 1)) s (lj2 ++ [(byteAt (⟨#[48, 49, 50, 51, 52, 53, 54, 55, 56, 57, 97, 98, 99, 100, 101, 102]⟩ : ByteArray) ((byteAt s ij1.toNat).fdiv (2 ^ min (4 : Int).toNat IntKind.u8.bits)).toNat), (byteAt (⟨#[48, 49, 50, 51, 52, 53, 54, 55, 56, 57, 97, 98, 99, 100, 101, 102]⟩ : ByteArray) (bitsOf .and .u8 (byteAt s ij1.toNat) 15).toNat)]) r)))))) (∃ y2, lj2 = bI y2 /\ (r = y2))) : utf_Hex_j2 ij1 s lj2 r :=
 fJ hw<|KW 7 (KD 10 []<|KIS 3<|KIS 1<|KIS 2<|KIS 1<|KA 2 nI_u8 mE<|KJ 9)<|KS 8<|KR 4
theorem utf_Hex_step (s : ByteArray) (r : ByteArray) (hw : (0 <= (wI (2 * (s.size : Int))) /\ (wI (2 * (s.size : Int))) * 1 <= 140737488355328) /\ (utf_Hex_j2 0 s ([] : List Int) r)) : utf_Hex s r :=
 fP hw<|KM0 10 eI_u8<|KJ 13
theorem scalar_parseDouble_step (mg : Int) (s : ByteArray) (r : (GValue × Int)) (hw : ID (s = (⟨#[110, 97, 110]⟩ : ByteArray)) (r = ((⟨6, 9221120237041090560, ⟨#[]⟩, [], [], [], []⟩ : GValue), 0)) (ID (s = (⟨#[105, 110, 102]⟩ : ByteArray)) (r = ((⟨6, 9218868437227405312, ⟨#[]⟩, [], [], [], []⟩ : GValue), 0)) (ID (s = (⟨#[45, 105, 110, 102]⟩ : ByteArray)) (r = ((⟨6, 18442240474082181120, ⟨#[]⟩, [], [], [], []⟩ : GValue), 0)) (∃ y1, strings_TrimPrefix s (⟨#[48, 120]⟩ : ByteArray) y1 /\ (∃ y2, strconv_ParseUint mg y1 16 64 y2 /\ (JN (fun bz1 : Bool=>IF bz1 (r = ((⟨0, 0, ⟨#[]⟩, [], [], [], []⟩ : GValue), 2)) (r = ((⟨6, y2.1, ⟨#[]⟩, [], [], [], []⟩ : GValue), 0))) fun R1=>IF (nilB false y2.2) (R1 true) (∃ y3, scalar_double mg y2.1 y3 /\ (R1 (!(decide (y3 = s))))))))))) : scalar_parseDouble mg s r :=
 fP hw<|KW 26 (KR 14)<|KW 6 (KR 14)<|KW 6 (KR 14)<|KC 3<|KCg 0 fun {y2}=>KEn 11 false y2.2<|KQ 1 5 kB (KW 2 (KR 11)<|KR 17) (fun key=>KE 5 key) fun key=>KCg 1<|KE 3 key
theorem scalar_texty_step (kind : Int) (r : Bool) (hw : r = ((kind == 7) || (kind == 8))) : scalar_texty kind r :=
 fP hw<|KT 10 3<|KR 4
def scalar_parseText_j6 (sj4 : ByteArray) (kind : Int) (r : (GValue × Int)) : Prop := J Pg 83 (.ret (e83 r)) 8 [(8, aS sj4), (4, .ptr 0 0), (0, aI kind)] ⟨[some zV], [], []⟩
def scalar_parseText_j4 (bj2 : Bool) (sj3 : ByteArray) (kind : Int) (r : (GValue × Int)) : Prop := J Pg 83 (.ret (e83 r)) 2 [(7, aB bj2), (6, aS sj3), (4, .ptr 0 0), (0, aI kind)] ⟨[some zV], [], []⟩
theorem scalar_parseText_j6_step (sj4 : ByteArray) (kind : Int) (r : (GValue × Int)) (hw : JN (fun bz4 : Bool=>IF bz4 (r = ((⟨0, 0, ⟨#[]⟩, [], [], [], []⟩ : GValue), 7)) (ID (4096 < (sj4.size : Int)) (r = ((⟨0, 0, ⟨#[]⟩, [], [], [], []⟩ : GValue), 3)) (r = ((⟨kind, 0, sj4, [], [], [], []⟩ : GValue), 0)))) fun R4=>IF (kind == 7) (∃ y9, utf_Valid sj4 y9 /\ (R4 (!y9))) (R4 false)) : scalar_parseText_j6 sj4 kind r :=
 fJ hw<|KQ 7 4 kB (KW 3 (KR 10)<|KW 8 (KR 10)<|KR 13) (fun key=>KC 1<|KE 2 key) fun key=>KE 4 key
theorem scalar_parseText_j4_step (bj2 : Bool) (sj3 : ByteArray) (kind : Int) (r : (GValue × Int)) (hw : ∃ y6, scalar_quoted sj3 y6 /\ (IF ((!bj2) || (!y6.2)) (r = ((⟨0, 0, ⟨#[]⟩, [], [], [], []⟩ : GValue), 2)) (IF (kind == 8) (∃ y7, utf_Unhex y6.1 y7 /\ (IF (y7.2 != 0) (r = ((⟨0, 0, ⟨#[]⟩, [], [], [], []⟩ : GValue), y7.2)) (scalar_parseText_j6 y7.1 kind r))) (scalar_parseText_j6 y6.1 kind r)))) : scalar_parseText_j4 bj2 sj3 kind r :=
 fJ hw<|KC 3<|KT 13 3<|KW 2 (KR 9)<|KW 9 (KC 3<|KW 14 (KR 11)<|KJ 7)<|KJ 2
theorem scalar_parseText_step (kind : Int) (s : ByteArray) (r : (GValue × Int)) (hw : IF (kind == 8) (∃ y1, strings_CutPrefix s (⟨#[120]⟩ : ByteArray) y1 /\ (scalar_parseText_j4 y1.2 y1.1 kind r)) (scalar_parseText_j4 true s kind r)) : scalar_parseText kind s r :=
 fP hw<|KW 20 (KC 2<|KJ 7)<|KJ 2
theorem scalar_number_step (mg : Int) (kind : Int) (s : ByteArray) (r : (GValue × Int)) (hw : ∃ y1, scalar_decimal s y1 /\ (IF (!y1) (r = ((⟨0, 0, ⟨#[]⟩, [], [], [], []⟩ : GValue), 2)) (IF ((kind == 2) || (kind == 3)) (∃ y2, strconv_ParseInt mg s 10 64 y2 /\ (JN (fun bz2 : Bool=>IF bz2 (r = ((⟨0, 0, ⟨#[]⟩, [], [], [], []⟩ : GValue), 6)) (r = ((⟨kind, (wU y2.1), ⟨#[]⟩, [], [], [], []⟩ : GValue), 0))) fun R2=>IF (nilB false y2.2) (R2 true) (∃ y5, scalar_within kind (wU y2.1) y5 /\ (R2 (!y5))))) (∃ y3, strconv_ParseUint mg s 10 64 y3 /\ (JN (fun bz3 : Bool=>IF bz3 (r = ((⟨0, 0, ⟨#[]⟩, [], [], [], []⟩ : GValue), 6)) (r = ((⟨kind, y3.1, ⟨#[]⟩, [], [], [], []⟩ : GValue), 0))) fun R3=>IF (nilB false y3.2) (R3 true) (∃ y6, scalar_within kind y3.1 y6 /\ (R3 (!y6)))))))) : scalar_number mg kind s r :=
 fP hw<|KC 10<|KW 3 (KR 9)<|KT 21 3<|KW 2 (KCg 8 fun {y2}=>KEn 18 false y2.2<|KQ 1 6 kB (KW 2 (KR 9)<|KR 10) (fun key=>KE 6 key) fun key=>KC 3<|KE 2 key)<|KCg 2 fun {y3}=>KEn 12 false y3.2<|KQ 1 6 kB (KW 2 (KR 9)<|KR 10) (fun key=>KE 6 key) fun key=>KC 3<|KE 2 key
theorem internal_stringslite_CutPrefix_step (s : ByteArray) (prefix_ : ByteArray) (r : (ByteArray × Bool)) (hw : ∃ y1, internal_stringslite_HasPrefix s prefix_ y1 /\ (IF (!y1) (r = (s, false)) (SS s (prefix_.size : Int) (s.size : Int) (r = ((s.extract (prefix_.size : Int).toNat (s.size : Int).toNat), true))))) : internal_stringslite_CutPrefix s prefix_ r :=
 fP hw<|KC 11<|KW 3 (KR 9)<|KSS 7<|KR 5
theorem slices_ContainsFunc_LItem_Item_step (s : (List GItem)) (f : GFn) (r : Bool) (hw : ∃ y1, slices_IndexFunc_LItem_Item s f y1 /\ (r = (decide (0 <= y1)))) : slices_ContainsFunc_LItem_Item s f r :=
 fP hw<|KC 9<|KR 5
theorem ident_class_step (c : Int) (r : Int) (hw : IF ((decide (97 <= c)) && (decide (c <= 122))) (r = 1) (IF ((decide (65 <= c)) && (decide (c <= 90))) (r = 2) (IF ((decide (48 <= c)) && (decide (c <= 57))) (r = 3) (IF (c == 95) (r = 4) (r = 0))))) : ident_class c r :=
 fP hw<|KT 12 3<|KW 3 (KR 8)<|KT 5 3<|KW 3 (KR 8)<|KT 5 3<|KW 3 (KR 8)<|KW 7 (KR 8)<|KR 9
theorem ref04_Is_step (kind : Int) (r : Bool) (hw : r = ((decide (1 <= kind)) && (decide (kind <= 9)))) : ref04_Is kind r :=
 fP hw<|KT 10 3<|KR 4
def ref04_double_j2 (ij1 : Int) (y1 : (ByteArray × Int)) (ij2 : Int) (r : (GValue × Int)) : Prop := J Pg 90 (.ret (e90 r)) 19 [(7, aI ij1), (6, .ptr 1 0), (4, aS y1.1), (2, .ptr 0 0)] ⟨[some zV, some [aI 6, aU ij2, aE, .nil, .nil, .nil, .nil]], [], []⟩
theorem ref04_double_j2_step (ij1 : Int) (y1 : (ByteArray × Int)) (ij2 : Int) (r : (GValue × Int)) (hw : ID (ij1 < (y1.1.size : Int)) (SI y1.1 ij1 (ref04_double_j2 (wI (ij1 + 1)) y1 (wU ((wU (256 * ij2)) + (wU (byteAt y1.1 ij1.toNat)))) r)) (∃ y3, ref04_Class ij2 y3 /\ (ID (y3 <= 1) (r = ((⟨0, 0, ⟨#[]⟩, [], [], [], []⟩ : GValue), 2)) (r = ((⟨6, ij2, ⟨#[]⟩, [], [], [], []⟩ : GValue), 0))))) : ref04_double_j2 ij1 y1 ij2 r :=
 fJ hw<|KW 10 (KD 4 [1]<|KIS 5<|KJ 14)<|KC 10<|KW 3 (KR 9)<|KR 10
theorem ref04_double_step (s : ByteArray) (r : (GValue × Int)) (hw : ID (s = (⟨#[110, 97, 110]⟩ : ByteArray)) (r = ((⟨6, 9221120237041090560, ⟨#[]⟩, [], [], [], []⟩ : GValue), 0)) (ID (s = (⟨#[105, 110, 102]⟩ : ByteArray)) (r = ((⟨6, 9218868437227405312, ⟨#[]⟩, [], [], [], []⟩ : GValue), 0)) (ID (s = (⟨#[45, 105, 110, 102]⟩ : ByteArray)) (r = ((⟨6, 18442240474082181120, ⟨#[]⟩, [], [], [], []⟩ : GValue), 0)) (JN (fun bz1 : Bool=>IF bz1 (r = ((⟨0, 0, ⟨#[]⟩, [], [], [], []⟩ : GValue), 2)) (SS s (2 : Int) (s.size : Int) (∃ y1, ref03_Unhex (s.extract (2 : Int).toNat (s.size : Int).toNat) y1 /\ (IF (y1.2 != 0) (r = ((⟨0, 0, ⟨#[]⟩, [], [], [], []⟩ : GValue), 2)) (ref04_double_j2 0 y1 0 r))))) fun R1=>IF ((s.size : Int) != 18) (R1 true) (SS s (0 : Int) (2 : Int) (R1 (!(decide ((s.extract (0 : Int).toNat (2 : Int).toNat) = (⟨#[48, 120]⟩ : ByteArray)))))))))) : ref04_double s r :=
 fP hw<|KW 19 (KR 10)<|KW 6 (KR 10)<|KW 6 (KR 10)<|KQ 10 4 kB (KW 2 (KR 9)<|KSS 5<|KC 0<|KW 14 (KR 9)<|KJ 17) (fun key=>KE 4 key) fun key=>KSS 1<|KE 2 key
def ref04_text_j2 (sj1 : ByteArray) (kind : Int) (r : (GValue × Int)) : Prop := J Pg 91 (.ret (e91 r)) 5 [(6, aS sj1), (4, .ptr 0 0), (0, aI kind)] ⟨[some zV], [], []⟩
theorem ref04_text_j2_step (sj1 : ByteArray) (kind : Int) (r : (GValue × Int)) (hw : ID (4096 < (sj1.size : Int)) (r = ((⟨0, 0, ⟨#[]⟩, [], [], [], []⟩ : GValue), 3)) (r = ((⟨kind, 0, sj1, [], [], [], []⟩ : GValue), 0))) : ref04_text_j2 sj1 kind r :=
 fJ hw<|KW 8 (KR 9)<|KR 12
theorem ref04_text_step (kind : Int) (s : ByteArray) (r : (GValue × Int)) (hw : ∃ y1, ref03_Unquote s y1 /\ (IF ((y1.2.2 != 0) || (y1.2.1 != (s.size : Int))) (r = ((⟨0, 0, ⟨#[]⟩, [], [], [], []⟩ : GValue), 2)) (IF (kind == 8) (∃ y2, ref03_Unhex y1.1 y2 /\ (IF (y2.2 != 0) (r = ((⟨0, 0, ⟨#[]⟩, [], [], [], []⟩ : GValue), 2)) (ref04_text_j2 y2.1 kind r))) (∃ y3, ref03_Valid y1.1 y3 /\ (IF (!y3) (r = ((⟨0, 0, ⟨#[]⟩, [], [], [], []⟩ : GValue), 7)) (ref04_text_j2 y1.1 kind r)))))) : ref04_text kind s r :=
 fP hw<|KC 9<|KT 15 5<|KW 2 (KR 9)<|KW 9 (KC 3<|KW 13 (KR 9)<|KJ 2)<|KC 3<|KW 3 (KR 9)<|KJ 2
def ref04_whole_j2 (kind : Int) (ij1 : Int) (r : (GValue × Int)) : Prop := J Pg 92 (.ret (e92 r)) 9 [(9, .ptr 1 0), (4, .ptr 0 0), (0, aI kind)] ⟨[some zV, some [aI kind, aU ij1, aE, .nil, .nil, .nil, .nil]], [], []⟩
theorem ref04_whole_j2_step (kind : Int) (ij1 : Int) (r : (GValue × Int)) (hw : ∃ y5, ref04_Fits kind (⟨kind, ij1, ⟨#[]⟩, [], [], [], []⟩ : GValue) y5 /\ (IF (!y5) (r = ((⟨0, 0, ⟨#[]⟩, [], [], [], []⟩ : GValue), 6)) (r = ((⟨kind, ij1, ⟨#[]⟩, [], [], [], []⟩ : GValue), 0)))) : ref04_whole_j2 kind ij1 r :=
 fJ hw<|KC 5<|KW 3 (KR 9)<|KR 10
theorem ref04_whole_step (kind : Int) (s : ByteArray) (r : (GValue × Int)) (hw : ∃ y1, ref04_number s y1 /\ (IF (y1.2.2 != 0) (r = ((⟨0, 0, ⟨#[]⟩, [], [], [], []⟩ : GValue), y1.2.2)) (JN (fun bz1 : Bool=>JN (fun bz2 : Bool=>IF bz2 (r = ((⟨0, 0, ⟨#[]⟩, [], [], [], []⟩ : GValue), 6)) (IF y1.2.1 (ref04_whole_j2 kind (wU (0 - y1.1)) r) (ref04_whole_j2 kind y1.1 r))) fun R2=>IF bz1 (R2 true) (JN (fun bz3 : Bool=>R2 (bz3 && (decide (9223372036854775808 <= y1.1)))) fun R3=>IF (!y1.2.1) (∃ y3, ref04_signed kind y3 /\ (R3 y3)) (R3 false))) fun R1=>IF y1.2.1 (∃ y2, ref04_signed kind y2 /\ (R1 ((!y2) || (decide (9223372036854775808 < y1.1))))) (R1 false)))) : ref04_whole kind s r :=
 fP hw<|KC 9<|KW 16 (KR 10)<|KQ 7 8 kB (KQ 1 11 kB (KW 2 (KR 9)<|KW 17 (KJ 7)<|KJ 2) (fun key=>KE 11 key) fun key=>KQ 3 3 kB (KT 1 3<|KE 1 key) (fun key=>KC 1<|KE 1 key) fun key=>KE 3 key) (fun key=>KC 1<|KT 2 3<|KE 1 key) fun key=>KE 8 key
theorem ref06_small_step (b : Int) (r : Bool) (hw : r = ((decide (97 <= b)) && (decide (b <= 122)))) : ref06_small b r :=
 fP hw<|KT 10 3<|KR 4
theorem ref06_capital_step (b : Int) (r : Bool) (hw : r = ((decide (65 <= b)) && (decide (b <= 90)))) : ref06_capital b r :=
 fP hw<|KT 10 3<|KR 4
theorem ref04_lone_step (v : GValue) (r : Bool) (hw : r = (((((v.List_.length : Int) == 0) && ((v.Pairs.length : Int) == 0)) && ((v.Slots.length : Int) == 0)) && ((v.Raws.length : Int) == 0))) : ref04_lone v r :=
 fP hw<|KL 10 nGValue v.List_<|KT2 2 5 ((v.List_.length : Int) == 0) (fun z=>aB (z && ((v.Pairs.length : Int) == 0))) (fun key=>KL 2 nGPair v.Pairs<|KE2 2 key) (fun key=>KE2 5 key)<|KT2 1 5 (((v.List_.length : Int) == 0) && ((v.Pairs.length : Int) == 0)) (fun z=>aB (z && ((v.Slots.length : Int) == 0))) (fun key=>KL 2 nGSlot v.Slots<|KE2 2 key) (fun key=>KE2 5 key)<|KT2 1 5 ((((v.List_.length : Int) == 0) && ((v.Pairs.length : Int) == 0)) && ((v.Slots.length : Int) == 0)) (fun z=>aB (z && ((v.Raws.length : Int) == 0))) (fun key=>KL 2 nGRaw v.Raws<|KE2 2 key) (fun key=>KE2 5 key)<|KR 4
theorem ref04_texts_step (kind : Int) (r : Bool) (hw : r = ((kind == 7) || (kind == 8))) : ref04_texts kind r :=
 fP hw<|KT 10 3<|KR 4
theorem ref03_Valid_step (s : ByteArray) (r : Bool) (hw : ∃ y1, ref03_Bad s y1 /\ (r = (decide (y1 < 0)))) : ref03_Valid s r :=
 fP hw<|KC 8<|KR 5
def ref04_decimal_j2 (sj1 : ByteArray) (ij2 : Int) (r : ByteArray) : Prop := JP Pg 98 (e98 r) 3 [(3, aS sj1), (0, aU ij2)]
theorem ref04_decimal_j2_step (sj1 : ByteArray) (ij2 : Int) (r : ByteArray) (hw : ID (10 <= ij2) (∃ y3, ([(IntKind.u8.wrap (wU (48 + ((wU (ij2.tdiv 10)).tmod 10))))] : List Int) = bI y3 /\ (CT y3 sj1 (ref04_decimal_j2 (y3 ++ sj1) (wU (ij2.tdiv 10)) r))) (r = sj1)) : ref04_decimal_j2 sj1 ij2 r :=
 fJ hw<|KW 8 (KS 16<|KCat 1<|KJ 4)<|KR 12
theorem ref04_decimal_step (u : Int) (r : ByteArray) (hw : ∃ y1, ([(IntKind.u8.wrap (wU (48 + (u.tmod 10))))] : List Int) = bI y1 /\ (ref04_decimal_j2 y1 u r)) : ref04_decimal u r :=
 fP hw<|KS 12<|KJ 6
theorem ref04_Class_step (bits : Int) (r : Int) (hw : ID (9218868437227405312 < (bits.tmod 9223372036854775808)) (r = 0) (IF ((bits.tmod 9223372036854775808) == 9218868437227405312) (r = 1) (IF ((bits.tmod 9223372036854775808) == 0) (r = 2) (ID ((bits.tmod 9223372036854775808) < 4503599627370496) (r = 3) (r = 4))))) : ref04_Class bits r :=
 fP hw<|KW 21 (KR 8)<|KW 7 (KR 8)<|KW 7 (KR 8)<|KW 7 (KR 8)<|KR 9
def ref04_hex_j3 (ij4 : Int) (lj5 : (List Int)) (ij6 : Int) (r : ByteArray) : Prop := JP Pg 100 (e100 r) 4 [(4, aI ij4), (3, .sl (List.map eI_u8 lj5) .no), (0, aU ij6)]
theorem ref04_hex_j3_step (ij4 : Int) (lj5 : (List Int)) (ij6 : Int) (r : ByteArray) (hw : ID (ij4 < 8) ((lj5 = [] -> ([(IntKind.u8.wrap (ij6.tmod 256))] : List Int).length * 1 <= 140737488355328 /\ (ref04_hex_j3 (wI (ij4 + 1)) ([(IntKind.u8.wrap (ij6.tmod 256))] : List Int) (wU (ij6.tdiv 256)) r)) /\ (lj5 ≠ [] -> ([(IntKind.u8.wrap (ij6.tmod 256))].length + lj5.length) * 1 <= 140737488355328 /\ lj5 ≠ [] /\ (ref04_hex_j3 (wI (ij4 + 1)) ([(IntKind.u8.wrap (ij6.tmod 256))] ++ lj5) (wU (ij6.tdiv 256)) r))) (∃ y3, lj5 = bI y3 /\ (∃ y4, ref03_Hex y3 y4 /\ (r = y4)))) : ref04_hex_j3 ij4 lj5 ij6 r :=
 fJ hw<|KW 8 (vE lj5 (fun hb4=>KAe 11 nI_u8 hb4 mF xE<|KJz 16 [3]) fun hb4=>KAf 11 nI_u8 mF xE<|KJl 16 [3])<|KS 8<|KC 0<|KR 4
theorem ref04_hex_step (u : Int) (r : ByteArray) (hw : ref04_hex_j3 0 ([] : (List Int)) u r) : ref04_hex u r :=
 fP hw<|KJz 18 [3]
def ref03_Quote_j2 (ij1 : Int) (sj2 : ByteArray) (s : ByteArray) (r : ByteArray) : Prop := JP Pg 101 (e101 r) 4 [(4, aI ij1), (3, aS sj2), (0, aS s)]
theorem ref03_Quote_j2_step (ij1 : Int) (sj2 : ByteArray) (s : ByteArray) (r : ByteArray) (hw : ID (ij1 < (s.size : Int)) (∃ y3, ref03_Size s ij1 y3 /\ (SI s ij1 (IF ((byteAt s ij1.toNat) == 34) (CT sj2 (⟨#[92, 34]⟩ : ByteArray) (IF (y3 == 0) (ref03_Quote_j2 (wI (ij1 + 1)) (sj2 ++ (⟨#[92, 34]⟩ : ByteArray)) s r) (ref03_Quote_j2 (wI (ij1 + y3)) (sj2 ++ (⟨#[92, 34]⟩ : ByteArray)) s r))) (IF ((byteAt s ij1.toNat) == 92) (CT sj2 (⟨#[92, 92]⟩ : ByteArray) (IF (y3 == 0) (ref03_Quote_j2 (wI (ij1 + 1)) (sj2 ++ (⟨#[92, 92]⟩ : ByteArray)) s r) (ref03_Quote_j2 (wI (ij1 + y3)) (sj2 ++ (⟨#[92, 92]⟩ : ByteArray)) s r))) (IF ((byteAt s ij1.toNat) == 10) (CT sj2 (⟨#[92, 110]⟩ : ByteArray) (IF (y3 == 0) (ref03_Quote_j2 (wI (ij1 + 1)) (sj2 ++ (⟨#[92, 110]⟩ : ByteArray)) s r) (ref03_Quote_j2 (wI (ij1 + y3)) (sj2 ++ (⟨#[92, 110]⟩ : ByteArray)) s r))) (IF ((byteAt s ij1.toNat) == 9) (CT sj2 (⟨#[92, 116]⟩ : ByteArray) (IF (y3 == 0) (ref03_Quote_j2 (wI (ij1 + 1)) (sj2 ++ (⟨#[92, 116]⟩ : ByteArray)) s r) (ref03_Quote_j2 (wI (ij1 + y3)) (sj2 ++ (⟨#[92, 116]⟩ : ByteArray)) s r))) (IF ((byteAt s ij1.toNat) == 13) (CT sj2 (⟨#[92, 114]⟩ : ByteArray) (IF (y3 == 0) (ref03_Quote_j2 (wI (ij1 + 1)) (sj2 ++ (⟨#[92, 114]⟩ : ByteArray)) s r) (ref03_Quote_j2 (wI (ij1 + y3)) (sj2 ++ (⟨#[92, 114]⟩ : ByteArray)) s r))) (IF (((decide ((byteAt s ij1.toNat) < 32)) || ((byteAt s ij1.toNat) == 127)) || (y3 == 0)) (CT sj2 (⟨#[92, 120]⟩ : ByteArray) (∃ y4, ref03_pair (byteAt s ij1.toNat) y4 /\ (CT (sj2 ++ (⟨#[92, 120]⟩ : ByteArray)) y4 (IF (y3 == 0) (ref03_Quote_j2 (wI (ij1 + 1)) ((sj2 ++ (⟨#[92, 120]⟩ : ByteArray)) ++ y4) s r) (ref03_Quote_j2 (wI (ij1 + y3)) ((sj2 ++ (⟨#[92, 120]⟩ : ByteArray)) ++ y4) s r))))) (SS s ij1 (wI (ij1 + y3)) (CT sj2 (s.extract ij1.toNat (wI (ij1 + y3)).toNat) (IF (y3 == 0) (ref03_Quote_j2 (wI (ij1 + 1)) (sj2 ++ (s.extract ij1.toNat (wI (ij1 + y3)).toNat)) s r) (ref03_Quote_j2 (wI (ij1 + y3)) (sj2 ++ (s.extract ij1.toNat (wI (ij1 + y3)).toNat)) s r)))))))))))) (CT sj2 (⟨#[34]⟩ : ByteArray) (r = (sj2 ++ (⟨#[34]⟩ : ByteArray))))) : ref03_Quote_j2 ij1 sj2 s r :=
 fJ hw<|KW 10 (KC 7<|KIS 7<|KW 12 (KCat 2<|KW 11 (KJ 12)<|KJ 10)<|KW 7 (KCat 2<|KW 11 (KJ 12)<|KJ 10)<|KW 7 (KCat 2<|KW 11 (KJ 12)<|KJ 10)<|KW 7 (KCat 2<|KW 11 (KJ 12)<|KJ 10)<|KW 7 (KCat 2<|KW 11 (KJ 12)<|KJ 10)<|KT 5 3<|KT 1 3<|KW 3 (KCat 2<|KC 1<|KCat 0<|KW 11 (KJ 12)<|KJ 10)<|KSS 7<|KCat 0<|KW 11 (KJ 12)<|KJ 10)<|KCat 8<|KR 4
theorem ref03_Quote_step (s : ByteArray) (r : ByteArray) (hw : ref03_Quote_j2 0 (⟨#[34]⟩ : ByteArray) s r) : ref03_Quote s r :=
 fP hw<|KJ 18
def ref03_Hex_j2 (ij1 : Int) (sj2 : ByteArray) (s : ByteArray) (r : ByteArray) : Prop := JP Pg 102 (e102 r) 4 [(4, aI ij1), (3, aS sj2), (0, aS s)]
theorem ref03_Hex_j2_step (ij1 : Int) (sj2 : ByteArray) (s : ByteArray) (r : ByteArray) (hw : ID (ij1 < (s.size : Int)) (SI s ij1 (∃ y2, ref03_pair (byteAt s ij1.toNat) y2 /\ (CT sj2 y2 (ref03_Hex_j2 (wI (ij1 + 1)) (sj2 ++ y2) s r)))) (r = sj2)) : ref03_Hex_j2 ij1 sj2 s r :=
 fJ hw<|KW 10 (KIS 8<|KC 0<|KCat 0<|KJ 10)<|KR 12
theorem ref03_Hex_step (s : ByteArray) (r : ByteArray) (hw : ref03_Hex_j2 0 (⟨#[]⟩ : ByteArray) s r) : ref03_Hex s r :=
 fP hw<|KJ 18
def ref06_IsFull_j2 (ij1 : Int) (sj2 : ByteArray) (s : ByteArray) (r : Bool) : Prop := JP Pg 103 (e103 r) 7 [(4, aI ij1), (3, aS sj2), (0, aS s)]
theorem ref06_IsFull_j2_step (ij1 : Int) (sj2 : ByteArray) (s : ByteArray) (r : Bool) (hw : ID (ij1 < (s.size : Int)) (SI s ij1 (IF ((byteAt s ij1.toNat) != 46) (SS s ij1 (wI (ij1 + 1)) (CT sj2 (s.extract ij1.toNat (wI (ij1 + 1)).toNat) (ref06_IsFull_j2 (wI (ij1 + 1)) (sj2 ++ (s.extract ij1.toNat (wI (ij1 + 1)).toNat)) s r))) (∃ y4, ref06_IsPart sj2 y4 /\ (IF (!y4) (r = false) (ref06_IsFull_j2 (wI (ij1 + 1)) (⟨#[]⟩ : ByteArray) s r))))) (∃ y3, ref06_IsPart sj2 y3 /\ (r = y3))) : ref06_IsFull_j2 ij1 sj2 s r :=
 fJ hw<|KW 10 (KIS 9<|KW 3 (KSS 7<|KCat 0<|KJ 13)<|KC 6<|KW 3 (KR 12)<|KJ 13)<|KC 8<|KR 4
theorem ref06_IsFull_step (s : ByteArray) (r : Bool) (hw : ID (120 < (s.size : Int)) (r = false) (ref06_IsFull_j2 0 (⟨#[]⟩ : ByteArray) s r)) : ref06_IsFull s r :=
 fP hw<|KW 13 (KR 7)<|KJ 15
def ref06_Split_j2 (ij1 : Int) (full : ByteArray) (r : (ByteArray × ByteArray)) : Prop := JP Pg 104 (e104 r) 3 [(4, aI ij1), (0, aS full)]
theorem ref06_Split_j2_step (ij1 : Int) (full : ByteArray) (r : (ByteArray × ByteArray)) (hw : ID (0 <= ij1) (SI full ij1 (IF ((byteAt full ij1.toNat) == 46) (SS full (0 : Int) ij1 (SS full (wI (ij1 + 1)) (full.size : Int) (r = ((full.extract (0 : Int).toNat ij1.toNat), (full.extract (wI (ij1 + 1)).toNat (full.size : Int).toNat))))) (ref06_Split_j2 (wI (ij1 - 1)) full r))) (r = ((⟨#[]⟩ : ByteArray), full))) : ref06_Split_j2 ij1 full r :=
 fJ hw<|KW 8 (KIS 8<|KW 3 (KD 1 []<|KSS 2<|KSS 3<|KR 11)<|KJ 9)<|KR 13
theorem ref06_Split_step (full : ByteArray) (r : (ByteArray × ByteArray)) (hw : ref06_Split_j2 (wI ((full.size : Int) - 1)) full r) : ref06_Split full r :=
 fP hw<|KJ 17
end
section
attribute [local irreducible] Ok run put putH br jn pos dr0 So
attribute [-simp] List.map_take List.map_drop List.map_append List.map_set List.map_replicate List.map_cons List.map_map
attribute [local simp] plain plainL lowE lowB keepB low lowL lowLL plm_I_i8 plm_I_i16 plm_I_i32 plm_I_i64 plm_I_u8 plm_I_u16 plm_I_u32 plm_I_u64 plm_Bool plm_Str gfn_fi gfn_cap plm_Fn pl_GOp plm_GOp pl_GProg plm_GProg pl_GRaw plm_GRaw pl_GValue plm_GValue pl_GPair plm_GPair pl_GSlot plm_GSlot pl_GNote plm_GNote pl_GItem plm_GItem pl_GSpan plm_GSpan pl_GEnum plm_GEnum pl_GPlan plm_GPlan pl_Gleaf plm_Gleaf pl_Gopening plm_Gopening pl_Gclosing plm_Gclosing pl_Gparts plm_Gparts pl_Any eI_i8 eI_i16 eI_i32 eI_i64 eI_u8 eI_u16 eI_u32 eI_u64 eBool eStr eFn lwr_Bool lwm_I_u8 lwm_GItem lwc_GEnum lwc_GPlan
theorem ref06_IsWord_step (s : ByteArray) (r : Bool) (hw : ID (s = (⟨#[109, 101, 115, 115, 97, 103, 101]⟩ : ByteArray)) (r = true) (ID (s = (⟨#[101, 110, 117, 109]⟩ : ByteArray)) (r = true) (ID (s = (⟨#[115, 101, 114, 118, 105, 99, 101]⟩ : ByteArray)) (r = true) (ID (s = (⟨#[117, 110, 105, 111, 110]⟩ : ByteArray)) (r = true) (ID (s = (⟨#[109, 97, 112]⟩ : ByteArray)) (r = true) (ID (s = (⟨#[108, 105, 115, 116]⟩ : ByteArray)) (r = true) (ID (s = (⟨#[114, 101, 113, 117, 105, 114, 101, 100]⟩ : ByteArray)) (r = true) (ID (s = (⟨#[111, 112, 116, 105, 111, 110, 97, 108]⟩ : ByteArray)) (r = true) (ID (s = (⟨#[112, 108, 97, 105, 110]⟩ : ByteArray)) (r = true) (ID (s = (⟨#[100, 101, 102, 97, 117, 108, 116]⟩ : ByteArray)) (r = true) (ID (s = (⟨#[114, 101, 115, 101, 114, 118, 101, 100]⟩ : ByteArray)) (r = true) (ID (s = (⟨#[105, 109, 112, 111, 114, 116]⟩ : ByteArray)) (r = true) (ID (s = (⟨#[115, 112, 97, 99, 101]⟩ : ByteArray)) (r = true) (ID (s = (⟨#[114, 112, 99]⟩ : ByteArray)) (r = true) (ID (s = (⟨#[115, 116, 114, 101, 97, 109]⟩ : ByteArray)) (r = true) (ID (s = (⟨#[114, 101, 116, 117, 114, 110, 115]⟩ : ByteArray)) (r = true) (ID (s = (⟨#[111, 112, 101, 110]⟩ : ByteArray)) (r = true) (ID (s = (⟨#[116, 114, 117, 101]⟩ : ByteArray)) (r = true) (ID (s = (⟨#[102, 97, 108, 115, 101]⟩ : ByteArray)) (r = true) (ID (s = (⟨#[110, 97, 110]⟩ : ByteArray)) (r = true) (ID (s = (⟨#[105, 110, 102]⟩ : ByteArray)) (r = true) (r = false)))))))))))))))))))))) : ref06_IsWord s r :=
 fP hw<|KWh 19 (fun hb1=>KKn 2 hb1<|KR 8) fun hb1=>KWh 6 (fun hb2=>KKn 2 hb2<|KR 8) fun hb2=>KWh 6 (fun hb3=>KKn 2 hb3<|KR 8) fun hb3=>KWh 6 (fun hb4=>KKn 2 hb4<|KR 8) fun hb4=>KWh 6 (fun hb5=>KKn 2 hb5<|KR 8) fun hb5=>KWh 6 (fun hb6=>KKn 2 hb6<|KR 8) fun hb6=>KWh 6 (fun hb7=>KKn 2 hb7<|KR 8) fun hb7=>KWh 6 (fun hb8=>KKn 2 hb8<|KR 8) fun hb8=>KWh 6 (fun hb9=>KKn 2 hb9<|KR 8) fun hb9=>KWh 6 (fun hb10=>KKn 2 hb10<|KR 8) fun hb10=>KWh 6 (fun hb11=>KKn 2 hb11<|KR 8) fun hb11=>KWh 6 (fun hb12=>KKn 2 hb12<|KR 8) fun hb12=>KWh 6 (fun hb13=>KKn 2 hb13<|KR 8) fun hb13=>KWh 6 (fun hb14=>KKn 2 hb14<|KR 8) fun hb14=>KWh 6 (fun hb15=>KKn 2 hb15<|KR 8) fun hb15=>KWh 6 (fun hb16=>KKn 2 hb16<|KR 8) fun hb16=>KWh 6 (fun hb17=>KKn 2 hb17<|KR 8) fun hb17=>KWh 6 (fun hb18=>KKn 2 hb18<|KR 8) fun hb18=>KWh 6 (fun hb19=>KKn 2 hb19<|KR 8) fun hb19=>KWh 6 (fun hb20=>KKn 2 hb20<|KR 8) fun hb20=>KW 5 (KR 8)<|KR 9
def ref08_Kind_j14 (bj7 : Bool) (name : ByteArray) (r : Int) : Prop := JP Pg 106 (e106 r) 12 [(13, aB bj7), (3, aS name)]
def ref08_Kind_j12 (bj6 : Bool) (name : ByteArray) (r : Int) : Prop := JP Pg 106 (e106 r) 7 [(8, aB bj6), (3, aS name)]
def ref08_Kind_j8 (bj4 : Bool) (name : ByteArray) (r : Int) : Prop := JP Pg 106 (e106 r) 3 [(4, aB bj4), (3, aS name)]
theorem ref08_Kind_j14_step (bj7 : Bool) (name : ByteArray) (r : Int) (hw : IF bj7 (r = 4) (ID (name = (⟨#[109, 105, 110]⟩ : ByteArray)) (r = 3) (ID (name = (⟨#[109, 97, 120]⟩ : ByteArray)) (r = 3) (r = 0)))) : ref08_Kind_j14 bj7 name r :=
 fJ hw<|KW 0 (KR 8)<|KWh 7 (fun hb49=>KKn 2 hb49<|KR 8) fun hb49=>KW 5 (KR 8)<|KR 9
theorem ref08_Kind_j12_step (bj6 : Bool) (name : ByteArray) (r : Int) (hw : IF bj6 (r = 7) (ID (name = (⟨#[115, 105, 110, 99, 101]⟩ : ByteArray)) (ref08_Kind_j14 (decide (name = (⟨#[115, 105, 110, 99, 101]⟩ : ByteArray))) name r) (ID (name = (⟨#[117, 110, 116, 105, 108]⟩ : ByteArray)) (ref08_Kind_j14 (decide (name = (⟨#[117, 110, 116, 105, 108]⟩ : ByteArray))) name r) (ID (name = (⟨#[108, 101, 110, 103, 116, 104]⟩ : ByteArray)) (ref08_Kind_j14 (decide (name = (⟨#[108, 101, 110, 103, 116, 104]⟩ : ByteArray))) name r) (ref08_Kind_j14 (decide (name = (⟨#[116, 105, 109, 101, 111, 117, 116]⟩ : ByteArray))) name r))))) : ref08_Kind_j12 bj6 name r :=
 fJ hw<|KW 0 (KR 8)<|KW 7 (KJ 2)<|KW 6 (KJ 2)<|KW 6 (KJ 2)<|KJ 5
theorem ref08_Kind_j8_step (bj4 : Bool) (name : ByteArray) (r : Int) (hw : IF bj4 (r = 1) (ID (name = (⟨#[100, 111, 99]⟩ : ByteArray)) (ref08_Kind_j12 (decide (name = (⟨#[100, 111, 99]⟩ : ByteArray))) name r) (ID (name = (⟨#[97, 108, 105, 97, 115]⟩ : ByteArray)) (ref08_Kind_j12 (decide (name = (⟨#[97, 108, 105, 97, 115]⟩ : ByteArray))) name r) (ID (name = (⟨#[114, 111, 117, 116, 101]⟩ : ByteArray)) (ref08_Kind_j12 (decide (name = (⟨#[114, 111, 117, 116, 101]⟩ : ByteArray))) name r) (ref08_Kind_j12 (decide (name = (⟨#[111, 119, 110, 101, 114]⟩ : ByteArray))) name r))))) : ref08_Kind_j8 bj4 name r :=
 fJ hw<|KW 0 (KR 8)<|KW 7 (KJ 2)<|KW 6 (KJ 2)<|KW 6 (KJ 2)<|KJ 5
theorem ref08_Kind_step (name : ByteArray) (r : Int) (hw : ID (name = (⟨#[100, 101, 112, 114, 101, 99, 97, 116, 101, 100]⟩ : ByteArray)) (ref08_Kind_j8 (decide (name = (⟨#[100, 101, 112, 114, 101, 99, 97, 116, 101, 100]⟩ : ByteArray))) name r) (ID (name = (⟨#[115, 101, 99, 114, 101, 116]⟩ : ByteArray)) (ref08_Kind_j8 (decide (name = (⟨#[115, 101, 99, 114, 101, 116]⟩ : ByteArray))) name r) (ref08_Kind_j8 (decide (name = (⟨#[105, 100, 101, 109, 112, 111, 116, 101, 110, 116]⟩ : ByteArray))) name r))) : ref08_Kind name r :=
 fP hw<|KW 19 (KJ 2)<|KW 6 (KJ 2)<|KJ 5
def ref08_fits_j30 (bj15 : Bool) (target : Int) (r : Bool) : Prop := JP Pg 107 (e107 r) 15 [(36, aB bj15), (1, aI target)]
def ref08_fits_j28 (bj14 : Bool) (name : ByteArray) (target : Int) (r : Bool) : Prop := JP Pg 107 (e107 r) 10 [(29, aB bj14), (5, aS name), (1, aI target)]
def ref08_fits_j24 (bj12 : Bool) (name : ByteArray) (target : Int) (r : Bool) : Prop := JP Pg 107 (e107 r) 6 [(15, aB bj12), (5, aS name), (1, aI target)]
def ref08_fits_j16 (bj8 : Bool) (name : ByteArray) (target : Int) (r : Bool) : Prop := JP Pg 107 (e107 r) 3 [(6, aB bj8), (5, aS name), (1, aI target)]
theorem ref08_fits_j30_step (bj15 : Bool) (target : Int) (r : Bool) (hw : IF bj15 (r = (target == 6)) (r = ((target == 1) || (target == 5)))) : ref08_fits_j30 bj15 target r :=
 fJ hw<|KW 0 (KR 10)<|KT 8 3<|KR 4
theorem ref08_fits_j28_step (bj14 : Bool) (name : ByteArray) (target : Int) (r : Bool) (hw : IF bj14 (r = (target == 2)) (ID (name = (⟨#[105, 100, 101, 109, 112, 111, 116, 101, 110, 116]⟩ : ByteArray)) (ref08_fits_j30 (decide (name = (⟨#[105, 100, 101, 109, 112, 111, 116, 101, 110, 116]⟩ : ByteArray))) target r) (ID (name = (⟨#[116, 105, 109, 101, 111, 117, 116]⟩ : ByteArray)) (ref08_fits_j30 (decide (name = (⟨#[116, 105, 109, 101, 111, 117, 116]⟩ : ByteArray))) target r) (ref08_fits_j30 (decide (name = (⟨#[114, 111, 117, 116, 101]⟩ : ByteArray))) target r)))) : ref08_fits_j28 bj14 name target r :=
 fJ hw<|KW 0 (KR 10)<|KW 7 (KJ 2)<|KW 6 (KJ 2)<|KJ 5
theorem ref08_fits_j24_step (bj12 : Bool) (name : ByteArray) (target : Int) (r : Bool) (hw : IF bj12 (r = (((target == 2) || (target == 4)) || (target == 6))) (ID (name = (⟨#[109, 105, 110]⟩ : ByteArray)) (ref08_fits_j28 (decide (name = (⟨#[109, 105, 110]⟩ : ByteArray))) name target r) (ID (name = (⟨#[109, 97, 120]⟩ : ByteArray)) (ref08_fits_j28 (decide (name = (⟨#[109, 97, 120]⟩ : ByteArray))) name target r) (ID (name = (⟨#[108, 101, 110, 103, 116, 104]⟩ : ByteArray)) (ref08_fits_j28 (decide (name = (⟨#[108, 101, 110, 103, 116, 104]⟩ : ByteArray))) name target r) (ref08_fits_j28 (decide (name = (⟨#[115, 101, 99, 114, 101, 116]⟩ : ByteArray))) name target r))))) : ref08_fits_j24 bj12 name target r :=
 fJ hw<|KW 0 (KT 5 3<|KT 1 3<|KR 6)<|KW 7 (KJ 2)<|KW 6 (KJ 2)<|KW 6 (KJ 2)<|KJ 5
theorem ref08_fits_j16_step (bj8 : Bool) (name : ByteArray) (target : Int) (r : Bool) (hw : IF bj8 (r = ((decide (1 <= target)) && (decide (target <= 6)))) (ID (name = (⟨#[97, 108, 105, 97, 115]⟩ : ByteArray)) (ref08_fits_j24 (decide (name = (⟨#[97, 108, 105, 97, 115]⟩ : ByteArray))) name target r) (ID (name = (⟨#[115, 105, 110, 99, 101]⟩ : ByteArray)) (ref08_fits_j24 (decide (name = (⟨#[115, 105, 110, 99, 101]⟩ : ByteArray))) name target r) (ref08_fits_j24 (decide (name = (⟨#[117, 110, 116, 105, 108]⟩ : ByteArray))) name target r)))) : ref08_fits_j16 bj8 name target r :=
 fJ hw<|KW 0 (KT 5 3<|KR 6)<|KW 7 (KJ 2)<|KW 6 (KJ 2)<|KJ 5
theorem ref08_fits_step (name : ByteArray) (target : Int) (r : Bool) (hw : ID (name = (⟨#[100, 101, 112, 114, 101, 99, 97, 116, 101, 100]⟩ : ByteArray)) (ref08_fits_j16 (decide (name = (⟨#[100, 101, 112, 114, 101, 99, 97, 116, 101, 100]⟩ : ByteArray))) name target r) (ref08_fits_j16 (decide (name = (⟨#[100, 111, 99]⟩ : ByteArray))) name target r)) : ref08_fits name target r :=
 fP hw<|KW 19 (KJ 2)<|KJ 5
theorem ref08_Right_step (n : GNote) (r : Bool) (hw : ∃ y1, ref08_Kind n.Name y1 /\ (IF ((y1 != 0) && (n.Val.Kind == y1)) (∃ y2, ref04_Fits y1 n.Val y2 /\ (r = y2)) (r = false))) : ref08_Right n r :=
 fP hw<|KC 10<|KT 8 6<|KW 1 (KC 3<|KR 5)<|KR 9
theorem ref22_target_step (p : GPlan) (o_ : GOp) (r : Bool) (hw : IF (o_.Kind == 10) (r = (((decide (0 <= o_.Target)) && (decide (o_.Target < (p.Progs.length : Int)))) && (o_.Card != 3))) (IF (o_.Kind == 9) (r = ((decide (0 <= o_.Target)) && (decide (o_.Target < (p.Enums.length : Int))))) (r = (o_.Target == (-1))))) : ref22_target p o_ r :=
 fP hw<|KW 21 (KT2 6 7 (decide (0 <= o_.Target)) (fun z=>aB (z && (decide (o_.Target < (p.Progs.length : Int))))) (fun key=>KL 4 nGProg p.Progs<|KE2 2 key) (fun key=>KE2 7 key)<|KT 1 4<|KR 6)<|KW 6 (KT2 6 7 (decide (0 <= o_.Target)) (fun z=>aB (z && (decide (o_.Target < (p.Enums.length : Int))))) (fun key=>KL 4 nGEnum p.Enums<|KE2 2 key) (fun key=>KE2 7 key)<|KR 6)<|KR 12
theorem math_bits_Mul64_step (x : Int) (y : Int) (r : (Int × Int)) (hw : r = ((wU ((wU ((wU ((x.fdiv (2 ^ min (32 : Int).toNat IntKind.u64.bits)) * (y.fdiv (2 ^ min (32 : Int).toNat IntKind.u64.bits)))) + ((wU ((wU ((x.fdiv (2 ^ min (32 : Int).toNat IntKind.u64.bits)) * (bitsOf .and .u64 y 4294967295))) + ((wU ((bitsOf .and .u64 x 4294967295) * (bitsOf .and .u64 y 4294967295))).fdiv (2 ^ min (32 : Int).toNat IntKind.u64.bits)))).fdiv (2 ^ min (32 : Int).toNat IntKind.u64.bits)))) + ((wU ((bitsOf .and .u64 (wU ((wU ((x.fdiv (2 ^ min (32 : Int).toNat IntKind.u64.bits)) * (bitsOf .and .u64 y 4294967295))) + ((wU ((bitsOf .and .u64 x 4294967295) * (bitsOf .and .u64 y 4294967295))).fdiv (2 ^ min (32 : Int).toNat IntKind.u64.bits)))) 4294967295) + (wU ((bitsOf .and .u64 x 4294967295) * (y.fdiv (2 ^ min (32 : Int).toNat IntKind.u64.bits)))))).fdiv (2 ^ min (32 : Int).toNat IntKind.u64.bits)))), (wU (x * y)))) : math_bits_Mul64 x y r :=
 fP hw<|KR 99
theorem internal_stringslite_HasPrefix_step (s : ByteArray) (prefix_ : ByteArray) (r : Bool) (hw : ID ((prefix_.size : Int) <= (s.size : Int)) (SS s (0 : Int) (prefix_.size : Int) (r = (decide ((s.extract (0 : Int).toNat (prefix_.size : Int).toNat) = prefix_)))) (r = false)) : internal_stringslite_HasPrefix s prefix_ r :=
 fP hw<|KW 13 (KSS 3<|KR 7)<|KR 11
def utf_Bad_j2 (s : ByteArray) (nj1 : Nat) (r : Int) : Prop := J Pg 139 (.ret (e139 r)) 3 [(6, .ptr 0 0), (0, aS s)] ⟨[some [.it s nj1]], [], []⟩
theorem utf_Bad_j2_step (s : ByteArray) (nj1 : Nat) (r : Int) (hw : (nj1 < s.size -> ∃ y2, utf_wrong s ((nj1 : Nat) : Int) (Utf8.decode s nj1).1 y2 /\ (IF y2 (r = ((nj1 : Nat) : Int)) (utf_Bad_j2 s (nj1 + (Utf8.decode s nj1).2) r))) /\ (¬ nj1 < s.size -> r = (-1))) : utf_Bad_j2 s nj1 r :=
 fJ hw<|KX 3 (KC 21<|KW 2 (KR 11)<|KJ 3)<|KR 16
theorem utf_Bad_step (s : ByteArray) (r : Int) (hw : utf_Bad_j2 s 0 r) : utf_Bad s r :=
 fP hw<|KJ 14
theorem internal_strconv_FormatBool_step (b : Bool) (r : ByteArray) (hw : IF b (r = (⟨#[116, 114, 117, 101]⟩ : ByteArray)) (r = (⟨#[102, 97, 108, 115, 101]⟩ : ByteArray))) : internal_strconv_FormatBool b r :=
 fP hw<|KW 11 (KR 7)<|KR 8
theorem scalar_Class_step (bits : Int) (r : Int) (hw : IF (((bitsOf .and .u64 bits 9218868437227405312) == 9218868437227405312) && ((bitsOf .and .u64 bits 4503599627370495) != 0)) (r = 0) (IF ((bitsOf .and .u64 bits 9218868437227405312) == 9218868437227405312) (r = 1) (IF (((bitsOf .and .u64 bits 9218868437227405312) == 0) && ((bitsOf .and .u64 bits 4503599627370495) == 0)) (r = 2) (IF ((bitsOf .and .u64 bits 9218868437227405312) == 0) (r = 3) (r = 4))))) : scalar_Class bits r :=
 fP hw<|KT 22 3<|KW 3 (KR 8)<|KW 7 (KR 8)<|KT 5 3<|KW 3 (KR 8)<|KW 7 (KR 8)<|KR 9
theorem utf_form_step (s : ByteArray) (at_ : Int) (c : Int) (r : ByteArray) (hw : IF (c == 34) (r = (⟨#[92, 34]⟩ : ByteArray)) (IF (c == 92) (r = (⟨#[92, 92]⟩ : ByteArray)) (IF (c == 10) (r = (⟨#[92, 110]⟩ : ByteArray)) (IF (c == 9) (r = (⟨#[92, 116]⟩ : ByteArray)) (IF (c == 13) (r = (⟨#[92, 114]⟩ : ByteArray)) (JN (fun bz1 : Bool=>IF bz1 (SI s at_ (∃ y2, utf_escape (byteAt s at_.toNat) y2 /\ (r = y2))) (r = (Utf8.encode c))) fun R1=>IF ((decide (c < 32)) || (c == 127)) (R1 true) (∃ y1, utf_wrong s at_ c y1 /\ (R1 y1)))))))) : utf_form s at_ c r :=
 fP hw<|KW 14 (KR 8)<|KW 7 (KR 8)<|KW 7 (KR 8)<|KW 7 (KR 8)<|KW 7 (KR 8)<|KT 5 3<|KQ 1 5 kB (KW 3 (KIS 4<|KC 0<|KR 6)<|KR 11) (fun key=>KE 5 key) fun key=>KC 3<|KE 1 key
theorem strings_TrimPrefix_step (s : ByteArray) (prefix_ : ByteArray) (r : ByteArray) (hw : ∃ y1, internal_stringslite_TrimPrefix s prefix_ y1 /\ (r = y1)) : strings_TrimPrefix s prefix_ r :=
 fP hw<|KC 9<|KR 4
theorem scalar_quoted_step (s : ByteArray) (r : (ByteArray × Bool)) (hw : ∃ y1, utf_Unquote s y1 /\ (r = (y1.1, ((y1.2.2 == 0) && (y1.2.1 == (s.size : Int)))))) : scalar_quoted s r :=
 fP hw<|KC 9<|KT 15 5<|KR 5
def utf_Unhex_j2 (ij1 : Int) (lj2 : (List Int)) (s : ByteArray) (r : (ByteArray × Int)) : Prop := J Pg 148 (.ret (e148 r)) 7 [(5, aI ij1), (4, .sl (List.map eI_u8 lj2) (.own 0)), (0, aS s)] ⟨[], [(lj2.length, 1)], []⟩
theorem utf_Unhex_j2_step (ij1 : Int) (lj2 : (List Int)) (s : ByteArray) (r : (ByteArray × Int)) (hw : ID (ij1 < (s.size : Int)) (SI s ij1 (∃ y5, utf_value (byteAt s ij1.toNat) y5 /\ (SI s (wI (ij1 + 1)) (∃ y6, utf_value (byteAt s (wI (ij1 + 1)).toNat) y6 /\ (IF ((decide (y5 < 0)) || (decide (y6 < 0))) (r = ((⟨#[]⟩ : ByteArray), 2)) ((lj2.length + [(IntKind.u8.wrap (bitsOf .or .i64 (wI (y5 * 2 ^ min (4 : Int).toNat IntKind.i64.bits)) y6))].length) * 1 <= 140737488355328 /\ (utf_Unhex_j2 (wI (ij1 + 2)) (lj2 ++ [(IntKind.u8.wrap (bitsOf .or .i64 (wI (y5 * 2 ^ min (4 : Int).toNat IntKind.i64.bits)) y6))]) s r))))))) (∃ y4, lj2 = bI y4 /\ (r = (y4, 0)))) : utf_Unhex_j2 ij1 lj2 s r :=
 fJ hw<|KW 10 (KD 5 []<|KIS 2<|KC 0<|KIS 3<|KC 1<|KT 10 3<|KW 2 (KR 13)<|KA 10 nI_u8 mE<|KJ 10)<|KS 8<|KR 5
theorem utf_Unhex_step (s : ByteArray) (r : (ByteArray × Int)) (hw : IF (((s.size : Int).tmod 2) != 0) (r = ((⟨#[]⟩ : ByteArray), 2)) ((0 <= (wI ((s.size : Int).tdiv 2)) /\ (wI ((s.size : Int).tdiv 2)) * 1 <= 140737488355328) /\ (utf_Unhex_j2 0 ([] : List Int) s r))) : utf_Unhex s r :=
 fP hw<|KW 15 (KR 8)<|KM0 7 eI_u8<|KJ 11
def scalar_decimal_j2 (ij1 : Int) (y1 : ByteArray) (r : Bool) : Prop := JP Pg 149 (e149 r) 7 [(20, aI ij1), (19, aI (y1.size : Int)), (3, aS y1)]
theorem scalar_decimal_j2_step (ij1 : Int) (y1 : ByteArray) (r : Bool) (hw : ID (ij1 < (y1.size : Int)) (SI y1 ij1 (ID ((byteAt y1 ij1.toNat) < 48) (r = false) (SI y1 ij1 (ID (57 < (byteAt y1 ij1.toNat)) (r = false) (scalar_decimal_j2 (wI (ij1 + 1)) y1 r))))) (r = true)) : scalar_decimal_j2 ij1 y1 r :=
 fJ hw<|KW 7 (KIS 14<|KW 2 (KR 19)<|KIS 2<|KW 4 (KR 11)<|KJ 8)<|KR 11
theorem scalar_decimal_step (s : ByteArray) (r : Bool) (hw : ∃ y1, strings_TrimPrefix s (⟨#[45]⟩ : ByteArray) y1 /\ (JN (fun bz1 : Bool=>IF bz1 (r = false) (scalar_decimal_j2 0 y1 r)) fun R1=>ID (y1 = (⟨#[]⟩ : ByteArray)) (R1 true) (SI y1 (0 : Int) (R1 (((byteAt y1 (0 : Int).toNat) == 48) && (!(decide (s = (⟨#[48]⟩ : ByteArray))))))))) : scalar_decimal s r :=
 fP hw<|KC 8<|KQ 9 8 kB (KW 2 (KR 7)<|KJ 12) (fun key=>KE 8 key) fun key=>KIS 1<|KT 2 3<|KE 1 key
def slices_IndexFunc_LItem_Item_j2 (ij1 : Int) (s : (List GItem)) (f : GFn) (r : Int) : Prop := JP Pg 151 (e151 r) 3 [(8, aI ij1), (7, aI (s.length : Int)), (0, .sl (List.map eGItem s) .no), (1, .clo (.func f.fn) f.fi f.cap)]
theorem slices_IndexFunc_LItem_Item_j2_step (ij1 : Int) (s : (List GItem)) (f : GFn) (r : Int) (hw : ID (ij1 < (s.length : Int)) (IX s ij1 fun y3=>∃ y4, FCall Pg [] (.clo (.func f.fn) f.fi f.cap) [.agg (eGItem y3)] (aB y4) /\ (IF y4 (r = ij1) (slices_IndexFunc_LItem_Item_j2 (wI (ij1 + 1)) s f r))) (r = (-1))) : slices_IndexFunc_LItem_Item_j2 ij1 s f r :=
 fJ hw<|KW 7 (KI 15 nGItem<|KF 1<|KW 2 (KR 12)<|KJ 8)<|KR 11
theorem slices_IndexFunc_LItem_Item_step (s : (List GItem)) (f : GFn) (r : Int) (hw : slices_IndexFunc_LItem_Item_j2 0 s f r) : slices_IndexFunc_LItem_Item s f r :=
 fP hw<|KL 9 nGItem s<|KJ 5
def ref03_Unhex_j2 (ij1 : Int) (sj2 : ByteArray) (s : ByteArray) (r : (ByteArray × Int)) : Prop := JP Pg 152 (e152 r) 7 [(5, aI ij1), (4, aS sj2), (0, aS s)]
theorem ref03_Unhex_j2_step (ij1 : Int) (sj2 : ByteArray) (s : ByteArray) (r : (ByteArray × Int)) (hw : ID (ij1 < (s.size : Int)) (SI s ij1 (∃ y6, ref03_digit (byteAt s ij1.toNat) y6 /\ (JN (fun bz2 : Bool=>IF bz2 (r = ((⟨#[]⟩ : ByteArray), 2)) (SI s ij1 (∃ y8, ref03_digit (byteAt s ij1.toNat) y8 /\ (SI s (wI (ij1 + 1)) (∃ y9, ref03_digit (byteAt s (wI (ij1 + 1)).toNat) y9 /\ (∃ y10, ([(IntKind.u8.wrap (wI ((wI (16 * y8)) + y9)))] : List Int) = bI y10 /\ (CT sj2 y10 (ref03_Unhex_j2 (wI (ij1 + 2)) (sj2 ++ y10) s r)))))))) fun R2=>ID (y6 < 0) (R2 true) (SI s (wI (ij1 + 1)) (∃ y7, ref03_digit (byteAt s (wI (ij1 + 1)).toNat) y7 /\ (R2 (decide (y7 < 0)))))))) (r = (sj2, 0))) : ref03_Unhex_j2 ij1 sj2 s r :=
 fJ hw<|KW 10 (KIS 9<|KC 0<|KQ 2 7 kB (KW 2 (KR 13)<|KD 2 []<|KIS 3<|KC 0<|KIS 4<|KC 0<|KS 3<|KCat 1<|KJ 10) (fun key=>KE 7 key) fun key=>KIS 3<|KC 0<|KE 2 key)<|KR 13
theorem ref03_Unhex_step (s : ByteArray) (r : (ByteArray × Int)) (hw : IF (((s.size : Int).tmod 2) != 0) (r = ((⟨#[]⟩ : ByteArray), 2)) (ref03_Unhex_j2 0 (⟨#[]⟩ : ByteArray) s r)) : ref03_Unhex s r :=
 fP hw<|KW 15 (KR 8)<|KJ 15
def ref03_Unquote_j2 (ij1 : Int) (sj2 : ByteArray) (s : ByteArray) (r : (ByteArray × Int × Int)) : Prop := JP Pg 153 (e153 r) 7 [(6, aI ij1), (5, aS sj2), (0, aS s)]
theorem ref03_Unquote_j2_step (ij1 : Int) (sj2 : ByteArray) (s : ByteArray) (r : (ByteArray × Int × Int)) (hw : ID (ij1 < (s.size : Int)) (SI s ij1 (IF ((byteAt s ij1.toNat) == 34) (∃ y4, ref03_Quote sj2 y4 /\ (SS s (0 : Int) (wI (ij1 + 1)) (IF (!(decide (y4 = (s.extract (0 : Int).toNat (wI (ij1 + 1)).toNat)))) (r = ((⟨#[]⟩ : ByteArray), 0, 2)) (r = (sj2, (wI (ij1 + 1)), 0))))) (SI s ij1 (IF ((byteAt s ij1.toNat) != 92) (SS s ij1 (wI (ij1 + 1)) (CT sj2 (s.extract ij1.toNat (wI (ij1 + 1)).toNat) (ref03_Unquote_j2 (wI (ij1 + 1)) (sj2 ++ (s.extract ij1.toNat (wI (ij1 + 1)).toNat)) s r))) (∃ y5, ref03_escape s ij1 y5 /\ (IF (y5.2 == 0) (r = ((⟨#[]⟩ : ByteArray), 0, 2)) (∃ y6, ([y5.1] : List Int) = bI y6 /\ (CT sj2 y6 (ref03_Unquote_j2 (wI (ij1 + y5.2)) (sj2 ++ y6) s r))))))))) (r = ((⟨#[]⟩ : ByteArray), 0, 2))) : ref03_Unquote_j2 ij1 sj2 s r :=
 fJ hw<|KW 10 (KIS 8<|KW 3 (KD 2 []<|KC 1<|KSS 3<|KW 4 (KR 14)<|KR 18)<|KIS 7<|KW 3 (KSS 7<|KCat 0<|KJ 14)<|KC 6<|KW 14 (KR 13)<|KS 7<|KCat 0<|KJ 11)<|KR 13
theorem ref03_Unquote_step (s : ByteArray) (r : (ByteArray × Int × Int)) (hw : JN (fun bz1 : Bool=>IF bz1 (r = ((⟨#[]⟩ : ByteArray), 0, 2)) (ref03_Unquote_j2 1 (⟨#[]⟩ : ByteArray) s r)) fun R1=>IF ((s.size : Int) == 0) (R1 true) (SI s (0 : Int) (R1 ((byteAt s (0 : Int).toNat) != 34)))) : ref03_Unquote s r :=
 fP hw<|KQ 14 4 kB (KW 2 (KR 9)<|KJ 15) (fun key=>KE 4 key) fun key=>KIS 1<|KE 2 key
def ref04_number_j14 (bj12 : Bool) (sj7 : ByteArray) (ij9 : Int) (ij11 : Int) (bj6 : Bool) (r : (Int × Bool × Int)) : Prop := JP Pg 154 (e154 r) 18 [(8, aB bj12), (10, aU (wU (IntKind.u8.wrap ((byteAt sj7 ij9.toNat) - 48)))), (9, aI ij9), (7, aU ij11), (6, aB bj6), (5, aS sj7)]
def ref04_number_j12 (ij9 : Int) (bj10 : Bool) (ij11 : Int) (bj6 : Bool) (sj7 : ByteArray) (r : (Int × Bool × Int)) : Prop := JP Pg 154 (e154 r) 10 [(9, aI ij9), (8, aB bj10), (7, aU ij11), (6, aB bj6), (5, aS sj7)]
def ref04_number_j8 (bj6 : Bool) (sj7 : ByteArray) (s : ByteArray) (r : (Int × Bool × Int)) : Prop := JP Pg 154 (e154 r) 2 [(6, aB bj6), (5, aS sj7), (0, aS s)]
theorem ref04_number_j14_step (bj12 : Bool) (sj7 : ByteArray) (ij9 : Int) (ij11 : Int) (bj6 : Bool) (r : (Int × Bool × Int)) (hw : IF (!bj12) (ref04_number_j12 (wI (ij9 + 1)) bj12 (wU ((wU (10 * ij11)) + (wU (IntKind.u8.wrap ((byteAt sj7 ij9.toNat) - 48))))) bj6 sj7 r) (ref04_number_j12 (wI (ij9 + 1)) bj12 ij11 bj6 sj7 r)) : ref04_number_j14 bj12 sj7 ij9 ij11 bj6 r :=
 fJ hw<|KW 6 (KJ 15)<|KJ 9
theorem ref04_number_j12_step (ij9 : Int) (bj10 : Bool) (ij11 : Int) (bj6 : Bool) (sj7 : ByteArray) (r : (Int × Bool × Int)) (hw : ID (ij9 < (sj7.size : Int)) (SI sj7 ij9 (JN (fun bz7 : Bool=>IF bz7 (r = (0, false, 2)) (SI sj7 ij9 (ID ((wU ((wU (18446744073709551615 - (wU (IntKind.u8.wrap ((byteAt sj7 ij9.toNat) - 48))))).tdiv 10)) < ij11) (ref04_number_j14 true sj7 ij9 ij11 bj6 r) (ref04_number_j14 bj10 sj7 ij9 ij11 bj6 r)))) fun R7=>ID ((byteAt sj7 ij9.toNat) < 48) (R7 true) (SI sj7 ij9 (R7 (decide (57 < (byteAt sj7 ij9.toNat))))))) (IF bj10 (r = (0, false, 6)) (r = (ij11, bj6, 0)))) : ref04_number_j12 ij9 bj10 ij11 bj6 sj7 r :=
 fJ hw<|KW 10 (KIS 9<|KQ 2 5 kB (KW 2 (KR 14)<|KIS 6<|KW 15 (KJ 4)<|KJ 2) (fun key=>KE 5 key) fun key=>KIS 2<|KE 2 key)<|KW 11 (KR 9)<|KR 12
theorem ref04_number_j8_step (bj6 : Bool) (sj7 : ByteArray) (s : ByteArray) (r : (Int × Bool × Int)) (hw : JN (fun bz5 : Bool=>IF bz5 (r = (0, false, 2)) (ref04_number_j12 0 false 0 bj6 sj7 r)) fun R5=>ID (sj7 = (⟨#[]⟩ : ByteArray)) (R5 true) (SI sj7 (0 : Int) (R5 (((byteAt sj7 (0 : Int).toNat) == 48) && (!(decide (s = (⟨#[48]⟩ : ByteArray)))))))) : ref04_number_j8 bj6 sj7 s r :=
 fJ hw<|KQ 6 8 kB (KW 2 (KR 9)<|KJ 16) (fun key=>KE 8 key) fun key=>KIS 1<|KT 2 3<|KE 1 key
theorem ref04_number_step (s : ByteArray) (r : (Int × Bool × Int)) (hw : JN (fun bz1 : Bool=>IF bz1 (SS s (1 : Int) (s.size : Int) (ref04_number_j8 true (s.extract (1 : Int).toNat (s.size : Int).toNat) s r)) (ref04_number_j8 false s s r)) fun R1=>ID (0 < (s.size : Int)) (SI s (0 : Int) (R1 ((byteAt s (0 : Int).toNat) == 45))) (R1 false)) : ref04_number s r :=
 fP hw<|KQ 21 4 kB (KW 2 (KSS 2<|KJ 4)<|KJ 2) (fun key=>KIS 1<|KE 2 key) fun key=>KE 4 key
theorem ref04_signed_step (kind : Int) (r : Bool) (hw : r = ((kind == 2) || (kind == 3))) : ref04_signed kind r :=
 fP hw<|KT 10 3<|KR 4
def ref03_Bad_j2 (ij1 : Int) (s : ByteArray) (r : Int) : Prop := JP Pg 156 (e156 r) 3 [(3, aI ij1), (0, aS s)]
theorem ref03_Bad_j2_step (ij1 : Int) (s : ByteArray) (r : Int) (hw : ID (ij1 < (s.size : Int)) (∃ y2, ref03_Size s ij1 y2 /\ (IF (y2 == 0) (r = ij1) (ref03_Bad_j2 (wI (ij1 + y2)) s r))) (r = (-1))) : ref03_Bad_j2 ij1 s r :=
 fJ hw<|KW 10 (KC 7<|KW 10 (KR 12)<|KJ 10)<|KR 11
theorem ref03_Bad_step (s : ByteArray) (r : Int) (hw : ref03_Bad_j2 0 s r) : ref03_Bad s r :=
 fP hw<|KJ 13
theorem ref03_Size_step (s : ByteArray) (i : Int) (r : Int) (hw : SI s i (ID ((byteAt s i.toNat) < 128) (r = 1) (JN (fun bz1 : Bool=>IF bz1 (r = 2) (JN (fun bz2 : Bool=>JN (fun bz3 : Bool=>IF bz3 (r = 3) (JN (fun bz4 : Bool=>JN (fun bz5 : Bool=>IF bz5 (r = 3) (JN (fun bz6 : Bool=>IF bz6 (r = 3) (JN (fun bz7 : Bool=>JN (fun bz8 : Bool=>IF bz8 (r = 4) (JN (fun bz9 : Bool=>IF bz9 (r = 4) (JN (fun bz10 : Bool=>IF bz10 (∃ y11, ref03_tail s (wI (i + 2)) 2 y11 /\ (IF y11 (r = 4) (r = 0))) (r = 0)) fun R10=>IF ((byteAt s i.toNat) == 244) (∃ y10, ref03_between s (wI (i + 1)) 128 143 y10 /\ (R10 y10)) (R10 false))) fun R9=>IF ((decide (241 <= (byteAt s i.toNat))) && (decide ((byteAt s i.toNat) <= 243))) (∃ y9, ref03_tail s (wI (i + 1)) 3 y9 /\ (R9 y9)) (R9 false))) fun R8=>IF bz7 (∃ y8, ref03_tail s (wI (i + 2)) 2 y8 /\ (R8 y8)) (R8 false)) fun R7=>IF ((byteAt s i.toNat) == 240) (∃ y7, ref03_between s (wI (i + 1)) 144 191 y7 /\ (R7 y7)) (R7 false))) fun R6=>IF (((decide (225 <= (byteAt s i.toNat))) && (decide ((byteAt s i.toNat) <= 239))) && ((byteAt s i.toNat) != 237)) (∃ y6, ref03_tail s (wI (i + 1)) 2 y6 /\ (R6 y6)) (R6 false))) fun R5=>IF bz4 (∃ y5, ref03_tail s (wI (i + 2)) 1 y5 /\ (R5 y5)) (R5 false)) fun R4=>IF ((byteAt s i.toNat) == 237) (∃ y4, ref03_between s (wI (i + 1)) 128 159 y4 /\ (R4 y4)) (R4 false))) fun R3=>IF bz2 (∃ y3, ref03_tail s (wI (i + 2)) 1 y3 /\ (R3 y3)) (R3 false)) fun R2=>IF ((byteAt s i.toNat) == 224) (∃ y2, ref03_between s (wI (i + 1)) 160 191 y2 /\ (R2 y2)) (R2 false))) fun R1=>IF ((decide (194 <= (byteAt s i.toNat))) && (decide ((byteAt s i.toNat) <= 223))) (∃ y1, ref03_tail s (wI (i + 1)) 1 y1 /\ (R1 y1)) (R1 false)))) : ref03_Size s i r :=
 fP hw<|KIS 9<|KW 12 (KR 8)<|KT 5 3<|KQ 1 5 kB (KW 3 (KR 8)<|KQ 5 5 kB (KQ 1 5 kB (KW 3 (KR 8)<|KQ 5 5 kB (KQ 1 5 kB (KW 3 (KR 8)<|KT 5 3<|KT 1 3<|KQ 1 5 kB (KW 3 (KR 8)<|KQ 5 5 kB (KQ 1 5 kB (KW 3 (KR 8)<|KT 5 3<|KQ 1 5 kB (KW 3 (KR 8)<|KQ 5 5 kB (KW 1 (KC 3<|KW 4 (KR 8)<|KR 9)<|KR 18) (fun key=>KC 3<|KE 1 key) fun key=>KE 5 key) (fun key=>KC 3<|KE 1 key) fun key=>KE 5 key) (fun key=>KC 3<|KE 1 key) fun key=>KE 5 key) (fun key=>KC 3<|KE 1 key) fun key=>KE 5 key) (fun key=>KC 3<|KE 1 key) fun key=>KE 5 key) (fun key=>KC 3<|KE 1 key) fun key=>KE 5 key) (fun key=>KC 3<|KE 1 key) fun key=>KE 5 key) (fun key=>KC 3<|KE 1 key) fun key=>KE 5 key) (fun key=>KC 3<|KE 1 key) fun key=>KE 5 key) (fun key=>KC 3<|KE 1 key) fun key=>KE 5 key
theorem ref03_pair_step (b : Int) (r : ByteArray) (hw : SS (⟨#[48, 49, 50, 51, 52, 53, 54, 55, 56, 57, 97, 98, 99, 100, 101, 102]⟩ : ByteArray) (IntKind.u8.wrap (b.tdiv 16)) (IntKind.u8.wrap ((IntKind.u8.wrap (b.tdiv 16)) + 1)) (SS (⟨#[48, 49, 50, 51, 52, 53, 54, 55, 56, 57, 97, 98, 99, 100, 101, 102]⟩ : ByteArray) (b.tmod 16) (IntKind.u8.wrap ((b.tmod 16) + 1)) (CT ((⟨#[48, 49, 50, 51, 52, 53, 54, 55, 56, 57, 97, 98, 99, 100, 101, 102]⟩ : ByteArray).extract (IntKind.u8.wrap (b.tdiv 16)).toNat (IntKind.u8.wrap ((IntKind.u8.wrap (b.tdiv 16)) + 1)).toNat) ((⟨#[48, 49, 50, 51, 52, 53, 54, 55, 56, 57, 97, 98, 99, 100, 101, 102]⟩ : ByteArray).extract (b.tmod 16).toNat (IntKind.u8.wrap ((b.tmod 16) + 1)).toNat) (r = (((⟨#[48, 49, 50, 51, 52, 53, 54, 55, 56, 57, 97, 98, 99, 100, 101, 102]⟩ : ByteArray).extract (IntKind.u8.wrap (b.tdiv 16)).toNat (IntKind.u8.wrap ((IntKind.u8.wrap (b.tdiv 16)) + 1)).toNat) ++ ((⟨#[48, 49, 50, 51, 52, 53, 54, 55, 56, 57, 97, 98, 99, 100, 101, 102]⟩ : ByteArray).extract (b.tmod 16).toNat (IntKind.u8.wrap ((b.tmod 16) + 1)).toNat)))))) : ref03_pair b r :=
 fP hw<|KD 6 []<|KSS 5<|KSS 5<|KCat 1<|KR 4
theorem utf_wrong_step (s : ByteArray) (at_ : Int) (c : Int) (r : Bool) (hw : IF (c == 65533) (SS s at_ (s.size : Int) (∃ y1, strings_HasPrefix (s.extract at_.toNat (s.size : Int).toNat) (⟨#[239, 191, 189]⟩ : ByteArray) y1 /\ (r = (!y1)))) (r = false)) : utf_wrong s at_ c r :=
 fP hw<|KW 10 (KSS 2<|KC 0<|KR 6)<|KR 10
theorem utf_escape_step (c : Int) (r : ByteArray) (hw : SS (⟨#[48, 49, 50, 51, 52, 53, 54, 55, 56, 57, 97, 98, 99, 100, 101, 102]⟩ : ByteArray) (c.fdiv (2 ^ min (4 : Int).toNat IntKind.u8.bits)) (IntKind.u8.wrap ((c.fdiv (2 ^ min (4 : Int).toNat IntKind.u8.bits)) + 1)) (CT (⟨#[92, 120]⟩ : ByteArray) ((⟨#[48, 49, 50, 51, 52, 53, 54, 55, 56, 57, 97, 98, 99, 100, 101, 102]⟩ : ByteArray).extract (c.fdiv (2 ^ min (4 : Int).toNat IntKind.u8.bits)).toNat (IntKind.u8.wrap ((c.fdiv (2 ^ min (4 : Int).toNat IntKind.u8.bits)) + 1)).toNat) (SS (⟨#[48, 49, 50, 51, 52, 53, 54, 55, 56, 57, 97, 98, 99, 100, 101, 102]⟩ : ByteArray) (bitsOf .and .u8 c 15) (IntKind.u8.wrap ((bitsOf .and .u8 c 15) + 1)) (CT ((⟨#[92, 120]⟩ : ByteArray) ++ ((⟨#[48, 49, 50, 51, 52, 53, 54, 55, 56, 57, 97, 98, 99, 100, 101, 102]⟩ : ByteArray).extract (c.fdiv (2 ^ min (4 : Int).toNat IntKind.u8.bits)).toNat (IntKind.u8.wrap ((c.fdiv (2 ^ min (4 : Int).toNat IntKind.u8.bits)) + 1)).toNat)) ((⟨#[48, 49, 50, 51, 52, 53, 54, 55, 56, 57, 97, 98, 99, 100, 101, 102]⟩ : ByteArray).extract (bitsOf .and .u8 c 15).toNat (IntKind.u8.wrap ((bitsOf .and .u8 c 15) + 1)).toNat) (r = (((⟨#[92, 120]⟩ : ByteArray) ++ ((⟨#[48, 49, 50, 51, 52, 53, 54, 55, 56, 57, 97, 98, 99, 100, 101, 102]⟩ : ByteArray).extract (c.fdiv (2 ^ min (4 : Int).toNat IntKind.u8.bits)).toNat (IntKind.u8.wrap ((c.fdiv (2 ^ min (4 : Int).toNat IntKind.u8.bits)) + 1)).toNat)) ++ ((⟨#[48, 49, 50, 51, 52, 53, 54, 55, 56, 57, 97, 98, 99, 100, 101, 102]⟩ : ByteArray).extract (bitsOf .and .u8 c 15).toNat (IntKind.u8.wrap ((bitsOf .and .u8 c 15) + 1)).toNat))))))) : utf_escape c r :=
 fP hw<|KD 6 []<|KSS 5<|KCat 0<|KSS 5<|KCat 1<|KR 4
end
end Go.Proofs.YtdpomombdeccpaaGreatDoor.Lift
