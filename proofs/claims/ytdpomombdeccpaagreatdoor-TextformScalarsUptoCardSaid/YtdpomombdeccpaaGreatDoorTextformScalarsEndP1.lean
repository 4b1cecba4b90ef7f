/- Part 2 of the texts that prove TextformScalarsEnd. -/
import Derived.Test.YtdpomombdeccpaaGreatDoorTextformScalarsEndP0
import Derived.Orders
import Derived.ScopeJumps
namespace Go.Proofs.YtdpomombdeccpaaGreatDoor.Lift
open Go.RowKit
set_option linter.unusedVariables false
set_option linter.unusedSimpArgs false
set_option linter.unnecessarySimpa false
set_option linter.unusedSectionVars false
set_option maxRecDepth 100000
inductive AOpd where
 | t (n : Nat)
 | c (a : AV)
def AOpd.ev (env : Env) : AOpd -> Option AV
 | .t n => get env n
 | .c a => some a
def ofV1 : Value -> Option AV
 | .slice none 0 0 => some .nil
 | .func fn a b => if a.size = 0 /\ b.size = 0 then some (.clo fn [] []) else none
 | x => if atom x then some (.v x) else none
def ofVs : List Value -> Option (List AV)
 | [] => some []
 | v :: l => (ofV1 v).bind fun a => (ofVs l).map fun r => a :: r
def ofV : Value -> Option AV
 | .agg cs => (ofVs cs.toList).map .agg
 | x => ofV1 x
inductive AOp where
 | mv (x : AOpd)
 | pick (c a b : AOpd)
 | alloc (cells : List AV)
 | box (x : AOpd)
 | build (zero : List AV) (parts : List ((Nat × Nat) × AOpd))
 | sliceLit (size len : Nat) (zeros : List AV) (parts : List ((Nat × Nat) × AOpd))
 | load (n : Option Nat) (x : AOpd)
 | store (size : Nat) (p x : AOpd)
 | nilCheck (x : AOpd)
 | bin (op : BinOp) (x y : AOpd)
 | eq (c : EqK) (yes : Bool) (x y : AOpd)
 | un (op : UnOp) (x : AOpd)
 | conv (c : CK) (x : AOpd)
 | iface (t : TypeId) (x : AOpd)
 | func (fn : Fn) (first captured : List AOpd)
 | sliceS (x : AOpd) (lo hi : Option AOpd)
 | sliceV (size : Nat) (x : AOpd) (lo hi mx : Option AOpd)
 | fieldAddr (off : Nat) (x : AOpd)
 | field (n : Option Nat) (off : Nat) (x : AOpd)
 | idxS (x i : AOpd)
 | idxV (len size : Nat) (n : Option Nat) (x i : AOpd)
 | idxSl (size : Nat) (x i : AOpd)
 | idxA (len size : Nat) (x i : AOpd)
 | assertT (t : TypeId) (ok : Bool) (zero : AV) (x : AOpd)
 | extract (i : Nat) (x : AOpd)
 | len (str : Bool) (x : AOpd)
 | append (e : TypeId) (size bytes : Nat) (x y : AOpd)
 | call (f : AOpd) (args : List AOpd)
 | bytes (x : AOpd)
 | minmax (mx : Bool) (args : List AOpd)
 | make (size bytes : Nat) (zero : List AV) (len cap : AOpd)
 | range (x : AOpd)
 | next (x : AOpd)
 | bad
 | mkmap
 | lookup (ok : Bool) (zero : AV) (x k : AOpd)
 | mapset (m k v : AOpd)
 | allocB (e u : TypeId)
 | udata (x : AOpd)
 | ustr (u : TypeId) (p n : AOpd)
 | seek (cnt : Bool) (s c : AOpd)
 | mknz (u : TypeId) (n : AOpd)
 | cap0 (x : AOpd)
 | copy0 (x y : AOpd)
 | clear (size : Nat) (zero : List AV) (x : AOpd)
def asBytes (h : AHeap) (x : AV) (K : AV -> AHeap -> Prop) : Prop :=
 match x with
 | .v (.string s) => K (.sl (byteEls s.data.toList) .no) h
 | _ => False
def zerosOf (size len : Nat) (zero : List AV) : List AV := (List.range (len * size)).map fun i => zero.getD (i % size) .nil
def made (h : AHeap) (size bytes : Nat) (zero : List AV) (x y : AV) (K : AV -> AHeap -> Prop) : Prop :=
 match x, y with
 | .v (.int _ l), .v (.int _ c) => (0 <= l /\ l <= c /\ c * bytes <= 140737488355328) /\ K (.row h.blks.length 0 size l.toNat c.toNat) ⟨h.blks ++ [some (zerosOf size c.toNat zero)], h.bufs, h.globs⟩
 | _, _ => False
def made0 (h : AHeap) (size bytes : Nat) (x y : AV) (K : AV -> AHeap -> Prop) : Prop :=
 match x, y with
 | .v (.int _ l), .v (.int _ c) => (l = 0 /\ 0 <= c /\ c * bytes <= 140737488355328 /\ size = 1) /\ K (.sl [] (.own h.bufs.length)) ⟨h.blks, h.bufs ++ [(0, 1)], h.globs⟩
 | _, _ => False
def ranged (h : AHeap) (x : AV) (K : AV -> AHeap -> Prop) : Prop :=
 match x with
 | .v (.string s) => K (.ptr h.blks.length 0) ⟨h.blks ++ [some [.it s 0]], h.bufs, h.globs⟩
 | _ => False
def nexted (h : AHeap) (x : AV) (K : AV -> AHeap -> Prop) : Prop :=
 match x with
 | .ptr n 0 => match h.blks[n]? with
  | some (some [.it s p]) => (p < s.size -> K (.tuple [.v (.bool true), .v (.int .i64 p), .v (.int .i32 (Utf8.decode s p).1)]) ⟨h.blks.set n (some [.it s (p + (Utf8.decode s p).2)]), h.bufs, h.globs⟩) /\ (¬ p < s.size -> K (.tuple [.v (.bool false)]) h)
  | _ => False
 | _ => False
def findE (s : ByteArray) : List AV -> Option (Option AV)
 | [] => some none
 | p :: r => match p with
  | .tuple [.v (.string t), v] => if (s == t) = true then some (some v) else findE s r
  | _ => none
def setE (s : ByteArray) (v : AV) : List AV -> Option (List AV)
 | [] => some [.tuple [.v (.string s), v]]
 | p :: r => match p with
  | .tuple [.v (.string t), w] => if (s == t) = true then some (.tuple [.v (.string s), v] :: r) else (setE s v r).map fun l => .tuple [.v (.string t), w] :: l
  | _ => none
def lookedR (ok : Bool) (zero : AV) (r : Option AV) : AV := if ok = true then .tuple [r.getD zero, .v (.bool r.isSome)] else r.getD zero
def looked (h : AHeap) (ok : Bool) (zero x k : AV) (K : AV -> Prop) : Prop :=
 match k with
 | .v (.string s) => match x with
  | .mp n => match h.blks[n]? with
   | some (some [.tuple l]) => match findE s l with
    | some r => K (lookedR ok zero r)
    | none => False
   | _ => False
  | .v (.map none) => K (lookedR ok zero none)
  | _ => False
 | _ => False
def mapsetd (h : AHeap) (m k v : AV) (K : AHeap -> Prop) : Prop :=
 match k with
 | .v (.string s) => match m with
  | .mp n => match h.blks[n]? with
   | some (some [.tuple l]) => match setE s v l with
    | some l' => K ⟨h.blks.set n (some [.tuple l']), h.bufs, h.globs⟩
    | none => False
   | _ => False
  | _ => False
 | _ => False
def deglob (h : AHeap) (x : AV) : AV := match x with
 | .glob n => match h.globs.find? (fun p => p.1 == n) with
  | some p => .elt p.2 0
  | none => .glob n
 | x => x
def picked (o : Option Value) (K : Value -> Prop) : Prop :=
 match o with
 | some v => K v
 | none => False
def mmx (mx : Bool) : List AV -> Option Value
 | [.v (.int k x)] => some (.int k x)
 | .v (.int k x) :: .v (.int _ y) :: r => mmx mx (.v (.int k (if mx then (if y > x then y else x) else (if y < x then y else x))) :: r)
 | _ => none
 termination_by l => l.length
def wv (o : Option AV) (K : AV -> Prop) : Prop :=
 match o with
 | some a => K a
 | none => False
def evs (env : Env) : List AOpd -> Option (List AV)
 | [] => some []
 | x :: r => match x.ev env, evs env r with
  | some a, some l => some (a :: l)
  | _, _ => none
def evo (env : Env) : Option AOpd -> Option (Option AV)
 | none => some none
 | some x => match x.ev env with
  | some a => some (some a)
  | none => none
def evp (env : Env) : List ((Nat × Nat) × AOpd) -> Option (List ((Nat × Nat) × AV))
 | [] => some []
 | (k, x) :: r => match x.ev env, evp env r with
  | some a, some l => some ((k, a) :: l)
  | _, _ => none
def Rels (σ : Sg) (l : List AV) (xs : List Value) : Prop := xs.length = l.length /\ ∀ (i : Nat) (av : AV), l[i]? = some av -> ∃ x, xs[i]? = some x /\ Rel σ av x
def Callable (P : Program) (f : FuncId) : Prop := ∃ fn, P.funcs[f]? = some fn /\ fn.body.isNone = false /\ (fn.name == "runtime.NumGoroutine") = false
def ACall (P : Program) (f : FuncId) (args : List AV) (h : AHeap) (K : AV -> AHeap -> Prop) : Prop :=
 Callable P f /\ ∀ (σ : Sg) (cargs : Array Value), Inv h σ -> Rels σ args cargs.toList ->
  Calls P f cargs σ.w fun e w' => ∃ σ' h' av x, e = .returned x /\ σ'.w = w' /\ Le σ σ' /\ Inv h' σ' /\ Rel σ' av x /\ K av h'
def pickOn (c : AV) (a b : Prop) : Prop :=
 match c with
 | .v (.bool t) => (t = true -> a) /\ (t = false -> b)
 | _ => False
def nilOn (a : AV) (K : Prop) : Prop :=
 match a with
 | .ptr _ _ => K
 | .elt _ _ => K
 | .clo (.func _) _ _ => K
 | _ => False
def direct (P : Program) (t : TypeId) (name : String) : Option FuncId :=
 (P.info? t).bind fun i => (i.methods.find? (·.name == name)).bind fun m => if m.path.isEmpty = true then match m.func, P.underlying t with
  | some (_, false), some (.pointer _) => none
  | some (f, false), some _ => some f
  | _, _ => none
 else none
def methTab (P : Program) (name : String) : List AV := (List.range P.types.size).filterMap fun t => (direct P t name).map fun g => .iface t (.clo (.func g) [] [])
def ownMeth : List AV -> TypeId -> Option FuncId
 | .iface t (.clo (.func g) _ _) :: r, u => if t = u then some g else ownMeth r u
 | _ :: r, u => ownMeth r u
 | [], _ => none
theorem ownMeth_is {P : Program} {name : String} {t : TypeId} {g : FuncId} : ∀ {l : List Nat}, ownMeth (l.filterMap fun t => (direct P t name).map fun g => AV.iface t (.clo (.func g) [] [])) t = some g -> direct P t name = some g
 | [], h => by cases h
 | u :: l, h => by
  rw [List.filterMap_cons] at h
  cases hd : direct P u name with
  | none => rw [hd] at h; exact ownMeth_is h
  | some f =>
   rw [hd] at h
   simp only [Option.map_some, ownMeth] at h
   split at h
   ·rename_i hu; cases h; rw [← hu]; exact hd
   ·exact ownMeth_is h
def callOn (P : Program) (f : AV) (l : Option (List AV)) (h : AHeap) (K : AV -> AHeap -> Prop) : Prop :=
 match f, l with
 | .clo (.func g) first captured, some l => ACall P g (first ++ l ++ captured) h K
 | .agg [.tuple tab], some (.iface t x :: l) => match ownMeth tab t with
  | some g => ACall P g (x :: l) h K
  | none => False
 | _, _ => False
def aop (P : Program) (o : AOp) (env : Env) (h : AHeap) (K : AV -> AHeap -> Prop) : Prop :=
 match o with
 | .mv x => wv (x.ev env) fun a => K a h
 | .pick c a b => wv (c.ev env) fun c => pickOn c (wv (a.ev env) fun a => K a h) (wv (b.ev env) fun b => K b h)
 | .alloc cells => K (.ptr h.blks.length 0) ⟨h.blks ++ [some cells], h.bufs, h.globs⟩
 | .box x => wv (x.ev env) fun a => a.isTuple = false /\ K (.ptr h.blks.length 0) ⟨h.blks ++ [some a.cells], h.bufs, h.globs⟩
 | .build zero parts => match evp env parts with
  | some ps => match fills zero ps with
   | some cells => K (.agg cells) h
   | none => False
  | none => False
 | .sliceLit size len zeros parts => match evp env parts with
  | some ps => match fills zeros ps with
   | some cells => cells.length = len * size /\ K (.sl (chunk size len (cells.map wk1)) .full) h
   | none => False
  | none => False
 | .load n x => wv (x.ev env) fun p => loaded h n p fun a => K a h
 | .store size p x => wv (p.ev env) fun p => wv (x.ev env) fun x => stored h size p x fun h' => K (.tuple []) h'
 | .nilCheck x => wv (x.ev env) fun a => nilOn a (K a h)
 | .bin op x y => wv (x.ev env) fun x => wv (y.ev env) fun y => binned op x y fun a => K a h
 | .eq c yes x y => wv (x.ev env) fun x => wv (y.ev env) fun y => eqOf c x y fun b => K (.v (.bool (if yes then b else !b))) h
 | .un op x => wv (x.ev env) fun x => unned op x fun a => K a h
 | .conv c x => wv (x.ev env) fun x => conved c x fun a => K a h
 | .iface t x => wv (x.ev env) fun a => K (.iface t a) h
 | .func fn first captured => match evs env first, evs env captured with
  | some f, some c => K (.clo fn f c) h
  | _, _ => False
 | .sliceS x lo hi => wv (x.ev env) fun x => match evo env lo, evo env hi with
  | some lo, some hi => slicedS x lo hi fun a => K a h
  | _, _ => False
 | .sliceV size x lo hi mx => wv (x.ev env) fun x => match evo env lo, evo env hi, evo env mx with
  | some lo, some hi, some mx => slicedV size x lo hi mx fun a => K a h
  | _, _, _ => False
 | .fieldAddr off x => wv (x.ev env) fun x => moved off x fun a => K a h
 | .field n off x => wv (x.ev env) fun x => parted n off x fun a => K a h
 | .idxS x i => wv (x.ev env) fun x => wv (i.ev env) fun i => indexedS x i fun a => K a h
 | .idxV len size n x i => wv (x.ev env) fun x => wv (i.ev env) fun i => indexedV len size n x i fun a => K a h
 | .idxSl size x i => wv (x.ev env) fun x => wv (i.ev env) fun i => indexed size x i fun a => K a h
 | .idxA len size x i => wv (x.ev env) fun x => wv (i.ev env) fun i => indexedA len size (deglob h x) i fun a => K a h
 | .assertT t ok zero x => wv (x.ev env) fun x => asserted t ok zero x fun a => K a h
 | .extract i x => wv (x.ev env) fun x => extracted i x fun a => K a h
 | .len str x => wv (x.ev env) fun x => lenned str x fun a => K a h
 | .append e size bytes x y => wv (x.ev env) fun x => wv (y.ev env) fun y => appended h size bytes x y K ∨ appendedR h size bytes x y K ∨ appendedB h e size bytes x y K
 | .call f args => wv (f.ev env) fun f => callOn P f (evs env args) h K
 | .bytes x => wv (x.ev env) fun x => asBytes h x K
 | .minmax mx args => match evs env args with
  | some l => picked (mmx mx l) fun v => K (.v v) h
  | none => False
 | .make size bytes zero x y => wv (x.ev env) fun x => wv (y.ev env) fun y => made h size bytes zero x y K ∨ made0 h size bytes x y K
 | .range x => wv (x.ev env) fun x => ranged h x K
 | .next x => wv (x.ev env) fun x => nexted h x K
 | .bad => False
 | .mkmap => K (.mp h.blks.length) ⟨h.blks ++ [some [.tuple []]], h.bufs, h.globs⟩
 | .lookup ok zero x k => wv (x.ev env) fun x => wv (k.ev env) fun k => looked h ok zero x k fun a => K a h
 | .mapset m k v => wv (m.ev env) fun m => wv (k.ev env) fun k => wv (v.ev env) fun v => mapsetd h m k v fun h' => K (.tuple []) h'
 | .allocB e u => K (.ptr h.blks.length 0) ⟨h.blks ++ [some [.ps h.blks.length e, .bb .nil [] u]], h.bufs, h.globs⟩
 | .udata x => wv (x.ev env) fun x => udataed x fun a => K a h
 | .ustr u p n => wv (p.ev env) fun p => wv (n.ev env) fun n => ustred h u p n fun a => K a h
 | .seek cnt s c => wv (s.ev env) fun s => wv (c.ev env) fun c => soughtB (if cnt then cntB else findB) s c fun a => K a h
 | .mknz u n => wv (n.ev env) fun n => mknzed h u n K
 | .cap0 x => wv (x.ev env) fun x => capped x fun a => K a h
 | .copy0 x y => wv (x.ev env) fun x => wv (y.ev env) fun y => copied0 x y fun a => K a h
 | .clear size zero x => wv (x.ev env) fun x => cleared h size zero x fun h' => K (.tuple []) h'
section
variable (P : Program)
def cOpd : Operand -> Option AOpd
 | .tmp t => some (.t t)
 | .const v => (ofV v).map .c
 | .func f => some (.c (.clo (.func f) [] []))
 | .global g => some (.c (.glob g))
def cOpds : List Operand -> Option (List AOpd)
 | [] => some []
 | x :: r => (cOpd x).bind fun a => (cOpds r).map fun l => a :: l
def cOpdo : Option Operand -> Option (Option AOpd)
 | none => some none
 | some x => (cOpd x).map some
def placeOf (fs : Array Field) (i : Nat) : Option (Nat × Nat) := (fs[i]?).bind fun f => (P.info? f.type).map fun fi => (f.offset, fi.size)
def cParts (place : Nat -> Option (Nat × Nat)) : List (Nat × Operand) -> Option (List ((Nat × Nat) × AOpd))
 | [] => some []
 | (i, x) :: r => (place i).bind fun k => (cOpd x).bind fun a => (cParts place r).map fun l => (k, a) :: l
def zeroOf (t : TypeId) : Option Value := (P.info? t).bind (·.zero)
def isBytes (s d : TypeId) : Bool :=
 match P.underlying s, P.underlying d with
 | some .string, some (.slice e) => match P.underlying e with
  | some (.int .u8) => true
  | _ => false
 | _, _ => false
def isBuilder (e : TypeId) : Option TypeId :=
 match P.underlying e with
 | some (.struct fs) => match fs.toList with
  | [f, g] => match P.underlying f.type, P.underlying g.type with
   | some (.pointer t), some (.slice u) => match P.underlying u, zeroOf P e with
    | some (.int .u8), some (.agg cs) => match cs.toList with
     | [.pointer none, .slice none 0 0] => if t = e /\ P.cellsOf u = 1 then some u else none
     | _ => none
    | _, _ => none
   | _, _ => none
  | _ => none
 | _ => none
theorem isBuilder_zero {e u : TypeId} (h : isBuilder P e = some u) : zeroOf P e = some (.agg #[.pointer none, .slice none 0 0]) := by
 unfold isBuilder at h
 split at h
 ·split at h
  ·split at h
   ·split at h
    ·rename_i cs _ hz
     split at h
     ·rename_i hcs
      rw [hz]
      congr 2
      apply Array.ext'
      exact hcs
     ·cases h
    ·cases h
   ·cases h
  ·cases h
 ·cases h
def isStr (t : TypeId) : Bool := match P.underlying t with
 | some .string => true
 | _ => false
inductive XK where
 | find | cnt | make (u : TypeId)
def extOf (f : Operand) : Option XK :=
 match f with
 | .func g => match P.funcs[g]? with
  | some fn => if fn.body.isNone = true /\ (Extern.findNext fn).isNone = true then
    if fn.name = "internal/bytealg.IndexByteString" then some .find
    else if fn.name = "internal/bytealg.CountString" then some .cnt
    else if fn.name = "internal/bytealg.MakeNoZero" then match fn.resultTypes.toList with
     | [t] => match P.underlying t with
      | some (.slice u) => some (.make u)
      | _ => none
     | _ => none
    else none
   else none
  | none => none
 | _ => none
def compCall (c : Call) : Option AOp :=
 match c.callee with
 | .builtin .len => match c.args.toList, c.argTypes.toList with
  | [x], [t] => (lenOf P t).bind fun s => (cOpd x).map fun x => .len s x
  | _, _ => none
 | .builtin .append => match c.args.toList, c.argTypes.toList with
  | [x, y], [t, u] => match P.underlying t, P.underlying u with
   | some (.slice e), some (.slice _) | some (.slice e), some .string => (P.info? e).bind fun ie => (zeroOf P e).bind fun z => if z.cells.size = ie.size /\ ie.bytes ≠ 0 then (cOpd x).bind fun x => (cOpd y).map fun y => .append e ie.size ie.bytes x y else none
   | _, _ => none
  | _, _ => none
 | .builtin .min => (cOpds c.args.toList).map fun l => .minmax false l
 | .builtin .max => (cOpds c.args.toList).map fun l => .minmax true l
 | .builtin .unsafeSliceData => match c.args.toList with
  | [x] => (cOpd x).map .udata
  | _ => none
 | .builtin .unsafeString => match c.args.toList, c.argTypes.toList with
  | [p, n], [pt, _] => match P.underlying pt with
   | some (.pointer u) => if P.cellsOf u = 1 then (cOpd p).bind fun p => (cOpd n).map fun n => .ustr u p n else none
   | _ => none
  | _, _ => none
 | .builtin .cap => match c.args.toList, c.argTypes.toList with
  | [x], [t] => match P.underlying t with
   | some (.slice _) => (cOpd x).map .cap0
   | _ => none
  | _, _ => none
 | .builtin .copy => match c.args.toList, c.argTypes.toList with
  | [x, y], [t, _] => match P.underlying t with
   | some (.slice e) => (P.info? e).bind fun _ => (cOpd x).bind fun x => (cOpd y).map fun y => .copy0 x y
   | _ => none
  | _, _ => none
 | .builtin .clear => match c.args.toList, c.argTypes.toList with
  | [x], [t] => match P.underlying t with
   | some (.slice e) => (P.info? e).bind fun ie => (zeroOf P e).bind fun z => (ofVs z.cells.toList).bind fun zs => if z.cells.size = ie.size then (cOpd x).map fun x => .clear ie.size zs x else none
   | _ => none
  | _, _ => none
 | .value f => match extOf P f with
  | some .find => match c.args.toList with
   | [s, b] => (cOpd s).bind fun s => (cOpd b).map fun b => .seek false s b
   | _ => none
  | some .cnt => match c.args.toList with
   | [s, b] => (cOpd s).bind fun s => (cOpd b).map fun b => .seek true s b
   | _ => none
  | some (.make u) => match c.args.toList with
   | [n] => (cOpd n).map fun n => .mknz u n
   | _ => none
  | none => (cOpd f).bind fun f => (cOpds c.args.toList).map fun l => .call f l
 | .invoke x name => (cOpd x).bind fun x => (cOpds c.args.toList).map fun l => .call (.c (.agg [.tuple (methTab P name)])) (x :: l)
 | _ => none
def compOp (o : Oper) : Option AOp :=
 match o.op with
 | .move x | .assign x => (cOpd x).map .mv
 | .pick c a b => (cOpd c).bind fun c => (cOpd a).bind fun a => (cOpd b).map fun b => .pick c a b
 | .alloc e => match isBuilder P e with
  | some u => some (.allocB e u)
  | none => (zeroOf P e).bind fun z => (ofVs z.cells.toList).map .alloc
 | .box _ x => (cOpd x).map .box
 | .build t parts => match P.underlying t with
  | some (.struct fs) => if fs.toList.all (fun f => (P.info? f.type).isSome) then (zeroOf P t).bind fun z => (ofVs z.cells.toList).bind fun zs => (cParts (placeOf P fs) parts.toList).map fun ps => .build zs ps else none
  | some (.array _ e) => (P.info? e).bind fun ie => (zeroOf P t).bind fun z => (ofVs z.cells.toList).bind fun zs => (cParts (fun i => some (i * ie.size, ie.size)) parts.toList).map fun ps => .build zs ps
  | _ => none
 | .buildSlice t len parts => match P.underlying t with
  | some (.slice e) => (P.info? e).bind fun ie => (zeroOf P e).bind fun z => (ofVs z.cells.toList).bind fun zs => (cParts (fun i => some (i * ie.size, ie.size)) parts.toList).bind fun ps =>
   if len * ie.size <= 2 ^ 24 /\ z.cells.size = ie.size /\ ie.size ≠ 0 then some (.sliceLit ie.size len (zerosOf ie.size len zs) ps) else none
  | _ => none
 | .load t x => (aggSize P t).bind fun n => (cOpd x).map fun x => .load n x
 | .store t p x => if o.dst = none then ((P.info? t).map (·.size)).bind fun n => (cOpd p).bind fun p => (cOpd x).map fun x => .store n p x else none
 | .nilCheck x => (cOpd x).map .nilCheck
 | .binOp op t x y _ => match eqK P t with
  | some c => if (op = .eql ∨ op = .neq) /\ (c = .iface -> isConst x = true ∨ isConst y = true) then (cOpd x).bind fun x => (cOpd y).map fun y => .eq c (decide (op = .eql)) x y else none
  | none => (cOpd x).bind fun x => (cOpd y).map fun y => .bin op x y
 | .unOp op _ x => (cOpd x).map fun x => .un op x
 | .convert s d x => if isBytes P s d then (cOpd x).map .bytes else (convOf P s d).bind fun c => (cOpd x).map fun x => .conv c x
 | .makeInterface t x => match P.underlying t with
  | some (.interface _) => none
  | some _ => (cOpd x).map fun x => .iface t x
  | none => none
 | .makeFunc fn first captured => (cOpds first.toList).bind fun f => (cOpds captured.toList).map fun c => .func fn f c
 | .slice t x lo hi mx => match P.underlying t with
  | some .string => if mx.isNone then (cOpd x).bind fun x => (cOpdo lo).bind fun lo => (cOpdo hi).map fun hi => .sliceS x lo hi else none
  | some (.slice e) => if mx.isSome -> hi.isSome then (P.info? e).bind fun ie => (cOpd x).bind fun x => (cOpdo lo).bind fun lo => (cOpdo hi).bind fun hi => (cOpdo mx).map fun mx => .sliceV ie.size x lo hi mx else none
  | _ => none
 | .fieldAddr t x f => match P.underlying t with
  | some (.struct fs) => (fs[f]?).bind fun fd => (P.info? fd.type).bind fun i => if i.size ≠ 0 then (cOpd x).map fun x => .fieldAddr fd.offset x else none
  | _ => none
 | .field t x f => match P.underlying t with
  | some (.struct fs) => (fs[f]?).bind fun fd => (aggSize P fd.type).bind fun n => (cOpd x).map fun x => .field n fd.offset x
  | _ => none
 | .indexAddr t x i => match P.underlying t with
  | some (.slice e) => (P.info? e).bind fun ie => (cOpd x).bind fun x => (cOpd i).map fun i => .idxSl ie.size x i
  | some (.array len e) => (P.info? e).bind fun ie => (cOpd x).bind fun x => (cOpd i).map fun i => .idxA len ie.size x i
  | _ => none
 | .index t x i => match P.underlying t with
  | some .string => (cOpd x).bind fun x => (cOpd i).map fun i => .idxS x i
  | some (.array len e) => (P.info? e).bind fun ie => (aggSize P e).bind fun n => (cOpd x).bind fun x => (cOpd i).map fun i => .idxV len ie.size n x i
  | _ => none
 | .typeAssert x _ t ok => match P.underlying t with
  | some (.interface _) => none
  | some _ => (zeroOf P t).bind fun z => (ofV z).bind fun za => (cOpd x).map fun x => .assertT t ok za x
  | none => none
 | .extract x i => (cOpd x).map fun x => .extract i x
 | .makeSlice t x y => match P.underlying t with
  | some (.slice e) => (P.info? e).bind fun ie => (zeroOf P e).bind fun z => (ofVs z.cells.toList).bind fun zs =>
   if z.cells.size = ie.size /\ ie.size ≠ 0 /\ ie.bytes ≠ 0 then (cOpd x).bind fun x => (cOpd y).map fun y => .make ie.size ie.bytes zs x y else none
  | _ => none
 | .range t x => match P.underlying t with
  | some .string => (cOpd x).map fun x => .range x
  | _ => none
 | .next x s => if s = true then (cOpd x).map fun x => .next x else none
 | .call c => compCall P c
 | .makeMap _ none => some .mkmap
 | .lookup t x k ok => match P.underlying t with
  | some (.map kt vt) => if isStr P kt = true then (zeroOf P vt).bind fun z => (ofV z).bind fun za => (cOpd x).bind fun x => (cOpd k).map fun k => .lookup ok za x k else none
  | _ => none
 | .mapUpdate t m k v => match P.underlying t with
  | some (.map kt vt) => if isStr P kt = true /\ o.dst = none then (cOpd m).bind fun m => (cOpd k).bind fun k => (cOpd v).map fun v => .mapset m k v else none
  | _ => none
 | _ => none
end
section
variable {P : Program} {σ : Sg} {h : AHeap} {env : Env} {N : Nat} {a : Act}
theorem ofV1_rel {v : Value} {av : AV} (h : ofV1 v = some av) : Rel σ av v /\ av.isCell = true := by
 unfold ofV1 at h
 split at h
 ·cases h; exact ⟨.nil, rfl⟩
 ·split at h
  ·rename_i hz; cases h; exact ⟨Rel.clo_mk hz.1 hz.2 (fun i av hi => by simp at hi) (fun i av hi => by simp at hi), rfl⟩
  ·cases h
 ·split at h
  ·rename_i ha; cases h; exact ⟨.v _ ha, rfl⟩
  ·cases h
theorem ofVs_cells : ∀ {l : List Value} {r : List AV}, ofVs l = some r -> Cells σ r l
 | [], r, h => by simp [ofVs] at h; subst h; exact Cells.nil σ
 | v :: l, r, h => by
  simp only [ofVs, Option.bind_eq_some_iff, Option.map_eq_some_iff] at h
  obtain ⟨av, hv, r', hr, rfl⟩ := h
  obtain ⟨h1, h2⟩ := ofV1_rel (σ := σ) hv
  exact (Cells.one h1 h2).append (ofVs_cells hr)
theorem ofV_rel {v : Value} {av : AV} (h : ofV v = some av) : Rel σ av v := by
 unfold ofV at h
 split at h
 ·simp only [Option.map_eq_some_iff] at h
  obtain ⟨r, hr, rfl⟩ := h
  exact Rel.agg_mk' (ofVs_cells hr)
 ·exact (ofV1_rel h).1
theorem cOpd_rel (he : EnvRel σ env a.tmps) {x : Operand} {y : AOpd} (hx : cOpd x = some y) {av : AV} (hy : y.ev env = some av) : Rel σ av (a.eval x) := by
 cases x with
 | tmp t =>
  simp only [cOpd, Option.some.injEq] at hx; subst hx
  obtain ⟨v, h1, h2⟩ := he t av hy
  have : a.eval (.tmp t) = v := by simp [Act.eval, h1]
  rw [this]; exact h2
 | const v =>
  simp only [cOpd, Option.map_eq_some_iff] at hx
  obtain ⟨b, hb, rfl⟩ := hx
  cases hy
  exact ofV_rel hb
 | func f =>
  simp only [cOpd, Option.some.injEq] at hx; subst hx
  cases hy
  exact Rel.clo_mk rfl rfl (fun i av hi => by simp at hi) (fun i av hi => by simp at hi)
 | global g =>
  simp only [cOpd, Option.some.injEq] at hx; subst hx
  cases hy
  exact .glob g
theorem wv_some {o : Option AV} {K : AV -> Prop} (h : wv o K) : ∃ av, o = some av /\ K av := by
 cases o with
 | none => exact h.elim
 | some av => exact ⟨av, rfl, h⟩
theorem opd (he : EnvRel σ env a.tmps) {x : Operand} {y : AOpd} (hx : cOpd x = some y) {K : AV -> Prop} (h : wv (y.ev env) K) : ∃ av, Rel σ av (a.eval x) /\ K av := by
 obtain ⟨av, h1, h2⟩ := wv_some h
 exact ⟨av, cOpd_rel he hx h1, h2⟩
theorem opds (he : EnvRel σ env a.tmps) : ∀ {l : List Operand} {l' : List AOpd} {r : List AV}, cOpds l = some l' -> evs env l' = some r -> Rels σ r (l.map a.eval)
 | [], l', r, h1, h2 => by simp [cOpds] at h1; subst h1; simp [evs] at h2; subst h2; exact ⟨rfl, fun i av hi => by simp at hi⟩
 | x :: l, l', r, h1, h2 => by
  simp only [cOpds, Option.bind_eq_some_iff, Option.map_eq_some_iff] at h1
  obtain ⟨y, hy, l2, hl, rfl⟩ := h1
  simp only [evs] at h2
  split at h2
  ·rename_i av r' hav hr
   cases h2
   obtain ⟨g1, g2⟩ := opds he hl hr
   refine ⟨by simp [g1], fun i b hi => ?_⟩
   cases i with
   | zero => simp at hi; subst hi; exact ⟨_, rfl, cOpd_rel he hy hav⟩
   | succ i => exact g2 i b (by simpa using hi)
  ·cases h2
theorem opdo (he : EnvRel σ env a.tmps) {x : Option Operand} {y : Option AOpd} (hx : cOpdo x = some y) {r : Option AV} (hr : evo env y = some r) : RelO σ r (x.map a.eval) /\ (x.isSome = r.isSome) := by
 cases x with
 | none => simp [cOpdo] at hx; subst hx; simp [evo] at hr; subst hr; exact ⟨.none, rfl⟩
 | some x =>
  simp only [cOpdo, Option.map_eq_some_iff] at hx
  obtain ⟨z, hz, rfl⟩ := hx
  simp only [evo] at hr
  split at hr
  ·rename_i av hav; cases hr; exact ⟨.some (cOpd_rel he hz hav), rfl⟩
  ·cases hr
theorem parts_ok (he : EnvRel σ env a.tmps) {place : Nat -> Option (Nat × Nat)} : ∀ {l : List (Nat × Operand)} {l' : List ((Nat × Nat) × AOpd)} {r : List ((Nat × Nat) × AV)}, cParts place l = some l' -> evp env l' = some r ->
  (l.map fun (i, x) => (i, a.eval x)).length = r.length /\ ∀ (i : Nat) (b : (Nat × Nat) × AV), r[i]? = some b -> ∃ (k : Nat) (x : Value), (l.map fun (i, x) => (i, a.eval x))[i]? = some (k, x) /\ place k = some b.1 /\ Rel σ b.2 x
 | [], l', r, h1, h2 => by simp [cParts] at h1; subst h1; simp [evp] at h2; subst h2; exact ⟨rfl, fun i av hi => by simp at hi⟩
 | (k, x) :: l, l', r, h1, h2 => by
  simp only [cParts, Option.bind_eq_some_iff, Option.map_eq_some_iff] at h1
  obtain ⟨pl, hpl, y, hy, l2, hl, rfl⟩ := h1
  simp only [evp] at h2
  split at h2
  ·rename_i av r' hav hr
   cases h2
   obtain ⟨g1, g2⟩ := parts_ok he hl hr
   refine ⟨by simpa using g1, fun i b hi => ?_⟩
   cases i with
   | zero => simp at hi; subst hi; exact ⟨k, _, rfl, hpl, cOpd_rel he hy hav⟩
   | succ i => exact g2 i b (by simpa using hi)
  ·cases h2
theorem isStr_u {t : TypeId} (h : isStr P t = true) : P.underlying t = some .string := by
 unfold isStr at h
 split at h
 ·assumption
 ·cases h
theorem check_str {kt : TypeId} (hk : P.underlying kt = some .string) (e : Bool) (n : Nat) (s : ByteArray) (w : World) : (Instr.checkKey e (n + 1) kt (.string s)).run P w = .ok () w := by
 simp only [Instr.checkKey, Sem.run_bind, run_underlying hk, Result.andThen_ok, Sem.run_pure]
theorem findKey_str {kt : TypeId} (hk : P.underlying kt = some .string) {s : ByteArray} {es : List MapEntry} {q : Option (Nat × Value)} (hq : Instr.findNow .string (.string s) es 0 = some q) (w : World) : (Instr.findKey kt (.string s) es).run P w = .ok q w := by
 simp only [Instr.findKey, Sem.run_bind, run_underlying hk, Result.andThen_ok, hq, Sem.run_pure]
theorem ba_eq {s t : ByteArray} (h : (s == t) = true) : s = t := by
 obtain ⟨a⟩ := s
 obtain ⟨b⟩ := t
 have h1 : (a == b) = true := h
 have h2 := eq_of_beq h1
 subst h2; rfl
theorem ba_refl (s : ByteArray) : (s == s) = true := by
 obtain ⟨a⟩ := s
 show (a == a) = true
 simp
theorem find_ok {s : ByteArray} : ∀ {es : List MapEntry} {l : List AV} {r : Option AV} (i : Nat), Ents σ es l -> findE s l = some r ->
  ∃ q, Instr.findNow .string (.string s) es i = some q /\ ((r = none /\ q = none) ∨ ∃ av j v, r = some av /\ q = some (j, v) /\ Rel σ av v)
 | [], [], r, i, he, hf => by simp only [findE, Option.some.injEq] at hf; subst hf; exact ⟨none, rfl, .inl ⟨rfl, rfl⟩⟩
 | [], _ :: _, r, i, he, hf => he.elim
 | _ :: _, [], r, i, he, hf => he.elim
 | e :: es, p :: l, r, i, ⟨⟨k, v, h1, h2, h3⟩, he⟩, hf => by
  subst h1
  simp only [findE] at hf
  split at hf
  ·rename_i t v' heq
   simp only [AV.tuple.injEq, List.cons.injEq, and_true] at heq
   obtain ⟨rfl, rfl⟩ := heq
   generalize hek : e.key = ek at h2
   cases h2 with
   | v _ _ =>
   simp only [Instr.findNow, hek, Instr.sameNow]
   cases hst : (s == t) with
   | true =>
    rw [hst] at hf
    simp only [if_true, Option.some.injEq] at hf
    subst hf
    exact ⟨_, rfl, .inr ⟨_, _, _, rfl, rfl, h3⟩⟩
   | false =>
    rw [hst] at hf
    simp only [Bool.false_eq_true, if_false] at hf
    exact find_ok (i + 1) he hf
  ·cases hf
theorem set_ok {s : ByteArray} {v : AV} {x : Value} (hv : Rel σ v x) (c : Nat) : ∀ {es : List MapEntry} {l l' : List AV} (i : Nat), Ents σ es l -> setE s v l = some l' ->
  (∃ j w e, Instr.findNow .string (.string s) es i = some (some (i + j, w)) /\ es[j]? = some e /\ e.key = .string s /\ Ents σ (es.modify j fun e => { e with key := .string s, val := x }) l') ∨
  (Instr.findNow .string (.string s) es i = some none /\ Ents σ (es ++ [{ key := .string s, val := x, born := c }]) l')
 | [], [], l', i, he, hf => by
  simp only [setE, Option.some.injEq] at hf; subst hf
  exact .inr ⟨rfl, ⟨_, _, rfl, .v _ rfl, hv⟩, trivial⟩
 | [], _ :: _, l', i, he, hf => he.elim
 | _ :: _, [], l', i, he, hf => he.elim
 | e :: es, p :: l, l', i, ⟨⟨k, w, h1, h2, h3⟩, he⟩, hf => by
  subst h1
  simp only [setE] at hf
  split at hf
  ·rename_i t v' heq
   simp only [AV.tuple.injEq, List.cons.injEq, and_true] at heq
   obtain ⟨rfl, rfl⟩ := heq
   generalize hek : e.key = ek at h2
   cases h2 with
   | v _ _ =>
   simp only [Instr.findNow, hek, Instr.sameNow]
   cases hst : (s == t) with
   | true =>
    rw [hst] at hf
    simp only [if_true, Option.some.injEq] at hf
    subst hf
    have hts : s = t := ba_eq hst
    exact .inl ⟨0, _, e, rfl, rfl, by rw [hek, hts], ⟨_, _, rfl, .v _ rfl, hv⟩, he⟩
   | false =>
    rw [hst] at hf
    simp only [Bool.false_eq_true, if_false, Option.map_eq_some_iff] at hf
    obtain ⟨l2, hl2, rfl⟩ := hf
    rcases set_ok hv c (i + 1) he hl2 with ⟨j, w', e', g1, g2, g3, g4⟩ | ⟨g1, g2⟩
    ·refine .inl ⟨j + 1, w', e', ?_, by simpa using g2, g3, ?_⟩
     ·simp only [g1]; congr 3; omega
     ·simp only [List.modify_succ_cons]
      exact ⟨⟨_, _, rfl, by rw [hek]; exact .v _ rfl, h3⟩, g4⟩
    ·exact .inr ⟨g1, ⟨_, _, rfl, by rw [hek]; exact .v _ rfl, h3⟩, g2⟩
  ·cases hf
def putE (env : Env) (dst : Option Tmp) (av : AV) : Env :=
 match dst with
 | some d => (d, av) :: env
 | none => env
def Behind (σ : Sg) (N : Nat) (env : Env) (dst : Option Tmp) (K : AV -> AHeap -> Prop) (a' : Act) (w' : World) : Prop :=
 ∃ σ' h' av, σ'.w = w' /\ Le σ σ' /\ St σ' h' (putE env dst av) N a' /\ K av h'
theorem St.put (hs : St σ h env N a) {σ' : Sg} {h' : AHeap} (hl : Le σ σ') (hi : Inv h' σ') {dst : Option Tmp} (hd : ∀ d, dst = some d -> d < N) {av : AV} {z : Value} (hr : Rel σ' av z) : St σ' h' (putE env dst av) N (a.put dst z) := by
 cases dst with
 | none => exact ⟨hi, hs.env.mono hl, hs.size, hs.defers⟩
 | some d =>
  refine ⟨hi, (hs.env.mono hl).put (by rw [hs.size]; exact hd d rfl) hr, ?_, hs.defers⟩
  show (a.tmps.setIfInBounds d z).size = N
  simp [hs.size]
theorem value_wp {o : Oper} (hs : St σ h env N a) (hd : ∀ d, o.dst = some d -> d < N) {K : AV -> AHeap -> Prop} {σ' : Sg} {h' : AHeap} {av : AV} {z : Value} (hrun : (execOp a.eval o).run P σ.w = .ok (.value z) σ'.w) (hl : Le σ σ') (hi : Inv h' σ') (hr : Rel σ' av z) (hk : K av h') (Q : Exit -> Act -> World -> Prop) :
  o.wp P a σ.w (Behind σ N env o.dst K) Q := by
 unfold Oper.wp
 rw [hrun]
 exact ⟨σ', h', av, rfl, hl, hs.put hl hi hd hr, hk⟩
theorem zeroOf_run {t : TypeId} {z : Value} (h : zeroOf P t = some z) (w : World) : (zeroValue t).run P w = .ok z w := by
 unfold zeroOf at h
 simp only [Option.bind_eq_some_iff] at h
 obtain ⟨i, hi, hz⟩ := h
 simp [zeroValue, typeInfo, hi, hz]
theorem zeroOf_info {t : TypeId} {z : Value} (h : zeroOf P t = some z) {i : TypeInfo} (hi : P.info? t = some i) : i.zero = some z := by
 unfold zeroOf at h
 simp only [hi, Option.bind_some] at h
 exact h
theorem run_places (fs : List Field) (hf : ∀ f ∈ fs, (P.info? f.type).isSome = true) (w : World) :
  (fs.mapM fun f => (do pure (f.offset, ← sizeOf f.type) : Sem (Nat × Nat))).run P w = .ok (fs.map fun f => (f.offset, ((P.info? f.type).map (·.size)).getD 0)) w := by
 induction fs with
 | nil => rfl
 | cons f fs ih =>
  obtain ⟨i, hi⟩ := Option.isSome_iff_exists.1 (hf f (by simp))
  have := ih (fun g hg => hf g (by simp [hg]))
  simp only [List.mapM_cons, Sem.run_bind, sizeOf, typeInfo, run_program, Result.andThen_ok, hi, Sem.run_pure] at this ⊢
  rw [this]
  simp [hi]
end
section
variable {P : Program} {σ : Sg} {h : AHeap} {env : Env} {N : Nat} {a : Act}
theorem still_wp {o : Oper} (hs : St σ h env N a) (hd : ∀ d, o.dst = some d -> d < N) {K : AV -> AHeap -> Prop} {s : Sem Value} (he : execOp a.eval o = (do pure (.value (← s)) : Sem Next)) (hk : ∃ av z, K av h /\ Rel σ av z /\ s.run P σ.w = .ok z σ.w) (Q : Exit -> Act -> World -> Prop) :
  o.wp P a σ.w (Behind σ N env o.dst K) Q := by
 obtain ⟨av, z, k1, k2, k3⟩ := hk
 exact value_wp (σ' := σ) hs hd (by rw [he]; simp [k3]) (Le.refl σ) hs.inv k2 k1 Q
theorem Rels.append {l1 l2 : List AV} {x1 x2 : List Value} (h1 : Rels σ l1 x1) (h2 : Rels σ l2 x2) : Rels σ (l1 ++ l2) (x1 ++ x2) := by
 refine ⟨by simp [h1.1, h2.1], fun i av hi => ?_⟩
 by_cases hl : i < l1.length
 ·rw [List.getElem?_append_left hl] at hi
  rw [List.getElem?_append_left (by rw [h1.1]; exact hl)]
  exact h1.2 i av hi
 ·rw [List.getElem?_append_right (by omega)] at hi
  rw [List.getElem?_append_right (by rw [h1.1]; omega), h1.1]
  exact h2.2 _ av hi
theorem zerosOf_cells {size len : Nat} {z : Value} {zs : List AV} (hz : Cells σ zs z.cells.toList) (hzs : z.cells.size = size) (h0 : size ≠ 0) :
  Cells σ (zerosOf size len zs) ((Array.range (len * size)).map ((if len * size = 0 then #[] else z.cells)[· % (if len * size = 0 then #[] else z.cells).size]!)).toList := by
 by_cases hn : len * size = 0
 ·simp [zerosOf, hn]; exact Cells.nil σ
 ·rw [if_neg hn]
  refine ⟨by simp [zerosOf], fun i av hi => ?_⟩
  have hlt : i < len * size := by
   have := (List.getElem?_eq_some_iff.1 hi).1
   simpa [zerosOf] using this
  simp only [zerosOf, List.getElem?_map, List.getElem?_range hlt, Option.map_some, Option.some.injEq] at hi
  have hm : i % size < zs.length := by rw [← hz.1]; simp [hzs]; exact Nat.mod_lt _ (by omega)
  obtain ⟨c1, x, hx, hr⟩ := hz.2 (i % size) av (by rw [← hi, List.getD_eq_getElem?_getD, List.getElem?_eq_getElem hm]; rfl)
  refine ⟨c1, x, ?_, hr⟩
  simp only [Array.getElem?_toList] at hx
  have hlt2 : i % z.cells.size < z.cells.size := by rw [hzs]; exact Nat.mod_lt _ (by omega)
  simp only [Array.toList_map, List.getElem?_map, Array.toList_range, List.getElem?_range hlt, Option.map_some]
  rw [hzs] at hlt2 ⊢
  simp [getElem!_def, hx]
theorem make_ok {t e : TypeId} {ie : TypeInfo} (hi : Inv h σ) (hu : P.underlying t = some (.slice e)) (hie : P.info? e = some ie) {z : Value} {zs : List AV} (hz : ie.zero = some z) (hzc : Cells σ zs z.cells.toList) (hzs : z.cells.size = ie.size) (hsz : ie.size ≠ 0) (hb : ie.bytes ≠ 0)
  {p q : AV} {x y : Value} (hp : Rel σ p x) (hq : Rel σ q y) {K : AV -> AHeap -> Prop} (hk : made h ie.size ie.bytes zs p q K) :
  ∃ σ' av h' v, (Instr.makeSlice t x y).run P σ.w = .ok v σ'.w /\ Le σ σ' /\ Inv h' σ' /\ Rel σ' av v /\ K av h' := by
 unfold made at hk
 split at hk
 ·rename_i k l k' c
  obtain ⟨⟨h0, h1, h2⟩, hk⟩ := hk
  cases hp with
  | v _ _ =>
  cases hq with
  | v _ _ =>
  have hb1 : (1 : Int) <= (ie.bytes : Int) := by omega
  have hc0 : c <= 140737488355328 := by
   have : c * 1 <= c * (ie.bytes : Int) := Int.mul_le_mul_of_nonneg_left hb1 (by omega)
   omega
  have wl : IntKind.i64.wrap l = l := by simp [IntKind.wrap, IntKind.signed, IntKind.bits]; omega
  have wc : IntKind.i64.wrap c = c := by simp [IntKind.wrap, IntKind.signed, IntKind.bits]; omega
  obtain ⟨σ', g1, g2, g3, g4⟩ := alloc_ok hi (zerosOf_cells (size := ie.size) (len := c.toNat) hzc hzs hsz) e
  have n1 : ¬ (281474976710656 < (ie.bytes : Int) * c) := by rw [Int.mul_comm]; omega
  have n2 : ¬ c < 0 := by omega
  have n3 : ¬ l < 0 := by omega
  have n4 : ¬ c < l := by omega
  refine ⟨σ', _, _, .slice (some ⟨σ.w.heap.size, 0, none⟩) l.toNat c.toNat, ?_, g2, g3, ?_, hk⟩
  ·rw [g1]
   have a1 : (asIntOf (.int k l)).run P σ.w = .ok (k, l) σ.w := rfl
   have a2 : (asIntOf (.int k' c)).run P σ.w = .ok (k', c) σ.w := rfl
   simp only [Instr.makeSlice, Sem.run_bind, run_underlying hu, Result.andThen_ok, asInt, Sem.run_map, a1, a2, Sem.run_pure, typeInfo, run_program, hie, wl, wc]
   by_cases hn : c.toNat * ie.size = 0
   ·simp [n1, n2, n3, n4, run_askRoom, sizeOf, typeInfo, hie, newRow, run_newObj, hn]
    congr 2
    apply Array.ext'
    simp
   ·simp [n1, n2, n3, n4, run_askRoom, sizeOf, typeInfo, hie, zeroValue, hz, newRow, run_newObj, hn]
    congr 2
    apply Array.ext'
    simp
  ·cases g4 with
   | ptr _ _ _ hb =>
    refine .row _ _ _ _ _ _ _ hb (by omega) (Nat.le_refl _) fun o ho => ?_
    rw [g1]
    rw [blk_cell (heap_alloc_new σ.w _)]
    have hlen : (zerosOf ie.size c.toNat zs).length = c.toNat * ie.size := by simp [zerosOf]
    have hc2 := (zerosOf_cells (σ := σ) (size := ie.size) (len := c.toNat) hzc hzs hsz).1
    have : o < c.toNat * ie.size := by omega
    simp at hc2 ⊢
    omega
 ·exact hk.elim
theorem make0_ok {t e : TypeId} {ie : TypeInfo} (hi : Inv h σ) (hu : P.underlying t = some (.slice e)) (hie : P.info? e = some ie) {z : Value} {zs : List AV} (hz : ie.zero = some z) (hzc : Cells σ zs z.cells.toList) (hzs : z.cells.size = ie.size) (hsz : ie.size ≠ 0) (hb : ie.bytes ≠ 0)
  {p q : AV} {x y : Value} (hp : Rel σ p x) (hq : Rel σ q y) {K : AV -> AHeap -> Prop} (hk : made0 h ie.size ie.bytes p q K) :
  ∃ σ' av h' v, (Instr.makeSlice t x y).run P σ.w = .ok v σ'.w /\ Le σ σ' /\ Inv h' σ' /\ Rel σ' av v /\ K av h' := by
 unfold made0 at hk
 split at hk
 ·rename_i k l k' c
  obtain ⟨⟨rfl, h1, h2, h3⟩, hk⟩ := hk
  cases hp with
  | v _ _ =>
  cases hq with
  | v _ _ =>
  have hb1 : (1 : Int) <= (ie.bytes : Int) := by omega
  have hc0 : c <= 140737488355328 := by
   have : c * 1 <= c * (ie.bytes : Int) := Int.mul_le_mul_of_nonneg_left hb1 (by omega)
   omega
  have wl : IntKind.i64.wrap 0 = 0 := by decide
  have wc : IntKind.i64.wrap c = c := by simp [IntKind.wrap, IntKind.signed, IntKind.bits]; omega
  have hcells := zerosOf_cells (σ := σ) (size := ie.size) (len := c.toNat) hzc hzs hsz
  obtain ⟨cs, hcs⟩ : ∃ cs, cs = ((Array.range (c.toNat * ie.size)).map ((if c.toNat * ie.size = 0 then #[] else z.cells)[· % (if c.toNat * ie.size = 0 then #[] else z.cells).size]!)).toList := ⟨_, rfl⟩
  rw [← hcs] at hcells
  have hlen : cs.length = c.toNat := by rw [hcs]; simp [h3]
  obtain ⟨σ', g1, g2, g3, g4⟩ := register_new hi cs e (Past.refl σ.w) rfl
  have n1 : ¬ (281474976710656 < (ie.bytes : Int) * c) := by rw [Int.mul_comm]; omega
  have n2 : ¬ c < 0 := by omega
  refine ⟨σ', _, _, .slice (some ⟨σ.w.heap.size, 0, none⟩) 0 c.toNat, ?_, g2, g3, ?_, hk⟩
  ·rw [g1]
   have a1 : (asIntOf (.int k 0)).run P σ.w = .ok (k, 0) σ.w := rfl
   have a2 : (asIntOf (.int k' c)).run P σ.w = .ok (k', c) σ.w := rfl
   simp only [Instr.makeSlice, Sem.run_bind, run_underlying hu, Result.andThen_ok, asInt, Sem.run_map, a1, a2, Sem.run_pure, typeInfo, run_program, hie, wl, wc]
   by_cases hn : c.toNat * ie.size = 0
   ·rw [hcs]
    simp [n1, n2, run_askRoom, sizeOf, typeInfo, hie, newRow, run_newObj, hn]
    congr 2
    apply Array.ext'
    simp
   ·rw [hcs]
    simp [n1, n2, run_askRoom, sizeOf, typeInfo, hie, zeroValue, hz, newRow, run_newObj, hn]
    congr 2
    apply Array.ext'
    simp
  ·have ht : tokOK σ' (.own h.bufs.length) 0 (some ⟨σ.w.heap.size, 0, none⟩) c.toNat := ⟨_, g4, Nat.le_refl _, fun _ => ⟨rfl, hlen⟩⟩
   exact Rel.sl [] (.own h.bufs.length) σ.w.heap.size 0 c.toNat 1 (fun _ _ => undef) (fun i el hi => by simp at hi) (Nat.zero_le _) ht (fun id e' hid he => by cases hid; rw [g4] at he; cases he; rfl) (fun i el hi => by simp at hi) (fun i el hi => by simp at hi)
 ·exact hk.elim
theorem minmax_fold (mx : Bool) : ∀ (n : Nat) (l : List AV) (x : Value) (rest : List Value) (v : Value), l.length = n -> mmx mx l = some v -> Rels σ l (x :: rest) -> ∀ (w : World), atom v = true /\
  (rest.foldlM (if mx then Builtin.max2 else Builtin.min2) x).run P w = .ok v w := by
 intro n
 induction n using Nat.strongRecOn with
 | _ n ih =>
  intro l x rest v hn hm hr w
  unfold mmx at hm
  split at hm
  ·rename_i k y
   cases hm
   match rest, hr.1 with
   | [], _ =>
    obtain ⟨z, h1, h2⟩ := hr.2 0 _ rfl
    simp at h1; subst h1
    cases h2
    exact ⟨rfl, rfl⟩
  ·rename_i k a k' b r
   match rest, hr.1 with
   | y1 :: rest, hl =>
    obtain ⟨z, h1, h2⟩ := hr.2 0 _ rfl
    simp at h1; subst h1
    obtain ⟨z2, h3, h4⟩ := hr.2 1 _ rfl
    simp at h3; subst h3
    cases h2
    cases h4
    have := ih (r.length + 1) (by rw [← hn]; simp) _ (.int k (if mx then (if b > a then b else a) else (if b < a then b else a))) rest v (by simp) hm ⟨by simpa using hl, fun i av hi => by
     cases i with
     | zero => simp at hi; subst hi; exact ⟨_, rfl, .v _ rfl⟩
     | succ i =>
      obtain ⟨q, q1, q2⟩ := hr.2 (i + 2) av (by simpa using hi)
      exact ⟨q, by simpa using q1, q2⟩⟩ w
    refine ⟨this.1, ?_⟩
    have h2 := this.2
    cases mx
    ·simp only [List.foldlM_cons, Bool.false_eq_true, if_false, Builtin.min2, Sem.run_bind, Sem.run_pure, Result.andThen_ok] at h2 ⊢
     exact h2
    ·simp only [List.foldlM_cons, if_true, Builtin.max2, Sem.run_bind, Sem.run_pure, Result.andThen_ok] at h2 ⊢
     exact h2
  ·cases hm
theorem min_ok {l : List AV} {v : Value} (hm : mmx false l = some v) {xs : Array Value} (hr : Rels σ l xs.toList) (ats : Array TypeId) (ty : TypeId) (w : World) : atom v = true /\ (Builtin.min_ ats ty xs).run P w = .ok v w := by
 unfold Builtin.min_
 cases hx : xs.toList with
 | nil =>
  rw [hx] at hr
  have : l = [] := List.eq_nil_of_length_eq_zero (by simpa using hr.1.symm)
  subst this; simp [mmx] at hm
 | cons x rest => rw [hx] at hr; simpa using minmax_fold (P := P) false _ l x rest v rfl hm hr w
theorem max_ok {l : List AV} {v : Value} (hm : mmx true l = some v) {xs : Array Value} (hr : Rels σ l xs.toList) (ats : Array TypeId) (ty : TypeId) (w : World) : atom v = true /\ (Builtin.max_ ats ty xs).run P w = .ok v w := by
 unfold Builtin.max_
 cases hx : xs.toList with
 | nil =>
  rw [hx] at hr
  have : l = [] := List.eq_nil_of_length_eq_zero (by simpa using hr.1.symm)
  subst this; simp [mmx] at hm
 | cons x rest => rw [hx] at hr; simpa using minmax_fold (P := P) true _ l x rest v rfl hm hr w
theorem bytes_ok (hi : Inv h σ) {s d : TypeId} (hb : isBytes P s d = true) (str : ByteArray) : ∃ σ' z, (convert s d (.string str)).run P σ.w = .ok z σ'.w /\ Le σ σ' /\ Inv h σ' /\ Rel σ' (.sl (byteEls str.data.toList) .no) z := by
 unfold isBytes at hb
 split at hb
 ·rename_i e hs hd
  split at hb
  ·rename_i he
   have hrun := Lib.run_convert_string_bytes (P := P) σ.w s d e str hs hd he
   obtain ⟨c, hcdef⟩ : ∃ c, c = grownCap σ.w str.size 0 e := ⟨_, rfl⟩
   have hcge : str.size <= c := by rw [hcdef]; simp [grownCap, Question.cut]
   rw [← hcdef] at hrun
   have hp : Past σ.w (Lib.bytesWorld σ.w e str) := ⟨by rw [Lib.bytesWorld_size]; omega, fun b hb => Lib.bytesWorld_at_old σ.w e str b hb, rfl, rfl, rfl⟩
   have hnew := Lib.bytesWorld_at_new σ.w e str
   have hblt : ∀ m b, σ.blk m = some b -> b < σ.w.heap.size := by
    intro m b hm
    exact hi.lt hm
   have hll : str.data.toList.length = str.size := by simp
   have hle := Le.world (σ := σ) hp
   refine ⟨{ σ with w := Lib.bytesWorld σ.w e str }, _, hrun, hle, hi.world hp, ?_⟩
   have hlies : Lies { σ with w := Lib.bytesWorld σ.w e str } σ.w.heap.size 0 (str.data.toList.map fun b => Value.int .u8 b.toNat) := by
    intro k v hk
    have hlt' : k < str.size := by
     have := (List.getElem?_eq_some_iff.1 hk).1
     simpa using this
    refine ⟨?_, ?_⟩
    ·show (Lib.bytesWorld σ.w e str).cell? _ = some v
     rw [blk_cell hnew, Nat.zero_add]
     unfold Lib.bytesCells
     rw [Array.getElem?_append_left (by simpa using hlt')]
     simpa [← Array.getElem?_toList] using hk
    ·rintro (hx | hx)
     ·have := (hi.outer _ _ hx).1; omega
     ·rcases hx with ⟨m, hm⟩ | ⟨i, g, hg, hs⟩
      ·have := hblt m _ hm; omega
      ·have := hi.buflt i g _ _ hg hs; omega
   have := sl_mk (σ := { σ with w := Lib.bytesWorld σ.w e str }) (tok := .no) (cap := c) (byteEls_size str.data.toList) (byteEls_cells _ str.data.toList) hlies (by rw [byteEls_length]; omega) trivial (fun i g hid hg => by cases hid)
   rw [byteEls_length, hll] at this
   exact this
  ·cases hb
 ·cases hb
theorem deglob_rel (hi : Inv h σ) {p : AV} {x : Value} (hr : Rel σ p x) : Rel σ (deglob h p) x := by
 unfold deglob
 split
 ·rename_i n
  split
  ·rename_i q hq
   have h1 := List.mem_of_find?_eq_some hq
   have h2 := List.find?_some hq
   have h3 : q.1 = n := by simpa using h2
   cases hr with
   | glob _ => exact h3 ▸ hi.glob q.1 q.2 h1
  ·exact hr
 ·exact hr
theorem lookedR_rel {ok : Bool} {b : Bool} {a : AV} {v : Value} (h : Rel σ a v) : Rel σ (if ok = true then .tuple [a, .v (.bool b)] else a) (if ok = true then .tuple #[v, .bool b] else v) := by
 cases ok with
 | false => exact h
 | true =>
  refine Rel.tuple_mk (by simp) fun i av hi => ?_
  match i with
  | 0 => simp at hi; subst hi; exact ⟨_, rfl, h⟩
  | 1 => simp at hi; subst hi; exact ⟨_, rfl, .v _ rfl⟩
  | k + 2 => simp at hi
theorem looked_ok (hi : Inv h σ) {t kt vt : TypeId} (hu : P.underlying t = some (.map kt vt)) (hks : P.underlying kt = some .string) {z : Value} {za : AV} (hz : (zeroValue vt).run P σ.w = .ok z σ.w) (hza : Rel σ za z)
  {xv kv : AV} {x k : Value} (hx : Rel σ xv x) (hk : Rel σ kv k) {ok : Bool} {K : AV -> Prop} (h1 : looked h ok za xv kv K) :
  ∃ av y, K av /\ Rel σ av y /\ (Instr.lookup t x k ok).run P σ.w = .ok y σ.w := by
 unfold looked at h1
 split at h1
 ·rename_i s
  cases hk with
  | v _ _ =>
  split at h1
  ·rename_i n
   split at h1
   ·rename_i l hl
    split at h1
    ·rename_i r hr
     cases hx with
     | mp _ b hb =>
     obtain ⟨b', hb', hbk⟩ := hi.blk n _ hl
     rw [hb] at hb'; cases hb'
     obtain ⟨es, clock, hit, hent⟩ := hbk.entries
     obtain ⟨q, hq, hqr⟩ := find_ok 0 hent hr
     have c1 := check_str (P := P) hks es.isEmpty 9999 s σ.w
     have c2 := findKey_str (P := P) hks hq σ.w
     have c3 : (getObj b).run P σ.w = .ok (.map es clock) σ.w := by simp [getObj, Sem.run, hit, Result.andThen]
     rcases hqr with ⟨rfl, rfl⟩ | ⟨av, j, v, rfl, rfl, hv⟩
     ·refine ⟨_, _, h1, lookedR_rel (b := false) hza, ?_⟩
      simp only [Instr.lookup, Sem.run_bind, run_underlying hu, Result.andThen_ok, c3, Sem.run_pure, c1, c2, hz]
     ·refine ⟨_, _, h1, lookedR_rel (b := true) hv, ?_⟩
      simp only [Instr.lookup, Sem.run_bind, run_underlying hu, Result.andThen_ok, c3, Sem.run_pure, c1, c2]
    ·exact h1.elim
   ·exact h1.elim
  ·cases hx with
   | v _ _ =>
   have c1 := check_str (P := P) hks (#[] : Array MapEntry).isEmpty 9999 s σ.w
   have c2 := findKey_str (P := P) hks (s := s) (es := (#[] : Array MapEntry).toList) rfl σ.w
   refine ⟨_, _, h1, lookedR_rel (b := false) hza, ?_⟩
   simp only [Instr.lookup, Sem.run_bind, run_underlying hu, Result.andThen_ok, Sem.run_pure, c1, c2, hz]
  ·exact h1.elim
 ·exact h1.elim
theorem mapset_ok (hi : Inv h σ) {t kt vt : TypeId} (hu : P.underlying t = some (.map kt vt)) (hks : P.underlying kt = some .string)
  {mv kv vv : AV} {m k x : Value} (hm : Rel σ mv m) (hk : Rel σ kv k) (hv : Rel σ vv x) {K : AHeap -> Prop} (h1 : mapsetd h mv kv vv K) :
  ∃ σ' h', (Instr.mapUpdate t m k x).run P σ.w = .ok () σ'.w /\ Le σ σ' /\ Inv h' σ' /\ K h' := by
 unfold mapsetd at h1
 split at h1
 ·rename_i s
  cases hk with
  | v _ _ =>
  split at h1
  ·rename_i n
   split at h1
   ·rename_i l hl
    split at h1
    ·rename_i l' hl'
     cases hm with
     | mp _ b hb =>
     obtain ⟨b', hb', hbk⟩ := hi.blk n _ hl
     rw [hb] at hb'; cases hb'
     obtain ⟨es, clock, hit, hent⟩ := hbk.entries
     have hlt := hbk.lt
     have c1 := check_str (P := P) hks false 9999 s σ.w
     have c3 : (getObj b).run P σ.w = .ok (.map es clock) σ.w := by simp [getObj, Sem.run, hit, Result.andThen]
     have key : ∀ (es' : Array MapEntry) (c' : Nat), Ents σ es'.toList l' -> (Instr.mapUpdate t (.map (some b)) (.string s) x).run P σ.w = .ok () { σ.w with heap := σ.w.heap.setIfInBounds b (.map es' c') } ->
       ∃ σ' h', (Instr.mapUpdate t (.map (some b)) (.string s) x).run P σ.w = .ok () σ'.w /\ Le σ σ' /\ Inv h' σ' /\ K h' := by
      intro es' c' hen hrun
      obtain ⟨hle, hinv⟩ := put_ok (cells' := [.tuple l']) (w' := { σ.w with heap := σ.w.heap.setIfInBounds b (.map es' c') }) hi hb hl (by simp) (by simp) (fun i hi => by simp [Array.getElem?_setIfInBounds_ne (Ne.symm hi)]) rfl rfl rfl (fun o ho => by simp [World.cell?, hit] at ho) (fun hle => .map es' c' l' (by simp [hlt]) (hen.mono hle)) (fun hz => by cases hz with | cells _ cs rest elem hh _ => rw [hit] at hh; cases hh) (by simp) (fun x hx => by simp [World.shape?, hit] at hx)
      exact ⟨_, _, hrun, hle, hinv, h1⟩
     rcases set_ok hv clock 0 hent hl' with ⟨j, w', e, g1, g2, g3, g4⟩ | ⟨g1, g2⟩
     ·have c2 := findKey_str (P := P) hks g1 σ.w
      refine key (es.modify j fun e => { e with key := .string s, val := x }) clock (by simpa using g4) ?_
      have g5 : es[j]? = some e := by simpa [← Array.getElem?_toList] using g2
      have c4 : (Instr.keyThatStays (.string s) (.string s)).run P σ.w = .ok (.string s) σ.w := by simp [Instr.keyThatStays, Instr.sameBits, ba_refl]
      simp only [Instr.mapUpdate, Sem.run_bind, run_underlying hu, Result.andThen_ok, c3, c1, c2, Nat.zero_add, g5, Option.map_some, Option.getD_some, g3, c4]
      simp [setObj, Sem.run, hit, Result.andThen]
     ·have c2 := findKey_str (P := P) hks g1 σ.w
      refine key (es.push { key := .string s, val := x, born := clock }) (clock + 1) (by simpa using g2) ?_
      simp only [Instr.mapUpdate, Sem.run_bind, run_underlying hu, Result.andThen_ok, c3, c1, c2]
      simp [setObj, Sem.run, hit, Result.andThen]
    ·exact h1.elim
   ·exact h1.elim
  ·exact h1.elim
 ·exact h1.elim
theorem undef_rel' : Rel σ (.tuple []) (.tuple #[]) := Rel.tuple_mk rfl fun i av hi => by simp at hi
theorem ext_name {fn : Func} {n : String} (h : fn.name = n) {e : Array Value -> Sem Value} (h1 : Extern.allGenericRows.lookup n = none) (h2 : Extern.allTypedRows.lookup n = none) (h3 : Extern.allRows.lookup n = some e) : Extern.find fn = some e := by
 subst h
 simp [Extern.find, h1, h2, h3]
theorem find_index {fn : Func} (h : fn.name = "internal/bytealg.IndexByteString") : Extern.find fn = some Extern.BytealgIndexByte.indexByte := ext_name h (by kernel_rfl) (by kernel_rfl) (by kernel_rfl)
theorem find_count {fn : Func} (h : fn.name = "internal/bytealg.CountString") : Extern.find fn = some Extern.BytealgCount.count := ext_name h (by kernel_rfl) (by kernel_rfl) (by kernel_rfl)
theorem find_make {fn : Func} (h : fn.name = "internal/bytealg.MakeNoZero") : Extern.find fn = some (Extern.BytealgMakeNoZero.makeNoZero fn.params fn.resultTypes) := by
 have h1 : Extern.allGenericRows.lookup fn.name = none := by rw [h]; kernel_rfl
 have h2 : Extern.allTypedRows.lookup fn.name = some Extern.BytealgMakeNoZero.makeNoZero := by rw [h]; kernel_rfl
 simp [Extern.find, h1, h2]
theorem extOf_some {f : Operand} {k : XK} (h : extOf P f = some k) : ∃ g fn, f = .func g /\ P.funcs[g]? = some fn /\ fn.body.isNone = true /\ Extern.findNext fn = none /\
  ((k = .find /\ fn.name = "internal/bytealg.IndexByteString") ∨ (k = .cnt /\ fn.name = "internal/bytealg.CountString") ∨ ∃ t u, k = .make u /\ fn.name = "internal/bytealg.MakeNoZero" /\ fn.resultTypes = #[t] /\ P.underlying t = some (.slice u)) := by
 unfold extOf at h
 split at h
 ·rename_i g
  split at h
  ·rename_i fn hfn
   split at h
   ·rename_i hc
    refine ⟨g, fn, rfl, hfn, hc.1, by simpa using hc.2, ?_⟩
    split at h
    ·rename_i hn; cases h; exact .inl ⟨rfl, hn⟩
    ·split at h
     ·rename_i hn; cases h; exact .inr (.inl ⟨rfl, hn⟩)
     ·split at h
      ·rename_i hn
       split at h
       ·rename_i t ht
        split at h
        ·rename_i u hu
         cases h
         exact .inr (.inr ⟨t, u, rfl, hn, by apply Array.ext'; exact ht, hu⟩)
        ·cases h
       ·cases h
      ·cases h
   ·cases h
  ·cases h
 ·cases h
variable (P) in
theorem extOf_find {f : Operand} (h : extOf P f = some .find) : ∃ g fn, f = .func g /\ P.funcs[g]? = some fn /\ fn.body.isNone = true /\ Extern.findNext fn = none /\ fn.name = "internal/bytealg.IndexByteString" := by
 obtain ⟨g, fn, h1, h2, h3, h4, ⟨_, h5⟩ | ⟨h5, _⟩ | ⟨_, _, h5, _⟩⟩ := extOf_some h
 ·exact ⟨g, fn, h1, h2, h3, h4, h5⟩
 ·cases h5
 ·cases h5
variable (P) in
theorem extOf_cnt {f : Operand} (h : extOf P f = some .cnt) : ∃ g fn, f = .func g /\ P.funcs[g]? = some fn /\ fn.body.isNone = true /\ Extern.findNext fn = none /\ fn.name = "internal/bytealg.CountString" := by
 obtain ⟨g, fn, h1, h2, h3, h4, ⟨h5, _⟩ | ⟨_, h5⟩ | ⟨_, _, h5, _⟩⟩ := extOf_some h
 ·cases h5
 ·exact ⟨g, fn, h1, h2, h3, h4, h5⟩
 ·cases h5
variable (P) in
theorem extOf_make {f : Operand} {u : TypeId} (h : extOf P f = some (.make u)) : ∃ g fn t, f = .func g /\ P.funcs[g]? = some fn /\ fn.body.isNone = true /\ Extern.findNext fn = none /\ fn.name = "internal/bytealg.MakeNoZero" /\ fn.resultTypes = #[t] /\ P.underlying t = some (.slice u) := by
 obtain ⟨g, fn, h1, h2, h3, h4, ⟨h5, _⟩ | ⟨h5, _⟩ | ⟨t, u', h5, h6, h7, h8⟩⟩ := extOf_some h
 ·cases h5
 ·cases h5
 ·cases h5; exact ⟨g, fn, t, h1, h2, h3, h4, h6, h7, h8⟩
theorem direct_run {t : TypeId} {name : String} {g : FuncId} (hd : direct P t name = some g) {n : Nat} (hn : 0 < n) (v : Value) (w : World) : (method n t v name).run P w = .ok (g, v) w := by
 obtain ⟨n, rfl⟩ : ∃ k, n = k + 1 := ⟨n - 1, by omega⟩
 simp only [direct, Option.bind_eq_some_iff] at hd
 obtain ⟨i, h1, m, h2, h3⟩ := hd
 split at h3
 ·rename_i hp
  have hp' : m.path.toList = [] := by simpa [Array.isEmpty] using hp
  split at h3
  ·cases h3
  ·rename_i f d hnp hf hu
   cases h3
   unfold method
   have hrec : ∀ wr, (receiverAt t (.val v) false wr).run P w = .ok v w := by
    intro wr
    unfold receiverAt
    rw [Sem.run_bind, run_underlying hu, Result.andThen_ok]
    cases d <;> first | rfl | (exact (hnp _ rfl).elim)
   simp [typeInfo, h1, h2, hp', hp, follow, hf, hrec]
  ·cases h3
 ·cases h3
set_option maxHeartbeats 4000000 in
theorem aop_wp {o : Oper} {ao : AOp} (hc : compOp P o = some ao) (hs : St σ h env N a) (hd : ∀ d, o.dst = some d -> d < N) {K : AV -> AHeap -> Prop} (hk : aop P ao env h K) (Q : Exit -> Act -> World -> Prop) :
  o.wp P a σ.w (Behind σ N env o.dst K) Q := by
 obtain ⟨dst, op, type, pos, after, guard⟩ := o
 have he := hs.env
 cases op <;> simp only [compOp] at hc <;> (try (cases hc; done))
 case move x =>
  simp only [Option.map_eq_some_iff] at hc
  obtain ⟨y, hy, rfl⟩ := hc
  obtain ⟨av, hr, hk⟩ := opd he hy hk
  exact value_wp (σ' := σ) hs hd (by simp [execOp]) (Le.refl σ) hs.inv hr hk Q
 case assign x =>
  simp only [Option.map_eq_some_iff] at hc
  obtain ⟨y, hy, rfl⟩ := hc
  obtain ⟨av, hr, hk⟩ := opd he hy hk
  exact value_wp (σ' := σ) hs hd (by simp [execOp]) (Le.refl σ) hs.inv hr hk Q
 case pick c x y =>
  simp only [Option.bind_eq_some_iff, Option.map_eq_some_iff] at hc
  obtain ⟨c', hc', x', hx, y', hy, rfl⟩ := hc
  obtain ⟨cv, hr, hk⟩ := opd he hc' hk
  unfold pickOn at hk
  split at hk
  ·rename_i t
   generalize hce : a.eval c = ce at hr
   cases hr with
   | v _ _ =>
   cases t with
   | true =>
    obtain ⟨av, hr, hk⟩ := opd he hx (hk.1 rfl)
    exact value_wp (σ' := σ) hs hd (by simp [execOp, hce, asBool]) (Le.refl σ) hs.inv hr hk Q
   | false =>
    obtain ⟨av, hr, hk⟩ := opd he hy (hk.2 rfl)
    exact value_wp (σ' := σ) hs hd (by simp [execOp, hce, asBool]) (Le.refl σ) hs.inv hr hk Q
  ·exact hk.elim
 case alloc e =>
  split at hc
  ·rename_i u hbu
   cases hc
   obtain ⟨σ', g1, g2, g3, g4⟩ := allocB_ok hs.inv e u
   refine value_wp (σ' := σ') hs hd ?_ g2 g3 g4 hk Q
   rw [g1]
   simp [execOp, Instr.alloc, zeroOf_run (isBuilder_zero P hbu), newVar, newRow, Value.cells]
  simp only [Option.bind_eq_some_iff, Option.map_eq_some_iff] at hc
  obtain ⟨z, hz, zs, hzs, rfl⟩ := hc
  obtain ⟨σ', g1, g2, g3, g4⟩ := alloc_ok hs.inv (ofVs_cells (σ := σ) hzs) e
  refine value_wp (σ' := σ') hs hd ?_ g2 g3 g4 hk Q
  rw [g1]
  simp [execOp, Instr.alloc, zeroOf_run hz, newVar, newRow]
 case box e x =>
  simp only [Option.map_eq_some_iff] at hc
  obtain ⟨y, hy, rfl⟩ := hc
  obtain ⟨av, hr, ht, hk⟩ := opd he hy hk
  obtain ⟨σ', g1, g2, g3, g4⟩ := alloc_ok hs.inv (hr.cells (fun vs h => by subst h; simp [AV.isTuple] at ht)) e
  refine value_wp (σ' := σ') hs hd ?_ g2 g3 g4 hk Q
  rw [g1]
  simp [execOp, Instr.box, newVar, newRow]
 case build t parts =>
  split at hc
  ·rename_i fs hu
   split at hc
   ·rename_i hall
    simp only [Option.bind_eq_some_iff, Option.map_eq_some_iff] at hc
    obtain ⟨z, hz, zs, hzs, ps, hps, rfl⟩ := hc
    simp only [aop] at hk
    split at hk
    ·rename_i pv hpv
     split at hk
     ·rename_i cells hf
      obtain ⟨q1, q2⟩ := parts_ok he hps hpv
      have hpl := run_places (P := P) fs.toList (fun f hf => by simpa using (List.all_eq_true.1 hall) f hf) σ.w
      obtain ⟨cs, g1, g2⟩ := fills_ok (σ := σ) (fun i => (fs.toList.map fun f => (f.offset, ((P.info? f.type).map (·.size)).getD 0)).toArray[i]?) (parts.toList.map fun (i, x) => (i, a.eval x)) pv zs z.cells cells (ofVs_cells hzs) q1 (fun i b hb => by
       obtain ⟨k, x, e1, e2, e3⟩ := q2 i b hb
       refine ⟨k, x, e1, ?_, e3⟩
       simp only [placeOf, Option.bind_eq_some_iff, Option.map_eq_some_iff] at e2
       obtain ⟨f, hf, fi, hfi, e4⟩ := e2
       rw [← e4]
       simp [hf, hfi]) hf
      refine value_wp (σ' := σ) hs hd ?_ (Le.refl σ) hs.inv (Rel.agg_mk' g2) hk Q
      simp only [execOp, Instr.build, Sem.run_bind, zeroOf_run hz, Result.andThen_ok, run_underlying hu]
      have : (fs.mapM fun f => (do pure (f.offset, ← sizeOf f.type) : Sem (Nat × Nat))).run P σ.w = .ok (fs.toList.map fun f => (f.offset, ((P.info? f.type).map (·.size)).getD 0)).toArray σ.w := by
       rw [Array.mapM_eq_mapM_toList]
       simp only [Sem.run_map, hpl, Result.andThen_ok]
      rw [this]
      simp only [Result.andThen_ok, Array.toList_map]
      rw [g1]
      simp
     ·exact hk.elim
    ·exact hk.elim
   ·cases hc
  ·rename_i n e hu
   simp only [Option.bind_eq_some_iff, Option.map_eq_some_iff] at hc
   obtain ⟨ie, hie, z, hz, zs, hzs, ps, hps, rfl⟩ := hc
   simp only [aop] at hk
   split at hk
   ·rename_i pv hpv
    split at hk
    ·rename_i cells hf
     obtain ⟨q1, q2⟩ := parts_ok he hps hpv
     obtain ⟨cs, g1, g2⟩ := fills_ok (σ := σ) (fun i => some (i * ie.size, ie.size)) (parts.toList.map fun (i, x) => (i, a.eval x)) pv zs z.cells cells (ofVs_cells hzs) q1 q2 hf
     refine value_wp (σ' := σ) hs hd ?_ (Le.refl σ) hs.inv (Rel.agg_mk' g2) hk Q
     simp [execOp, Instr.build, zeroOf_run hz, run_underlying hu, sizeOf, typeInfo, hie, g1]
    ·exact hk.elim
   ·exact hk.elim
  ·cases hc
 case buildSlice t len parts =>
  split at hc
  ·rename_i e hu
   simp only [Option.bind_eq_some_iff] at hc
   obtain ⟨ie, hie, z, hz, zs, hzs, ps, hps, hc⟩ := hc
   split at hc
   ·rename_i hcond
    obtain ⟨c1, c2, c3⟩ := hcond
    cases hc
    simp only [aop] at hk
    split at hk
    ·rename_i pv hpv
     split at hk
     ·rename_i cells hf
      obtain ⟨hlen, hk⟩ := hk
      obtain ⟨q1, q2⟩ := parts_ok he hps hpv
      obtain ⟨σ', z', g1, g2, g3, g4⟩ := sliceLit_ok (P := P) (t := t) hs.inv hu hie (zeroOf_info hz hie) c1 (zerosOf_cells (ofVs_cells (σ := σ) hzs) c2 c3) q1 (fun i b hb => by
       obtain ⟨k, x, e1, e2, e3⟩ := q2 i b hb
       exact ⟨k, x, e1, by simpa using e2, e3⟩) hf hlen
      refine value_wp (σ' := σ') hs hd ?_ g2 g3 g4 hk Q
      have : (parts.map fun (i, x) => (i, a.eval x)) = (parts.toList.map fun (i, x) => (i, a.eval x)).toArray := by apply Array.ext'; simp
      simp only [execOp, this, Sem.run_bind, g1, Result.andThen_ok, Sem.run_pure]
     ·exact hk.elim
    ·exact hk.elim
   ·cases hc
  ·cases hc
 case range t x =>
  split at hc
  ·rename_i hu
   simp only [Option.map_eq_some_iff] at hc
   obtain ⟨y, hy, rfl⟩ := hc
   obtain ⟨av, hr, hk⟩ := opd he hy hk
   unfold ranged at hk
   split at hk
   ·rename_i s
    generalize hxe : a.eval x = xe at hr
    cases hr with
    | v _ _ =>
    obtain ⟨σ', g1, g2, g3, g4⟩ := alloc_obj hs.inv (cells := [.it s 0]) (.stringIter s 0) fun σ' _ hb => .it s 0 hb
    refine value_wp (σ' := σ') hs hd ?_ g2 g3 g4 hk Q
    rw [g1]
    simp [execOp, hxe, Instr.range, run_underlying hu, run_newObj]
   ·exact hk.elim
  ·cases hc
 case next x st =>
  split at hc
  ·rename_i hst
   subst hst
   simp only [Option.map_eq_some_iff] at hc
   obtain ⟨y, hy, rfl⟩ := hc
   obtain ⟨av, hr, hk⟩ := opd he hy hk
   unfold nexted at hk
   split at hk
   ·rename_i n
    split at hk
    ·rename_i s p hcs
     generalize hxe : a.eval x = xe at hr
     cases hr with
     | ptr _ _ b hb =>
     obtain ⟨b', hb', hbk⟩ := hs.inv.blk n _ hcs
     rw [hb] at hb'; cases hb'
     have hit := hbk.iter
     by_cases hp : p < s.size
     ·have hlt := hbk.lt
      obtain ⟨hle, hinv⟩ := put_ok (cells' := [.it s (p + (Utf8.decode s p).2)]) (w' := { σ.w with heap := σ.w.heap.setIfInBounds b (.stringIter s (p + (Utf8.decode s p).2)) }) hs.inv hb hcs (by simp) (by simp) (fun i hi => by simp [Array.getElem?_setIfInBounds_ne (Ne.symm hi)]) rfl rfl rfl (fun o ho => by simp [World.cell?, hit] at ho) (fun _ => .it _ _ (by simp [hlt])) (fun hz => by cases hz with | cells _ cs rest elem hh _ => rw [hit] at hh; cases hh) (by simp) (fun x hx => by simp [World.shape?, hit] at hx)
      refine value_wp (σ' := { σ with w := { σ.w with heap := σ.w.heap.setIfInBounds b (.stringIter s (p + (Utf8.decode s p).2)) } }) hs hd ?_ hle hinv (Rel.tuple_mk (xs := #[.bool true, goInt p, .int .i32 (Utf8.decode s p).1]) (by simp) ?_) (hk.1 hp) Q
      ·have hrun : (Instr.next (.pointer (some ⟨b, 0, none⟩)) true type).run P σ.w = .ok (.tuple #[.bool true, goInt p, .int .i32 (Utf8.decode s p).1]) { σ.w with heap := σ.w.heap.setIfInBounds b (.stringIter s (p + (Utf8.decode s p).2)) } := by
        simp only [Instr.next, getObj, setObj, Sem.run_bind, Sem.run, hit, Result.andThen, hp, if_true]
        simp [hlt]
       simp only [execOp, hxe, Sem.run_bind, hrun, Result.andThen_ok, Sem.run_pure]
      ·intro i av hi
       match i with
       | 0 => simp at hi; subst hi; exact ⟨_, rfl, .v _ rfl⟩
       | 1 => simp at hi; subst hi; exact ⟨_, rfl, .v _ rfl⟩
       | 2 => simp at hi; subst hi; exact ⟨_, rfl, .v _ rfl⟩
       | k + 3 => simp at hi
     ·refine value_wp (σ' := σ) hs hd ?_ (Le.refl σ) hs.inv (Rel.tuple_mk (xs := #[.bool false]) (by simp) ?_) (hk.2 hp) Q
      ·have hrun : (Instr.next (.pointer (some ⟨b, 0, none⟩)) true type).run P σ.w = .ok (.tuple #[.bool false]) σ.w := by
        simp only [Instr.next, getObj, setObj, Sem.run_bind, Sem.run, hit, Result.andThen, hp, if_false]
        try rfl
       simp only [execOp, hxe, Sem.run_bind, hrun, Result.andThen_ok, Sem.run_pure]
      ·intro i av hi
       match i with
       | 0 => simp at hi; subst hi; exact ⟨_, rfl, .v _ rfl⟩
       | k + 1 => simp at hi
    ·exact hk.elim
   ·exact hk.elim
  ·cases hc
 case makeSlice t x y =>
  split at hc
  ·rename_i e hu
   simp only [Option.bind_eq_some_iff] at hc
   obtain ⟨ie, hie, z, hz, zs, hzs, hc⟩ := hc
   split at hc
   ·rename_i hcond
    obtain ⟨c2, c3, c4⟩ := hcond
    simp only [Option.bind_eq_some_iff, Option.map_eq_some_iff] at hc
    obtain ⟨x', hx, y', hy, rfl⟩ := hc
    obtain ⟨xv, hxr, hk⟩ := opd he hx hk
    obtain ⟨yv, hyr, hk⟩ := opd he hy hk
    obtain ⟨σ', av, h', z', g1, g2, g3, g4, g5⟩ := hk.elim (make_ok (P := P) (t := t) hs.inv hu hie (zeroOf_info hz hie) (ofVs_cells (σ := σ) hzs) c2 c3 c4 hxr hyr) (make0_ok (P := P) (t := t) hs.inv hu hie (zeroOf_info hz hie) (ofVs_cells (σ := σ) hzs) c2 c3 c4 hxr hyr)
    refine value_wp (σ' := σ') hs hd ?_ g2 g3 g4 g5 Q
    simp only [execOp, Sem.run_bind, g1, Result.andThen_ok, Sem.run_pure]
   ·cases hc
  ·cases hc
 case load t x =>
  simp only [Option.bind_eq_some_iff, Option.map_eq_some_iff] at hc
  obtain ⟨n, hn, y, hy, rfl⟩ := hc
  obtain ⟨av, hr, hk⟩ := opd he hy hk
  exact still_wp hs hd rfl (load_ok (P := P) hs.inv hn hr hk) Q
 case store t p x =>
  split at hc
  ·rename_i hdn
   have hdn' : dst = none := hdn
   subst hdn'
   simp only [Option.bind_eq_some_iff, Option.map_eq_some_iff] at hc
   obtain ⟨n, ⟨ti, hti, rfl⟩, p', hp, x', hx, rfl⟩ := hc
   obtain ⟨pv, hpr, hk⟩ := opd he hp hk
   obtain ⟨xv, hxr, hk⟩ := opd he hx hk
   obtain ⟨σ', h', g1, g2, g3, g4⟩ := stored_ok (P := P) (t := t) hs.inv (by rw [hti]; rfl) hpr hxr hk
   unfold Oper.wp
   rw [show (execOp a.eval ⟨none, .store t p x, type, pos, after, guard⟩).run P σ.w = .ok .skip σ'.w by simp [execOp, g1]]
   exact ⟨σ', h', _, rfl, g2, ⟨g3, hs.env.mono g2, hs.size, hs.defers⟩, g4⟩
  ·cases hc
 case nilCheck x =>
  simp only [Option.map_eq_some_iff] at hc
  obtain ⟨y, hy, rfl⟩ := hc
  obtain ⟨av, hr, hk⟩ := opd he hy hk
  generalize hxe : a.eval x = xe at hr
  unfold nilOn at hk
  split at hk
  ·have hr0 := hr
   cases hr with
   | ptr _ _ b hb => exact value_wp (σ' := σ) hs hd (by simp [execOp, hxe]) (Le.refl σ) hs.inv hr0 hk Q
  ·have hr0 := hr
   cases hr with
   | elt _ _ b o xs q1 q2 => exact value_wp (σ' := σ) hs hd (by simp [execOp, hxe]) (Le.refl σ) hs.inv hr0 hk Q
  ·have hr0 := hr
   cases hr with
   | clo _ _ _ fs cs q1 q2 x y q3 q4 q5 q6 => exact value_wp (σ' := σ) hs hd (by simp [execOp, hxe]) (Le.refl σ) hs.inv hr0 hk Q
  ·exact hk.elim
 case binOp op t x y u =>
  split at hc
  ·rename_i c hcu
   split at hc
   ·rename_i hcond
    obtain ⟨hop, hif⟩ := hcond
    simp only [Option.bind_eq_some_iff, Option.map_eq_some_iff] at hc
    obtain ⟨x', hx, y', hy, rfl⟩ := hc
    obtain ⟨xv, hxr, hk⟩ := opd he hx hk
    obtain ⟨yv, hyr, hk⟩ := opd he hy hk
    obtain ⟨b, k1, k2⟩ := equal_ok (P := P) hcu hxr hyr hk x y hif op hop
    refine value_wp (σ' := σ) (z := .bool (if op = .eql then b else !b)) hs hd ?_ (Le.refl σ) hs.inv (.v _ rfl) ?_ Q
    ·simp only [execOp]
     rw [Sem.run_bind, k2]
     rfl
    ·by_cases hop2 : op = .eql
     ·simpa [hop2] using k1
     ·simpa [hop2] using k1
   ·cases hc
  ·simp only [Option.bind_eq_some_iff, Option.map_eq_some_iff] at hc
   obtain ⟨x', hx, y', hy, rfl⟩ := hc
   obtain ⟨xv, hxr, hk⟩ := opd he hx hk
   obtain ⟨yv, hyr, hk⟩ := opd he hy hk
   exact still_wp hs hd rfl (binned_ok (P := P) hxr hyr hk t x y) Q
 case unOp op t x =>
  simp only [Option.map_eq_some_iff] at hc
  obtain ⟨y, hy, rfl⟩ := hc
  obtain ⟨av, hr, hk⟩ := opd he hy hk
  exact still_wp hs hd rfl (unned_ok (P := P) hr hk) Q
 case convert s d x =>
  split at hc
  ·rename_i hb
   simp only [Option.map_eq_some_iff] at hc
   obtain ⟨y, hy, rfl⟩ := hc
   obtain ⟨av, hr, hk⟩ := opd he hy hk
   unfold asBytes at hk
   split at hk
   ·rename_i str
    cases hxe : a.eval x <;> rw [hxe] at hr <;> (try (cases hr; done))
    cases hr
    obtain ⟨σ', z, g1, g2, g3, g4⟩ := bytes_ok (P := P) hs.inv hb str
    exact value_wp (σ' := σ') hs hd (by simp [execOp, hxe, g1]) g2 g3 g4 hk Q
   ·exact hk.elim
  simp only [Option.bind_eq_some_iff, Option.map_eq_some_iff] at hc
  obtain ⟨c, hcc, y, hy, rfl⟩ := hc
  obtain ⟨av, hr, hk⟩ := opd he hy hk
  exact still_wp hs hd rfl (conved_ok (P := P) hcc hr hk) Q
 case makeInterface t x =>
  split at hc
  ·cases hc
  ·rename_i d hu hni
   simp only [Option.map_eq_some_iff] at hc
   obtain ⟨y, hy, rfl⟩ := hc
   obtain ⟨av, hr, hk⟩ := opd he hy hk
   refine value_wp (σ' := σ) (z := .iface t (a.eval x)) hs hd ?_ (Le.refl σ) hs.inv (.iface t av _ hr) hk Q
   have : (Instr.makeInterface t (a.eval x)).run P σ.w = .ok (.iface t (a.eval x)) σ.w := by
    simp only [Instr.makeInterface, Sem.run_bind, run_underlying hni, Result.andThen_ok]
    cases d <;> first | rfl | exact absurd hni (hu _)
   simp [execOp, this]
  ·cases hc
 case makeFunc fn first captured =>
  simp only [Option.bind_eq_some_iff, Option.map_eq_some_iff] at hc
  obtain ⟨f, hf, c, hcc, rfl⟩ := hc
  simp only [aop] at hk
  split at hk
  ·rename_i fv cv hfv hcv
   obtain ⟨q1, q2⟩ := opds he hf hfv
   obtain ⟨q3, q4⟩ := opds he hcc hcv
   refine value_wp (σ' := σ) (z := .func fn (first.map a.eval) (captured.map a.eval)) hs hd (by simp [execOp, Instr.makeFunc]) (Le.refl σ) hs.inv (Rel.clo_mk (by simpa using q1) (by simpa using q3) (fun i av hi => ?_) (fun i av hi => ?_)) hk Q
   ·obtain ⟨x, hx, hr⟩ := q2 i av hi
    exact ⟨x, by simpa using hx, hr⟩
   ·obtain ⟨x, hx, hr⟩ := q4 i av hi
    exact ⟨x, by simpa using hx, hr⟩
  ·exact hk.elim
 case slice t x lo hi mx =>
  split at hc
  ·rename_i hu
   split at hc
   ·rename_i hmx
    simp only [Option.bind_eq_some_iff, Option.map_eq_some_iff] at hc
    obtain ⟨x', hx, lo', hlo, hi', hhi, rfl⟩ := hc
    obtain ⟨xv, hxr, hk⟩ := opd he hx hk
    split at hk
    ·rename_i lv hv hlv hhv
     have hm0 : mx = none := by simpa using hmx
     subst hm0
     exact still_wp hs hd rfl (slicedS_ok (P := P) hu hxr (opdo he hlo hlv).1 (opdo he hhi hhv).1 hk) Q
    ·exact hk.elim
   ·cases hc
  ·rename_i e hu
   split at hc
   ·rename_i hmx
    simp only [Option.bind_eq_some_iff, Option.map_eq_some_iff] at hc
    obtain ⟨ie, hie, x', hx, lo', hlo, hi', hhi, mx', hmx', rfl⟩ := hc
    obtain ⟨xv, hxr, hk⟩ := opd he hx hk
    split at hk
    ·rename_i lv hv mv hlv hhv hmv
     refine still_wp hs hd rfl (slicedV_ok (P := P) hu hie hxr (opdo he hlo hlv).1 (opdo he hhi hhv).1 (opdo he hmx' hmv).1 hk ?_) Q
     intro h1
     have h2 := (opdo he hmx' hmv).2
     have h3 := (opdo he hhi hhv).2
     have h4 : mv.isSome = true := by cases mv <;> simp_all
     rw [h4] at h2
     have := hmx h2
     rw [h3] at this
     intro h5
     rw [h5] at this
     cases this
    ·exact hk.elim
   ·cases hc
  ·cases hc
 case fieldAddr t x f =>
  split at hc
  ·rename_i fs hu
   simp only [Option.bind_eq_some_iff] at hc
   obtain ⟨fd, hfd, i, hi, hc⟩ := hc
   split at hc
   ·rename_i hz
    simp only [Option.map_eq_some_iff] at hc
    obtain ⟨y, hy, rfl⟩ := hc
    obtain ⟨av, hr, hk⟩ := opd he hy hk
    exact still_wp hs hd rfl (fieldAddr_ok (P := P) hu hfd hi hz hr hk) Q
   ·cases hc
  ·cases hc
 case field t x f =>
  split at hc
  ·rename_i fs hu
   simp only [Option.bind_eq_some_iff, Option.map_eq_some_iff] at hc
   obtain ⟨fd, hfd, n, hn, y, hy, rfl⟩ := hc
   obtain ⟨av, hr, hk⟩ := opd he hy hk
   obtain ⟨bv, z, xs, k1, k2, k3, k4⟩ := part_ok (P := P) hn hr hk σ.w
   exact still_wp hs hd rfl ⟨bv, z, k2, k3, by simp [Instr.field, run_underlying hu, hfd, k1, asAgg, k4]⟩ Q
  ·cases hc
 case indexAddr t x i =>
  split at hc
  ·rename_i e hu
   simp only [Option.bind_eq_some_iff, Option.map_eq_some_iff] at hc
   obtain ⟨ie, hie, x', hx, i', hi, rfl⟩ := hc
   obtain ⟨xv, hxr, hk⟩ := opd he hx hk
   obtain ⟨iv, hir, hk⟩ := opd he hi hk
   exact still_wp hs hd rfl (indexed_ok (P := P) hu hie hxr hir hk) Q
  ·rename_i len e hu
   simp only [Option.bind_eq_some_iff, Option.map_eq_some_iff] at hc
   obtain ⟨ie, hie, x', hx, i', hi, rfl⟩ := hc
   obtain ⟨xv, hxr, hk⟩ := opd he hx hk
   obtain ⟨iv, hir, hk⟩ := opd he hi hk
   exact still_wp hs hd rfl (indexedA_ok (P := P) hu hie (deglob_rel hs.inv hxr) hir hk) Q
  ·cases hc
 case index t x i =>
  split at hc
  ·rename_i hu
   simp only [Option.bind_eq_some_iff, Option.map_eq_some_iff] at hc
   obtain ⟨x', hx, i', hi, rfl⟩ := hc
   obtain ⟨xv, hxr, hk⟩ := opd he hx hk
   obtain ⟨iv, hir, hk⟩ := opd he hi hk
   exact still_wp hs hd rfl (indexedS_ok (P := P) hu hxr hir hk) Q
  ·rename_i len e hu
   simp only [Option.bind_eq_some_iff, Option.map_eq_some_iff] at hc
   obtain ⟨ie, hie, n, hn, x', hx, i', hi, rfl⟩ := hc
   obtain ⟨xv, hxr, hk⟩ := opd he hx hk
   obtain ⟨iv, hir, hk⟩ := opd he hi hk
   exact still_wp hs hd rfl (indexedV_ok (P := P) hu hie hn hxr hir hk) Q
  ·cases hc
 case typeAssert x xt t ok =>
  split at hc
  ·cases hc
  ·rename_i d hni hu
   simp only [Option.bind_eq_some_iff, Option.map_eq_some_iff] at hc
   obtain ⟨z, hz, za, hza, y, hy, rfl⟩ := hc
   obtain ⟨av, hr, hk⟩ := opd he hy hk
   exact still_wp hs hd rfl (asserted_ok (P := P) hu (fun m hm => hni m hm) (zeroOf_run hz σ.w) (ofV_rel hza) hr hk) Q
  ·cases hc
 case extract x i =>
  simp only [Option.map_eq_some_iff] at hc
  obtain ⟨y, hy, rfl⟩ := hc
  obtain ⟨av, hr, hk⟩ := opd he hy hk
  exact still_wp hs hd rfl (extracted_ok (P := P) hr hk) Q
 case makeMap t r =>
  cases r with
  | some r => cases hc
  | none =>
   cases hc
   obtain ⟨σ', g1, g2, g3, g4⟩ := alloc_obj hs.inv (cells := [.tuple []]) (.map #[] 0) fun σ' _ hb => .map #[] 0 [] hb trivial
   have g5 : Rel σ' (.mp h.blks.length) (.map (some σ.w.heap.size)) := by
    cases g4 with
    | ptr _ _ _ hb => exact .mp _ _ hb
   refine value_wp (σ' := σ') hs hd ?_ g2 g3 g5 hk Q
   rw [g1]
   simp [execOp, Instr.makeMap, run_newObj]
 case lookup t x k ok =>
  split at hc
  ·rename_i kt vt hu
   split at hc
   ·rename_i hks
    simp only [Option.bind_eq_some_iff, Option.map_eq_some_iff] at hc
    obtain ⟨z, hz, za, hza, x', hx, k', hk', rfl⟩ := hc
    obtain ⟨xv, hxr, hk⟩ := opd he hx hk
    obtain ⟨kv, hkr, hk⟩ := opd he hk' hk
    exact still_wp hs hd rfl (looked_ok (P := P) hs.inv hu (isStr_u hks) (zeroOf_run hz σ.w) (ofV_rel hza) hxr hkr hk) Q
   ·cases hc
  ·cases hc
 case mapUpdate t m k x =>
  split at hc
  ·rename_i kt vt hu
   split at hc
   ·rename_i hcond
    obtain ⟨hks, hdn⟩ := hcond
    have hdn' : dst = none := hdn
    subst hdn'
    simp only [Option.bind_eq_some_iff, Option.map_eq_some_iff] at hc
    obtain ⟨m', hm, k', hk', x', hx, rfl⟩ := hc
    obtain ⟨mv, hmr, hk⟩ := opd he hm hk
    obtain ⟨kv, hkr, hk⟩ := opd he hk' hk
    obtain ⟨xv, hxr, hk⟩ := opd he hx hk
    obtain ⟨σ', h', g1, g2, g3, g4⟩ := mapset_ok (P := P) hs.inv hu (isStr_u hks) hmr hkr hxr hk
    unfold Oper.wp
    rw [show (execOp a.eval ⟨none, .mapUpdate t m k x, type, pos, after, guard⟩).run P σ.w = .ok .skip σ'.w by simp [execOp, g1]]
    exact ⟨σ', h', _, rfl, g2, ⟨g3, hs.env.mono g2, hs.size, hs.defers⟩, g4⟩
   ·cases hc
  ·cases hc
 case call c =>
  obtain ⟨callee, args, argTypes⟩ := c
  unfold compCall at hc
  split at hc
  ·rename_i heq
   have heq' : callee = .builtin .len := heq
   subst heq'
   split at hc
   ·rename_i x t hxl htl
    simp only [Option.bind_eq_some_iff, Option.map_eq_some_iff] at hc
    obtain ⟨s, hs1, y, hy, rfl⟩ := hc
    obtain ⟨av, hr, hk⟩ := opd he hy hk
    have ha : args = #[x] := by apply Array.ext'; exact hxl
    have hb : argTypes = #[t] := by apply Array.ext'; exact htl
    subst ha hb
    refine still_wp hs hd ?_ (lenned_ok (P := P) (ty := type) hs1 hr hk) Q
    simp [execOp, resolve, invoke, builtin]
   ·cases hc
  ·rename_i heq
   have heq' : callee = .builtin .append := heq
   subst heq'
   split at hc
   ·rename_i x y t u hxl htl
    have ha : args = #[x, y] := by apply Array.ext'; exact hxl
    have hb : argTypes = #[t, u] := by apply Array.ext'; exact htl
    subst ha hb
    have key : ∀ (e : TypeId) (du : TypeDesc), P.underlying t = some (.slice e) -> P.underlying u = some du -> ((∃ e, du = .slice e) ∨ du = .string) ->
      (((P.info? e).bind fun ie => (zeroOf P e).bind fun z => if z.cells.size = ie.size /\ ie.bytes ≠ 0 then (cOpd x).bind fun x => (cOpd y).map fun y => AOp.append e ie.size ie.bytes x y else none) = some ao) ->
      Oper.wp P ⟨dst, .call ⟨.builtin .append, #[x, y], #[t, u]⟩, type, pos, after, guard⟩ a σ.w (Behind σ N env dst K) Q := by
     intro e du hu1 hu2 hdu hc
     simp only [Option.bind_eq_some_iff] at hc
     obtain ⟨ie, hie, z, hz, hc⟩ := hc
     split at hc
     ·rename_i hcond
      simp only [Option.bind_eq_some_iff, Option.map_eq_some_iff] at hc
      obtain ⟨x', hx, y', hy, rfl⟩ := hc
      obtain ⟨xv, hxr, hk⟩ := opd he hx hk
      obtain ⟨yv, hyr, hk⟩ := opd he hy hk
      obtain ⟨σ', h', av, z', g1, g2, g3, g4, g5⟩ := hk.elim (appended_ok (P := P) (ty := type) hs.inv hu1 hie (zeroOf_info hz hie) hcond.1 hcond.2 hu2 hdu hxr hyr) fun hk => hk.elim (appendedR_ok (P := P) (ty := type) hs.inv hu1 hie (zeroOf_info hz hie) hcond.1 hcond.2 hu2 hdu hxr hyr) (appendedB_ok (P := P) (ty := type) hs.inv hu1 hie (zeroOf_info hz hie) hcond.1 hcond.2 hu2 hdu hxr hyr)
      exact value_wp (σ' := σ') hs hd (by simp [execOp, resolve, invoke, builtin, g1]) g2 g3 g4 g5 Q
     ·cases hc
    split at hc
    ·rename_i e e2 hu1 hu2; exact key e _ hu1 hu2 (.inl ⟨_, rfl⟩) hc
    ·rename_i e hu1 hu2; exact key e _ hu1 hu2 (.inr rfl) hc
    ·cases hc
   ·cases hc
  ·rename_i heq
   have heq' : callee = .builtin .min := heq
   subst heq'
   simp only [Option.map_eq_some_iff] at hc
   obtain ⟨l', hl, rfl⟩ := hc
   simp only [aop] at hk
   split at hk
   ·rename_i l hlv
    unfold picked at hk
    split at hk
    ·rename_i v hv
     obtain ⟨q1, q2⟩ := min_ok (P := P) (xs := args.map a.eval) hv (by simpa using opds he hl hlv) argTypes type σ.w
     exact value_wp (σ' := σ) hs hd (by simp [execOp, resolve, invoke, builtin, q2]) (Le.refl σ) hs.inv (.v _ q1) hk Q
    ·exact hk.elim
   ·exact hk.elim
  ·rename_i heq
   have heq' : callee = .builtin .max := heq
   subst heq'
   simp only [Option.map_eq_some_iff] at hc
   obtain ⟨l', hl, rfl⟩ := hc
   simp only [aop] at hk
   split at hk
   ·rename_i l hlv
    unfold picked at hk
    split at hk
    ·rename_i v hv
     obtain ⟨q1, q2⟩ := max_ok (P := P) (xs := args.map a.eval) hv (by simpa using opds he hl hlv) argTypes type σ.w
     exact value_wp (σ' := σ) hs hd (by simp [execOp, resolve, invoke, builtin, q2]) (Le.refl σ) hs.inv (.v _ q1) hk Q
    ·exact hk.elim
   ·exact hk.elim
  ·rename_i heq
   have heq' : callee = .builtin .unsafeSliceData := heq
   subst heq'
   split at hc
   ·rename_i x hxl
    simp only [Option.map_eq_some_iff] at hc
    obtain ⟨y, hy, rfl⟩ := hc
    obtain ⟨av, hr, hk⟩ := opd he hy hk
    have ha : args = #[x] := by apply Array.ext'; exact hxl
    subst ha
    refine still_wp hs hd ?_ (udataed_ok (P := P) hr hk argTypes type) Q
    simp [execOp, resolve, invoke, builtin]
   ·cases hc
  ·rename_i heq
   have heq' : callee = .builtin .unsafeString := heq
   subst heq'
   split at hc
   ·rename_i x y pt it hxl htl
    have ha : args = #[x, y] := by apply Array.ext'; exact hxl
    have hb : argTypes = #[pt, it] := by apply Array.ext'; exact htl
    subst ha hb
    split at hc
    ·rename_i u hpt
     split at hc
     ·rename_i hcu
      simp only [Option.bind_eq_some_iff, Option.map_eq_some_iff] at hc
      obtain ⟨p', hp, n', hn, rfl⟩ := hc
      obtain ⟨pv, hpr, hk⟩ := opd he hp hk
      obtain ⟨nv, hnr, hk⟩ := opd he hn hk
      obtain ⟨σ', av, z, g1, g2, g3, g4, g5⟩ := ustred_ok (P := P) (it := it) (ty := type) hs.inv hpt hcu hpr hnr hk
      exact value_wp (σ' := σ') hs hd (by simp [execOp, resolve, invoke, builtin, g1]) g2 g3 g4 g5 Q
     ·cases hc
    ·cases hc
   ·cases hc
  ·rename_i heq
   have heq' : callee = .builtin .cap := heq
   subst heq'
   split at hc
   ·rename_i x t hxl htl
    have ha : args = #[x] := by apply Array.ext'; exact hxl
    have hb : argTypes = #[t] := by apply Array.ext'; exact htl
    subst ha hb
    split at hc
    ·rename_i e hte
     simp only [Option.map_eq_some_iff] at hc
     obtain ⟨y, hy, rfl⟩ := hc
     obtain ⟨av, hr, hk⟩ := opd he hy hk
     refine still_wp hs hd ?_ (capped_ok (P := P) (ty := type) hte hr hk) Q
     simp [execOp, resolve, invoke, builtin]
    ·cases hc
   ·cases hc
  ·rename_i heq
   have heq' : callee = .builtin .copy := heq
   subst heq'
   split at hc
   ·rename_i x y t u hxl htl
    have ha : args = #[x, y] := by apply Array.ext'; exact hxl
    have hb : argTypes = #[t, u] := by apply Array.ext'; exact htl
    subst ha hb
    split at hc
    ·rename_i e hte
     simp only [Option.bind_eq_some_iff, Option.map_eq_some_iff] at hc
     obtain ⟨ie, hie, x', hx, y', hy, rfl⟩ := hc
     obtain ⟨xv, hxr, hk⟩ := opd he hx hk
     obtain ⟨yv, hyr, hk⟩ := opd he hy hk
     refine still_wp hs hd ?_ (copied0_ok (P := P) (u := u) (ty := type) hte hie hxr hyr hk) Q
     simp [execOp, resolve, invoke, builtin]
    ·cases hc
   ·cases hc
  ·rename_i heq
   have heq' : callee = .builtin .clear := heq
   subst heq'
   split at hc
   ·rename_i x t hxl htl
    have ha : args = #[x] := by apply Array.ext'; exact hxl
    have hb : argTypes = #[t] := by apply Array.ext'; exact htl
    subst ha hb
    split at hc
    ·rename_i e hte
     simp only [Option.bind_eq_some_iff] at hc
     obtain ⟨ie, hie, z, hz, zs, hzs, hc⟩ := hc
     split at hc
     ·rename_i hcond
      simp only [Option.map_eq_some_iff] at hc
      obtain ⟨y, hy, rfl⟩ := hc
      obtain ⟨av, hr, hk⟩ := opd he hy hk
      obtain ⟨σ', h', g1, g2, g3, g4⟩ := cleared_ok (P := P) (ty := type) hs.inv hte hie (zeroOf_info hz hie) hcond (ofVs_cells (σ := σ) hzs) hr hk
      exact value_wp (σ' := σ') hs hd (by simp [execOp, resolve, invoke, builtin, g1]) g2 g3 undef_rel' g4 Q
     ·cases hc
    ·cases hc
   ·cases hc
  ·rename_i f heq
   have heq' : callee = .value f := heq
   subst heq'
   split at hc
   ·rename_i hx
    obtain ⟨g, fn, rfl, hfn, hb, hn, hname⟩ := extOf_find P hx
    split at hc
    ·rename_i s b hxl
     have ha : args = #[s, b] := by apply Array.ext'; exact hxl
     subst ha
     simp only [Option.bind_eq_some_iff, Option.map_eq_some_iff] at hc
     obtain ⟨s', hs', b', hb', rfl⟩ := hc
     obtain ⟨sv, hsr, hk⟩ := opd he hs' hk
     obtain ⟨bv, hbr, hk⟩ := opd he hb' hk
     obtain ⟨av, z, k1, k2, k3⟩ := findB_ok (P := P) hsr hbr hk
     refine value_wp (σ' := σ) hs hd ?_ (Le.refl σ) hs.inv k2 k1 Q
     have := run_callFunc_extern hfn (by rw [hname]; rfl) hb hn (find_index hname) #[a.eval s, a.eval b] σ.w
     simp [execOp, resolve, show a.eval (.func g) = .func (.func g) #[] #[] from rfl, Deferred.ofValue, invoke, this, k3]
    ·cases hc
   ·rename_i hx
    obtain ⟨g, fn, rfl, hfn, hb, hn, hname⟩ := extOf_cnt P hx
    split at hc
    ·rename_i s b hxl
     have ha : args = #[s, b] := by apply Array.ext'; exact hxl
     subst ha
     simp only [Option.bind_eq_some_iff, Option.map_eq_some_iff] at hc
     obtain ⟨s', hs', b', hb', rfl⟩ := hc
     obtain ⟨sv, hsr, hk⟩ := opd he hs' hk
     obtain ⟨bv, hbr, hk⟩ := opd he hb' hk
     obtain ⟨av, z, k1, k2, k3⟩ := cntB_ok (P := P) hsr hbr hk
     refine value_wp (σ' := σ) hs hd ?_ (Le.refl σ) hs.inv k2 k1 Q
     have := run_callFunc_extern hfn (by rw [hname]; rfl) hb hn (find_count hname) #[a.eval s, a.eval b] σ.w
     simp [execOp, resolve, show a.eval (.func g) = .func (.func g) #[] #[] from rfl, Deferred.ofValue, invoke, this, k3]
    ·cases hc
   ·rename_i u hx
    obtain ⟨g, fn, t, rfl, hfn, hb, hn, hname, hrt, hut⟩ := extOf_make P hx
    split at hc
    ·rename_i n hxl
     have ha : args = #[n] := by apply Array.ext'; exact hxl
     subst ha
     simp only [Option.map_eq_some_iff] at hc
     obtain ⟨n', hn', rfl⟩ := hc
     obtain ⟨nv, hnr, hk⟩ := opd he hn' hk
     obtain ⟨σ', h', av, z, g1, g2, g3, g4, g5⟩ := mknzed_ok (P := P) (ps := fn.params) hs.inv hut hnr hk
     refine value_wp (σ' := σ') hs hd ?_ g2 g3 g4 g5 Q
     have := run_callFunc_extern hfn (by rw [hname]; rfl) hb hn (find_make hname) #[a.eval n] σ.w
     rw [hrt] at this
     simp [execOp, resolve, show a.eval (.func g) = .func (.func g) #[] #[] from rfl, Deferred.ofValue, invoke, this, g1]
    ·cases hc
   simp only [Option.bind_eq_some_iff, Option.map_eq_some_iff] at hc
   obtain ⟨f', hf, l', hl, rfl⟩ := hc
   obtain ⟨fv, hfr, hk⟩ := opd he hf hk
   generalize hfe : a.eval f = fe at hfr
   unfold callOn at hk
   split at hk
   ·rename_i _ _ g first captured l hlv
    obtain ⟨fs, cs, rfl, q1, q2, q3, q4⟩ := hfr.clo_inv
    obtain ⟨⟨fn, hfn, hbody, hname⟩, hcall⟩ := hk
    have hrels : Rels σ (first ++ l ++ captured) ((fs ++ args.map a.eval) ++ cs).toList := by
     simp only [Array.toList_append, Array.toList_map]
     refine Rels.append (Rels.append ⟨by simpa using q1, fun i av hi => ?_⟩ (opds he hl hlv)) ⟨by simpa using q2, fun i av hi => ?_⟩
     ·obtain ⟨x, hx, hr⟩ := q3 i av hi
      exact ⟨x, by simpa using hx, hr⟩
     ·obtain ⟨x, hx, hr⟩ := q4 i av hi
      exact ⟨x, by simpa using hx, hr⟩
    have hrun : (execOp a.eval ⟨dst, .call ⟨.value f, args, argTypes⟩, type, pos, after, guard⟩).run P σ.w = .ok (.enter g ((fs ++ args.map a.eval) ++ cs)) σ.w := by
     have hname' : fn.name ≠ "runtime.NumGoroutine" := by simpa using hname
     have hbody' : fn.body ≠ none := by intro hb; rw [hb] at hbody; cases hbody
     simp [execOp, resolve, hfe, Deferred.ofValue, invoke, callFunc, hfn, hbody', hname']
    unfold Oper.wp
    rw [hrun, Oper.upon_enter]
    refine (hcall σ _ hs.inv hrels).mono fun e w' hq => ?_
    obtain ⟨σ', h', av, x, rfl, rfl, g2, g3, g4, g5⟩ := hq
    exact ⟨σ', h', av, rfl, g2, hs.put g2 g3 hd g4, g5⟩
   ·cases hfr with
    | agg _ _ _ hcell => exact absurd (hcell 0 _ rfl) (by simp [AV.isCell])
   ·exact hk.elim
  ·rename_i x name heq
   have heq' : callee = .invoke x name := heq
   subst heq'
   simp only [Option.bind_eq_some_iff, Option.map_eq_some_iff] at hc
   obtain ⟨x', hx, l', hl, rfl⟩ := hc
   have hk2 : callOn P (.agg [.tuple (methTab P name)]) (evs env (x' :: l')) h K := hk
   cases hev : evs env (x' :: l') with
   | none => rw [hev] at hk2; exact hk2.elim
   | some lv =>
    rw [hev] at hk2
    have hrel := opds he (l := x :: args.toList) (l' := x' :: l') (by simp [cOpds, hx, hl]) hev
    unfold callOn at hk2
    split at hk2
    ·rename_i h1 h2; cases h1
    ·rename_i t xa l h1 h2
     cases h1; cases h2
     split at hk2
     ·rename_i g hg
      obtain ⟨⟨fn, hfn, hbody, hname⟩, hcall⟩ := hk2
      have hdir := ownMeth_is hg
      obtain ⟨hlen, hget⟩ := hrel
      obtain ⟨xv, hxv, hxr⟩ := hget 0 _ rfl
      have hxe : xv = a.eval x := by simpa using hxv.symm
      subst hxe
      generalize hxq : a.eval x = xq at hxr
      cases hxr with
      | iface _ _ v hv =>
       have hrels : Rels σ (xa :: l) (#[v] ++ args.map a.eval).toList := by
        refine ⟨by simpa using hlen, fun i av hi => ?_⟩
        cases i with
        | zero => simp at hi; subst hi; exact ⟨v, by simp, hv⟩
        | succ i =>
         obtain ⟨y, hy, hr⟩ := hget (i + 1) av (by simpa using hi)
         exact ⟨y, by simpa using hy, hr⟩
       have hrun : (execOp a.eval ⟨dst, .call ⟨.invoke x name, args, argTypes⟩, type, pos, after, guard⟩).run P σ.w = .ok (.enter g (#[v] ++ args.map a.eval)) σ.w := by
        have hm : (method (P.types.size + Made.depth) t v name).run P σ.w = .ok (g, v) σ.w := direct_run hdir (Nat.lt_of_lt_of_le (by decide : 0 < Made.depth) (Nat.le_add_left _ _)) v σ.w
        have hname' : fn.name ≠ "runtime.NumGoroutine" := by simpa using hname
        have hbody' : fn.body ≠ none := by intro hb; rw [hb] at hbody; cases hbody
        have hz0 : (#[Value.iface t v] ++ args.map a.eval)[0]? = some (.iface t v) := by simp [Array.getElem?_append]
        have hz1 : (#[Value.iface t v] ++ args.map a.eval).extract 1 (#[Value.iface t v] ++ args.map a.eval).size = args.map a.eval := by
         apply Array.ext'
         simp
         exact List.take_of_length_le (by simp)
        have hres : (execOp a.eval ⟨dst, .call ⟨.invoke x name, args, argTypes⟩, type, pos, after, guard⟩).run P σ.w = (invoke (.fn (.method name) #[]) (#[Value.iface t v] ++ args.map a.eval)).run P σ.w := by
         simp [execOp, resolve, hxq]
        rw [hres]
        unfold invoke
        simp only [hz0, hz1]
        simp [callMethod, hm, callFunc, hfn, hbody', hname']
       unfold Oper.wp
       rw [hrun, Oper.upon_enter]
       refine (hcall σ _ hs.inv hrels).mono fun e w' hq => ?_
       obtain ⟨σ', h', av, z, rfl, rfl, g2, g3, g4, g5⟩ := hq
       exact ⟨σ', h', av, rfl, g2, hs.put g2 g3 hd g4, g5⟩
     ·exact hk2.elim
    ·exact hk2.elim
  ·cases hc
end
structure AOper where
 dst : Option Nat
 op : AOp
 guard : Option (Nat × Bool)
def dropE (env : Env) : Option Tmp -> Env
 | some d => (d, .tuple []) :: env
 | none => env
def guarded (env : Env) (g : Option (Tmp × Bool)) (yes no : Prop) : Prop :=
 match g with
 | none => yes
 | some (t, want) => wv (get env t) fun v => match v with
  | .v (.bool b) => (b = want -> yes) /\ (b = !want -> no)
  | .tuple [] => no
  | _ => False
def vops (P : Program) : List AOper -> Env -> AHeap -> (Env -> AHeap -> Prop) -> Prop
 | [], env, h, K => K env h
 | o :: r, env, h, K => guarded env o.guard (aop P o.op env h fun av h' => vops P r (putE env o.dst av) h' K) (vops P r (dropE env o.dst) h K)
inductive ACode where
 | skip
 | region (ops : List AOper)
 | drawn (ord : List (List Nat)) (quiet tail : List AOper)
 | late (ord : List (List Nat)) (quiet tail : List AOper)
 | seq (a b : ACode)
 | cond (c : AOpd) (a b : ACode)
 | block (id : Nat) (a : ACode)
 | loop (a : ACode)
 | exit (id : Nat)
 | ret
 | scope (a : ACode)
 | label (l : Nat)
 | goto (l : Nat)
 | from_ (a : ACode) (l : Nat)
def dstOK (N : Nat) : Option Tmp -> Bool
 | some d => decide (d < N)
 | none => true
theorem dstOK_lt {N : Nat} {o : Option Tmp} (h : dstOK N o = true) : ∀ d, o = some d -> d < N := by
 rintro d rfl
 simpa [dstOK] using h
def compOper (P : Program) (N : Nat) (ops : Array Oper) (o : Oper) : Option AOper :=
 if dstOK N o.dst then
  match o.guard with
  | none => some ⟨o.dst, (compOp P o).getD .bad, none⟩
  | some (j, b) => ((ops[j]?).bind (·.dst)).map fun t => ⟨o.dst, (compOp P o).getD .bad, some (t, b)⟩
 else none
def compOps (P : Program) (N : Nat) (ops : Array Oper) : List Oper -> Option (List AOper)
 | [] => some []
 | o :: r => (compOper P N ops o).bind fun a => (compOps P N ops r).map fun l => a :: l
section
variable {P : Program} {σ : Sg} {h : AHeap} {env : Env} {N : Nat} {a : Act}
theorem EnvRel.drop {tmps : Array Value} (he : EnvRel σ env tmps) (d : Nat) (x : Value) : EnvRel σ (Lift.drop d env) (tmps.setIfInBounds d x) := by
 intro t av hg
 obtain ⟨h1, h2⟩ := get_drop d t env av hg
 obtain ⟨y, h3, h4⟩ := he t av h2
 exact ⟨y, by rw [Array.getElem?_setIfInBounds_ne (Ne.symm h1)]; exact h3, h4⟩
theorem undef_rel : Rel σ (.tuple []) undef := Rel.tuple_mk rfl fun i av hi => by simp at hi
theorem St.skipped (hs : St σ h env N a) (dst : Option Tmp) (hd : ∀ d, dst = some d -> d < N) : St σ h (dropE env dst) N (a.put dst undef) := by
 cases dst with
 | none => exact hs
 | some d => exact ⟨hs.inv, hs.env.put (by rw [hs.size]; exact hd d rfl) undef_rel, by show (a.tmps.setIfInBounds d undef).size = N; simp [hs.size], hs.defers⟩
theorem yielded_none {ops : Array Oper} {j : Nat} {t : Tmp} (hj : (ops[j]?).bind (·.dst) = some t) (he : EnvRel σ env a.tmps) (hg : get env t = some (.tuple [])) : yielded ops a.tmps j = none := by
 obtain ⟨x, h1, h2⟩ := he t _ hg
 obtain ⟨xs, rfl, _⟩ := h2.tuple_inv
 simp [yielded, hj, h1]
theorem yielded_of {ops : Array Oper} {j : Nat} {t : Tmp} (hj : (ops[j]?).bind (·.dst) = some t) {b : Bool} (he : EnvRel σ env a.tmps) (hg : get env t = some (.v (.bool b))) : yielded ops a.tmps j = some b := by
 obtain ⟨x, h1, h2⟩ := he t _ hg
 cases h2
 simp [yielded, hj, h1]
def Lifted (σ : Sg) (N : Nat) (Q : Exit -> Env -> AHeap -> Prop) (e : Exit) (a' : Act) (w' : World) : Prop :=
 (match e with | .panic _ | .outgrown => False | _ => True) /\ ∃ σ' h' env', σ'.w = w' /\ Le σ σ' /\ St σ' h' env' N a' /\ Q e env' h'
theorem aop_wp' {o : Oper} {ao : AOp} (hc : (compOp P o).getD .bad = ao) (hs : St σ h env N a) (hd : ∀ d, o.dst = some d -> d < N) {K : AV -> AHeap -> Prop} (hk : aop P ao env h K) (Q : Exit -> Act -> World -> Prop) :
  o.wp P a σ.w (Behind σ N env o.dst K) Q := by
 cases hco : compOp P o with
 | none => rw [hco] at hc; cases hc; exact hk.elim
 | some x => rw [hco] at hc; cases hc; exact aop_wp hco hs hd hk Q
theorem vops_sound {ops : Array Oper} {Q : Exit -> Act -> World -> Prop} {σ₀ : Sg} {K : Env -> AHeap -> Prop} (hQ : ∀ σ h env a, Le σ₀ σ -> St σ h env N a -> K env h -> Q .normal a σ.w) :
  ∀ (l : List Oper) (k : Nat) (al : List AOper) (σ : Sg) (h : AHeap) (env : Env) (a : Act), (∀ j, j < l.length -> l[j]? = ops[k + j]?) -> compOps P N ops l = some al -> Le σ₀ σ -> St σ h env N a -> vops P al env h K ->
   wpOps P ops Q ((List.range' k l.length)) a σ.w
 | [], k, al, σ, h, env, a, _, hc, hle, hs, hv => by
  simp only [compOps, Option.some.injEq] at hc; subst hc
  exact hQ σ h env a hle hs hv
 | o :: l, k, al, σ, h, env, a, hl, hc, hle, hs, hv => by
  simp only [compOps, Option.bind_eq_some_iff, Option.map_eq_some_iff] at hc
  obtain ⟨ao, hao, al', hal, rfl⟩ := hc
  have h0 := hl 0 (by simp)
  simp only [List.getElem?_cons_zero, Nat.add_zero] at h0
  have hrest : ∀ j, j < l.length -> l[j]? = ops[k + 1 + j]? := by
   intro j hj
   have := hl (j + 1) (by simp; omega)
   simp only [List.getElem?_cons_succ] at this
   rw [this]; congr 1; omega
  simp only [List.length_cons, List.range'_succ]
  rw [wpOps_cons]
  unfold wpOp
  rw [← h0]
  simp only
  simp only [compOper] at hao
  generalize hop : (compOp P o).getD .bad = op' at hao
  split at hao
  ·rename_i hdst
   have hd := dstOK_lt hdst
   have run : ∀ (ao : AOper), ao.dst = o.dst -> ao.op = op' -> aop P ao.op env h (fun av h' => vops P al' (putE env ao.dst av) h' K) -> o.wp P a σ.w (wpOps P ops Q (List.range' (k + 1) l.length)) Q := by
    intro ao h1 h2 h3
    refine Oper.wp_mono (fun a' w' hb => ?_) (aop_wp' hop hs hd (h2 ▸ h3) Q)
    obtain ⟨σ', h', av, rfl, q1, q2, q3⟩ := hb
    rw [h1] at q3
    exact vops_sound hQ l (k + 1) al' σ' h' _ a' hrest hal (hle.trans q1) q2 q3
   split at hao
   ·rename_i hg
    cases hao
    have hw : Region.wanted o (yielded ops a.tmps) = true := by simp [Region.wanted, hg]
    rw [if_pos hw]
    exact .inl (run _ rfl rfl hv)
   ·rename_i j b hg
    simp only [Option.map_eq_some_iff] at hao
    obtain ⟨t, ht, rfl⟩ := hao
    simp only [vops, guarded] at hv
    obtain ⟨v, hget, hv⟩ := wv_some hv
    split at hv
    ·rename_i c
     have hy := yielded_of ht hs.env hget
     by_cases hcb : c = b
     ·have hw : Region.wanted o (yielded ops a.tmps) = true := by simp [Region.wanted, hg, hy, hcb]
      rw [if_pos hw]
      exact .inl (run ⟨o.dst, op', some (t, b)⟩ rfl rfl (hv.1 hcb))
     ·have hw : Region.wanted o (yielded ops a.tmps) = false := by simp [Region.wanted, hg, hy, hcb]
      rw [hw]
      simp only [Bool.false_eq_true, if_false]
      exact vops_sound hQ l (k + 1) al' σ h _ _ hrest hal hle (hs.skipped o.dst hd) (hv.2 (by cases c <;> cases b <;> simp_all))
    ·have hy := yielded_none ht hs.env hget
     have hw : Region.wanted o (yielded ops a.tmps) = false := by simp [Region.wanted, hg, hy]
     rw [hw]
     simp only [Bool.false_eq_true, if_false]
     exact vops_sound hQ l (k + 1) al' σ h _ _ hrest hal hle (hs.skipped o.dst hd) hv
    ·exact hv.elim
  ·cases hao
def AOp.opds : AOp -> List AOpd
 | .mv x | .box x | .load _ x | .nilCheck x | .un _ x | .conv _ x | .iface _ x | .fieldAddr _ x | .field _ _ x | .assertT _ _ _ x | .extract _ x | .len _ x => [x]
 | .pick c a b => [c, a, b]
 | .alloc _ => []
 | .build _ ps | .sliceLit _ _ _ ps => ps.map (·.2)
 | .store _ x y | .bin _ x y | .eq _ _ x y | .idxS x y | .idxV _ _ _ x y | .idxSl _ x y | .idxA _ _ x y | .append _ _ _ x y => [x, y]
 | .func _ f c => f ++ c
 | .sliceS x lo hi => x :: (lo.toList ++ hi.toList)
 | .sliceV _ x lo hi mx => x :: (lo.toList ++ hi.toList ++ mx.toList)
 | .call f l => f :: l
 | .bytes x => [x]
 | .make _ _ _ x y => [x, y]
 | .minmax _ l => l
 | .range x | .next x => [x]
 | .bad | .mkmap => []
 | .lookup _ _ x k => [x, k]
 | .mapset m k v => [m, k, v]
 | .allocB _ _ => []
 | .udata x | .cap0 x | .mknz _ x | .clear _ _ x => [x]
 | .ustr _ x y | .seek _ x y | .copy0 x y => [x, y]
theorem evs_congr {e1 e2 : Env} : ∀ {l : List AOpd}, (∀ x ∈ l, x.ev e1 = x.ev e2) -> evs e1 l = evs e2 l
 | [], _ => rfl
 | x :: l, h => by simp only [evs]; rw [h x (by simp), evs_congr (fun y hy => h y (by simp [hy]))]
theorem evp_congr {e1 e2 : Env} : ∀ {l : List ((Nat × Nat) × AOpd)}, (∀ x ∈ l.map (·.2), x.ev e1 = x.ev e2) -> evp e1 l = evp e2 l
 | [], _ => rfl
 | (k, x) :: l, h => by simp only [evp]; rw [h x (by simp), evp_congr (fun y hy => h y (by simp at hy ⊢; exact .inr hy))]
theorem evo_congr {e1 e2 : Env} {x : Option AOpd} (h : ∀ y ∈ x.toList, y.ev e1 = y.ev e2) : evo e1 x = evo e2 x := by
 cases x with
 | none => rfl
 | some x => simp only [evo]; rw [h x (by simp)]
theorem aop_congr {o : AOp} {e1 e2 : Env} (h' : ∀ x ∈ o.opds, x.ev e1 = x.ev e2) {K : AV -> AHeap -> Prop} : aop P o e1 h K = aop P o e2 h K := by
 cases o <;> simp only [AOp.opds, List.mem_cons, List.not_mem_nil, or_false, forall_eq_or_imp, forall_eq, List.mem_append] at h' <;> simp only [aop]
 case mv => rw [h']
 case box => rw [h']
 case load => rw [h']
 case nilCheck => rw [h']
 case un => rw [h']
 case conv => rw [h']
 case iface => rw [h']
 case fieldAddr => rw [h']
 case field => rw [h']
 case assertT => rw [h']
 case extract => rw [h']
 case len => rw [h']
 case pick => rw [h'.1, h'.2.1, h'.2.2]
 case build => rw [evp_congr h']
 case sliceLit => rw [evp_congr h']
 case store => rw [h'.1, h'.2]
 case bin => rw [h'.1, h'.2]
 case eq => rw [h'.1, h'.2]
 case idxS => rw [h'.1, h'.2]
 case idxV => rw [h'.1, h'.2]
 case idxSl => rw [h'.1, h'.2]
 case idxA => rw [h'.1, h'.2]
 case append => rw [h'.1, h'.2]
 case make => rw [h'.1, h'.2]
 case func => rw [evs_congr (fun x hx => h' x (.inl hx)), evs_congr (fun x hx => h' x (.inr hx))]
 case sliceS => rw [h'.1, evo_congr (fun x hx => h'.2 x (.inl hx)), evo_congr (fun x hx => h'.2 x (.inr hx))]
 case sliceV => rw [h'.1, evo_congr (fun x hx => h'.2 x (.inl (.inl hx))), evo_congr (fun x hx => h'.2 x (.inl (.inr hx))), evo_congr (fun x hx => h'.2 x (.inr hx))]
 case call => rw [h'.1, evs_congr h'.2]
 case bytes => rw [h']
 case minmax => rw [evs_congr h']
 case range => rw [h']
 case next => rw [h']
 case lookup => rw [h'.1, h'.2]
 case mapset => rw [h'.1, h'.2.1, h'.2.2]
 case udata => rw [h']
 case cap0 => rw [h']
 case mknz => rw [h']
 case clear => rw [h']
 case ustr => rw [h'.1, h'.2]
 case seek => rw [h'.1, h'.2]
 case copy0 => rw [h'.1, h'.2]
end
section
def aopQ (P : Program) (o : AOp) (env : Env) (h : AHeap) (av : AV) : Prop := aop P o env h fun av' h' => av' = av /\ h' = h
def vq (P : Program) : List AOper -> Env -> AHeap -> (Env -> Prop) -> Prop
 | [], env, _, K => K env
 | o :: r, env, h, K => guarded env o.guard (∃ av, aopQ P o.op env h av /\ vq P r (putE env o.dst av) h K) (vq P r (dropE env o.dst) h K)
def writes (t : Tmp) (l : List AOper) : Bool := l.any fun o => o.dst == some t
def AOper.looks (o : AOper) : List Tmp := (o.op.opds.filterMap fun | .t n => some n | .c _ => none) ++ (match o.guard with | some (t, _) => [t] | none => [])
def okq : List AOper -> Bool
 | [] => true
 | o :: r => (o.looks.all fun t => !writes t (o :: r)) && (match o.dst with | some d => !writes d r | none => true) && okq r
def Fact (P : Program) (F : Env) (h : AHeap) (o : AOper) : Prop :=
 let does := ∃ av, aopQ P o.op F h av /\ ∀ d, o.dst = some d -> get F d = some av
 match o.guard with
 | none => does
 | some (t, want) => (∃ b, get F t = some (.v (.bool b)) /\ (b = want -> does) /\ (b ≠ want -> ∀ d, o.dst = some d -> get F d = some (.tuple []))) ∨ (get F t = some (.tuple []) /\ ∀ d, o.dst = some d -> get F d = some (.tuple []))
theorem get_putE (env : Env) (dst : Option Tmp) (av : AV) (t : Tmp) : get (putE env dst av) t = if dst = some t then some av else get env t := by
 cases dst with
 | none => simp [putE]
 | some d => simp [putE, get]
theorem get_dropE (env : Env) (dst : Option Tmp) (t : Tmp) : get (dropE env dst) t = if dst = some t then some (.tuple []) else get env t := by
 cases dst with
 | none => simp [dropE]
 | some d => simp [dropE, get]
section
variable {P : Program} {σ : Sg} {h : AHeap} {env : Env} {N : Nat} {a : Act}
theorem vq_facts {K : Env -> Prop} : ∀ (l : List AOper) (env : Env), okq l = true -> vq P l env h K -> ∃ F, K F /\ (∀ t, writes t l = false -> get F t = get env t) /\ ∀ o ∈ l, Fact P F h o
 | [], env, _, hv => ⟨env, hv, fun _ _ => rfl, fun o ho => by cases ho⟩
 | o :: r, env, hok, hv => by
  simp only [okq, Bool.and_eq_true, List.all_eq_true] at hok
  obtain ⟨⟨hlook, hdst⟩, hokr⟩ := hok
  have hwr : ∀ t, writes t (o :: r) = false -> o.dst ≠ some t /\ writes t r = false := by
   intro t ht
   simp only [writes, List.any_cons, Bool.or_eq_false_iff] at ht ⊢
   exact ⟨by simpa using ht.1, ht.2⟩
  have hd : ∀ d, o.dst = some d -> writes d r = false := by
   intro d hd
   rw [hd] at hdst
   simpa using hdst
  have hl : ∀ (F : Env), (∀ t, writes t (o :: r) = false -> get F t = get env t) -> ∀ t ∈ o.looks, get env t = get F t := fun F hF t ht => (hF t (by simpa using hlook t ht)).symm
  have hcong : ∀ (F : Env), (∀ t, writes t (o :: r) = false -> get F t = get env t) -> ∀ av, aopQ P o.op env h av -> aopQ P o.op F h av := by
   intro F hF av hq
   unfold aopQ at hq ⊢
   rw [← aop_congr (e1 := env) (e2 := F)]
   ·exact hq
   ·intro x hx
    cases x with
    | c a => rfl
    | t n =>
     refine hl F hF n ?_
     simp only [AOper.looks, List.mem_append, List.mem_filterMap]
     exact .inl ⟨.t n, hx, rfl⟩
  have yes : (∃ av, aopQ P o.op env h av /\ vq P r (putE env o.dst av) h K) -> ∃ F, K F /\ (∀ t, writes t (o :: r) = false -> get F t = get env t) /\ (∃ av, aopQ P o.op F h av /\ ∀ d, o.dst = some d -> get F d = some av) /\ ∀ o' ∈ r, Fact P F h o' := by
   rintro ⟨av, hq, hv⟩
   obtain ⟨F, k1, k2, k3⟩ := vq_facts r _ hokr hv
   have hF : ∀ t, writes t (o :: r) = false -> get F t = get env t := by
    intro t ht
    obtain ⟨h1, h2⟩ := hwr t ht
    rw [k2 t h2, get_putE, if_neg h1]
   refine ⟨F, k1, hF, ⟨av, hcong F hF av hq, fun d hd' => ?_⟩, k3⟩
   rw [k2 d (hd d hd'), get_putE, if_pos hd']
  have no : vq P r (dropE env o.dst) h K -> ∃ F, K F /\ (∀ t, writes t (o :: r) = false -> get F t = get env t) /\ (∀ d, o.dst = some d -> get F d = some (.tuple [])) /\ ∀ o' ∈ r, Fact P F h o' := by
   intro hv
   obtain ⟨F, k1, k2, k3⟩ := vq_facts r _ hokr hv
   refine ⟨F, k1, fun t ht => ?_, fun d hd' => ?_, k3⟩
   ·obtain ⟨h1, h2⟩ := hwr t ht
    rw [k2 t h2, get_dropE, if_neg h1]
   ·rw [k2 d (hd d hd'), get_dropE, if_pos hd']
  simp only [vq, guarded] at hv
  split at hv
  ·rename_i hg
   obtain ⟨F, k1, k2, k3, k4⟩ := yes hv
   refine ⟨F, k1, k2, fun o' ho' => ?_⟩
   rcases List.mem_cons.1 ho' with rfl | ho'
   ·unfold Fact; rw [hg]; exact k3
   ·exact k4 o' ho'
  ·rename_i t want hg
   obtain ⟨v, hget, hv⟩ := wv_some hv
   split at hv
   ·rename_i b
    have ht : ∀ F : Env, (∀ t, writes t (o :: r) = false -> get F t = get env t) -> get F t = some (.v (.bool b)) := by
     intro F hF
     rw [← hl F hF t (by simp [AOper.looks, hg])]
     exact hget
    by_cases hb : b = want
    ·obtain ⟨F, k1, k2, k3, k4⟩ := yes (hv.1 hb)
     refine ⟨F, k1, k2, fun o' ho' => ?_⟩
     rcases List.mem_cons.1 ho' with rfl | ho'
     ·unfold Fact; rw [hg]; exact .inl ⟨b, ht F k2, fun _ => k3, fun hn => absurd hb hn⟩
     ·exact k4 o' ho'
    ·obtain ⟨F, k1, k2, k3, k4⟩ := no (hv.2 (by cases b <;> cases want <;> simp_all))
     refine ⟨F, k1, k2, fun o' ho' => ?_⟩
     rcases List.mem_cons.1 ho' with rfl | ho'
     ·unfold Fact; rw [hg]; exact .inl ⟨b, ht F k2, fun hy => absurd hy hb, fun _ => k3⟩
     ·exact k4 o' ho'
   ·obtain ⟨F, k1, k2, k3, k4⟩ := no hv
    refine ⟨F, k1, k2, fun o' ho' => ?_⟩
    rcases List.mem_cons.1 ho' with rfl | ho'
    ·unfold Fact; rw [hg]
     exact .inr ⟨by rw [← hl F k2 t (by simp [AOper.looks, hg])]; exact hget, k3⟩
    ·exact k4 o' ho'
   ·exact hv.elim
def ahead (ops : Array Oper) (i j : Nat) : Bool := match ops[i]? with
 | some o => o.after.any fun e => Region.binds .any e && e.on == j
 | none => false
def hasN (k : Nat) : List Nat -> Bool
 | [] => false
 | a :: l => Nat.beq k a || hasN k l
theorem hasN_mem {k : Nat} : ∀ {l : List Nat}, hasN k l = true -> k ∈ l
 | [], h => by cases h
 | a :: l, h => by
  simp only [hasN, Bool.or_eq_true] at h
  rcases h with h | h
  ·exact List.mem_cons.2 (.inl (Nat.eq_of_beq_eq_true h))
  ·exact List.mem_cons_of_mem _ (hasN_mem h)
def uniN (s : List Nat) : List Nat -> List Nat
 | [] => s
 | k :: a => if hasN k (uniN s a) = true then uniN s a else k :: uniN s a
theorem mem_uniN {s : List Nat} {k : Nat} : ∀ {a : List Nat}, k ∈ uniN s a ↔ k ∈ a ∨ k ∈ s
 | [] => by simp [uniN]
 | x :: a => by
  have ih := mem_uniN (s := s) (k := k) (a := a)
  unfold uniN
  split
  ·rename_i h
   have h2 := mem_uniN.1 (hasN_mem h)
   rw [ih, List.mem_cons]
   constructor
   ·rintro (h3 | h3)
    ·exact .inl (.inr h3)
    ·exact .inr h3
   ·rintro ((rfl | h3) | h3)
    ·exact h2
    ·exact .inl h3
    ·exact .inr h3
  ·rw [List.mem_cons, List.mem_cons, ih, or_assoc]
def rowU (acc : List (List Nat)) (s : List Nat) : List Nat -> List Nat
 | [] => s
 | j :: r => uniN (rowU acc s r) (acc.getD j [])
theorem mem_rowU {acc : List (List Nat)} {s : List Nat} {k : Nat} : ∀ {r : List Nat}, k ∈ rowU acc s r ↔ k ∈ s ∨ ∃ j ∈ r, k ∈ acc.getD j []
 | [] => by simp [rowU]
 | j :: r => by
  unfold rowU
  rw [mem_uniN, mem_rowU]
  simp only [List.mem_cons]
  constructor
  ·rintro (h | h | ⟨x, h1, h2⟩)
   ·exact .inr ⟨j, .inl rfl, h⟩
   ·exact .inl h
   ·exact .inr ⟨x, .inr h1, h2⟩
  ·rintro (h | ⟨x, rfl | h1, h2⟩)
   ·exact .inr (.inl h)
   ·exact .inl h2
   ·exact .inr (.inr ⟨x, h1, h2⟩)
def ordOf (ops : Array Oper) (m : Nat) : List (List Nat) := (List.range m).map fun i => (List.range m).filter fun j => ahead ops i j
theorem ordOf_mem {ops : Array Oper} {m i k : Nat} (h : k ∈ (ordOf ops m).getD i []) : k < m /\ ahead ops i k = true := by
 unfold ordOf at h
 rw [List.getD_eq_getElem?_getD, List.getElem?_map] at h
 cases hr : (List.range m)[i]? with
 | none => rw [hr] at h; simp at h
 | some j =>
  have hi : i < m := by
   have := (List.getElem?_eq_some_iff.1 hr).1
   simpa using this
  rw [List.getElem?_range hi] at hr
  cases hr
  rw [List.getElem?_range hi] at h
  simp only [Option.map_some, Option.getD_some, List.mem_filter, List.mem_range] at h
  exact h
def cloA : List (List Nat) -> List (List Nat) -> List (List Nat)
 | acc, [] => acc
 | acc, r :: rs => cloA (acc ++ [rowU acc r r]) rs
def clo (ord : List (List Nat)) : List (List Nat) := cloA [] ord
theorem cloA_get : ∀ (rs acc : List (List Nat)) (i : Nat), i < acc.length -> (cloA acc rs).getD i [] = acc.getD i []
 | [], _, _, _ => rfl
 | r :: rs, acc, i, h => by
  simp only [cloA]
  rw [cloA_get rs _ i (by simp; omega)]
  simp only [List.getD_eq_getElem?_getD, List.getElem?_append_left h]
theorem cloA_len : ∀ (rs acc : List (List Nat)), (cloA acc rs).length = acc.length + rs.length
 | [], _ => rfl
 | r :: rs, acc => by simp only [cloA]; rw [cloA_len rs]; simp; omega
theorem cloA_new : ∀ (rs acc : List (List Nat)) (i : Nat), i < rs.length -> ∀ k ∈ (cloA acc rs).getD (acc.length + i) [], k ∈ rs.getD i [] ∨ ∃ j, j ∈ rs.getD i [] /\ j < acc.length + i /\ k ∈ (cloA acc rs).getD j []
 | [], _, i, h => by simp at h
 | r :: rs, acc, 0, h => by
  intro k hk
  simp only [cloA] at hk ⊢
  have h0 := cloA_get rs (acc ++ [rowU acc r r]) (acc.length + 0) (by simp)
  rw [h0] at hk
  simp only [Nat.add_zero, List.getD_eq_getElem?_getD, List.getElem?_append_right (Nat.le_refl _), Nat.sub_self, List.getElem?_cons_zero, Option.getD_some, mem_rowU] at hk
  rcases hk with hk | ⟨j, hj, hk⟩
  ·exact .inl (by simpa using hk)
  ·have hlt : j < acc.length := by
    by_cases hlt : j < acc.length
    ·exact hlt
    ·rw [List.getElem?_eq_none (by omega)] at hk; simp at hk
   refine .inr ⟨j, by simpa using hj, by omega, ?_⟩
   rw [cloA_get rs _ j (by simp; omega)]
   simpa [List.getD_eq_getElem?_getD, List.getElem?_append_left hlt] using hk
 | r :: rs, acc, i + 1, h => by
  intro k hk
  simp only [cloA] at hk ⊢
  have := cloA_new rs (acc ++ [rowU acc r r]) i (by simpa using h) k (by simpa [Nat.add_assoc, Nat.add_comm 1 i] using hk)
  rcases this with h1 | ⟨j, h1, h2, h3⟩
  ·exact .inl (by simpa using h1)
  ·exact .inr ⟨j, by simpa using h1, by simp at h2; omega, h3⟩
theorem clo_mem {ord : List (List Nat)} {i k : Nat} (h : k ∈ (clo ord).getD i []) : k ∈ ord.getD i [] ∨ ∃ j, j ∈ ord.getD i [] /\ j < i /\ k ∈ (clo ord).getD j [] := by
 by_cases hi : i < ord.length
 ·have := cloA_new ord [] i hi k (by simpa [clo] using h)
  simpa [clo] using this
 ·have hl := cloA_len ord []
  rw [List.getD_eq_getElem?_getD, List.getElem?_eq_none (by unfold clo; simp at hl; omega)] at h
  simp at h
theorem clo_listed {ops : Array Oper} {m : Nat} {L : Nat -> Prop} (hc : ∀ k i, k < m -> L k -> i ∈ (ordOf ops m).getD k [] -> L i) : ∀ n k, k < n -> k < m -> L k -> ∀ i ∈ (clo (ordOf ops m)).getD k [], L i := by
 intro n
 induction n with
 | zero => intro k h; omega
 | succ n ih =>
  intro k hk hm hl i hi
  rcases clo_mem hi with h1 | ⟨j, h1, h2, h3⟩
  ·exact hc k i hm hl h1
  ·exact ih j (by omega) (ordOf_mem h1).1 (hc k j hm hl h1) i h3
theorem ordOf_of {ops : Array Oper} {m i k : Nat} (hi : i < m) (hk : k < m) (h : ahead ops i k = true) : k ∈ (ordOf ops m).getD i [] := by
 unfold ordOf
 rw [List.getD_eq_getElem?_getD, List.getElem?_map, List.getElem?_range hi]
 simp only [Option.map_some, Option.getD_some, List.mem_filter, List.mem_range]
 exact ⟨hk, h⟩
def aheadAll (ops : Array Oper) (m : Nat) : Bool := (List.range m).all fun j => ((clo (ordOf ops (m + 1))).getD m []).contains j
def goes (md : Region.Mode) (ops : Array Oper) : Bool :=
 let L := Region.linearise md ops 0
 (List.range ops.size).all (fun i => L.contains i) && (List.range L.length).all fun k => match L[k]? with
  | some i => match ops[i]? with
   | some o => o.after.all fun e => !Region.binds md e || (L.take k).contains e.on
   | none => false
  | none => false
def orderOK (ops : Array Oper) (m : Nat) (al : List AOper) : Bool :=
 (goes .any ops && goes .text ops && goes .gc ops) &&
 (List.range ops.size).all (fun i => decide (i < m) || ((List.range i).all fun j => ahead ops i j) || (decide (m < i) && ahead ops i (i - 1)) || (decide (i = m) && aheadAll ops m)) &&
 (List.range m).all (fun i => match al[i]? with
  | some o => o.looks.all fun t => (List.range m).all fun k => !((ops[k]?).bind (·.dst) == some t) || ahead ops i k
  | none => false)
theorem mem_ready' {md : Region.Mode} {ops : Array Oper} {listed : Array Bool} {i : Nat} : i ∈ Region.ready md ops listed ↔ listed.getD i true = false /\ ∃ o, ops[i]? = some o /\ ∀ e ∈ o.after, Region.binds md e = true -> listed.getD e.on false = true := by
 unfold Region.ready
 simp only [List.mem_filter, List.mem_range, Bool.and_eq_true, Bool.not_eq_true']
 constructor
 ·rintro ⟨_, h1, h2⟩
  refine ⟨h1, ?_⟩
  cases ho : ops[i]? with
  | none => simp [ho] at h2
  | some o =>
   refine ⟨o, rfl, fun e he hb => ?_⟩
   simp only [ho, Option.map_some, Option.getD_some, Array.all_eq_true'] at h2
   have := h2 e he
   simpa [hb] using this
 ·rintro ⟨h1, o, ho, h2⟩
  refine ⟨(Array.getElem?_eq_some_iff.1 ho).1, h1, ?_⟩
  simp only [ho, Option.map_some, Option.getD_some, Array.all_eq_true']
  intro e he
  cases hb : Region.binds md e with
  | false => simp
  | true => simp [h2 e he hb]
theorem getD_set {listed : Array Bool} {i j : Nat} {d : Bool} (hi : i < listed.size) : (listed.setIfInBounds i true).getD j d = if i = j then true else listed.getD j d := by
 simp only [Array.getD_eq_getD_getElem?, Array.getElem?_setIfInBounds]
 by_cases hij : i = j
 ·subst hij; simp [hi]
 ·simp [hij]
theorem getD_any {listed : Array Bool} {j : Nat} (hj : j < listed.size) (d e : Bool) : listed.getD j d = listed.getD j e := by
 simp [Array.getD_eq_getD_getElem?, hj]
theorem getD_lt {listed : Array Bool} {j : Nat} (h : listed.getD j true = false) : j < listed.size := by
 by_cases hj : j < listed.size
 ·exact hj
 ·simp [Array.getD_eq_getD_getElem?, Array.getElem?_eq_none (Nat.le_of_not_lt hj)] at h
theorem binds_any {md : Region.Mode} {e : Edge} (h : Region.binds .any e = true) : Region.binds md e = true := by
 unfold Region.binds at h ⊢
 split at h <;> simp_all
theorem ahead_not {md : Region.Mode} {ops : Array Oper} {listed : Array Bool} {i j : Nat} (ha : ahead ops i j = true) (hj : listed.getD j true = false) : i ∉ Region.ready md ops listed := by
 intro hr
 obtain ⟨_, o, ho, h2⟩ := mem_ready'.1 hr
 unfold ahead at ha
 rw [ho] at ha
 simp only [Array.any_eq_true'] at ha
 obtain ⟨e, he, hc⟩ := ha
 simp only [Bool.and_eq_true, beq_iff_eq] at hc
 have := h2 e he (binds_any hc.1)
 rw [hc.2, getD_any (getD_lt hj) false true, hj] at this
 cases this
structure OrderB (ops : Array Oper) (m : Nat) : Prop where
 back : ∀ md, goes md ops = true
 tail : ∀ i, i < ops.size -> m <= i -> (∀ j, j < i -> ahead ops i j = true) ∨ (m < i /\ ahead ops i (i - 1) = true) ∨ (i = m /\ aheadAll ops m = true)
structure Order (ops : Array Oper) (m : Nat) (al : List AOper) : Prop extends OrderB ops m where
 head : ∀ i o, i < m -> al[i]? = some o -> ∀ t ∈ o.looks, ∀ k, k < m -> (ops[k]?).bind (·.dst) = some t -> ahead ops i k = true
theorem order_of {ops : Array Oper} {m : Nat} {al : List AOper} (h : orderOK ops m al = true) : Order ops m al := by
 simp only [orderOK, Bool.and_eq_true, List.all_eq_true] at h
 obtain ⟨⟨h1, h2⟩, h3⟩ := h
 refine ⟨⟨fun md => by cases md <;> simp [h1], fun i hi hm => ?_⟩, fun i o hi ho t ht k hkm hk => ?_⟩
 ·have := h2 i (List.mem_range.2 hi)
  simp only [Bool.or_eq_true, Bool.and_eq_true, decide_eq_true_eq, List.all_eq_true] at this
  rcases this with ((h | h) | h) | h
  ·omega
  ·exact .inl fun j hj => h j (List.mem_range.2 hj)
  ·exact .inr (.inl h)
  ·exact .inr (.inr h)
 ·have := h3 i (List.mem_range.2 hi)
  rw [ho] at this
  simp only [List.all_eq_true] at this
  have := this t ht k (List.mem_range.2 hkm)
  simpa [hk] using this
theorem least_ready {md : Region.Mode} {ops : Array Oper} {m : Nat} (ho : OrderB ops m) {listed : Array Bool} (hsz : listed.size = ops.size) (hne : ∃ i, i < ops.size /\ listed.getD i true = false) : ∃ i, i ∈ Region.ready md ops listed := by
 have hg := ho.back md
 simp only [goes, Bool.and_eq_true, List.all_eq_true] at hg
 obtain ⟨g1, g2⟩ := hg
 generalize hL : Region.linearise md ops 0 = L at g1 g2
 obtain ⟨i, hi, hf⟩ := hne
 have hmem : i ∈ L := by simpa using g1 i (List.mem_range.2 hi)
 obtain ⟨k, hk⟩ := List.mem_iff_getElem?.1 hmem
 obtain ⟨k0, ⟨i0, hk0, hf0⟩, hmin⟩ := exists_least (p := fun k => ∃ i, L[k]? = some i /\ listed.getD i true = false) ⟨k, i, hk, hf⟩
 have := g2 k0 (List.mem_range.2 (List.getElem?_eq_some_iff.1 hk0).1)
 rw [hk0] at this
 simp only at this
 split at this
 ·rename_i o hoi
  refine ⟨i0, mem_ready'.2 ⟨hf0, o, hoi, fun e he hb => ?_⟩⟩
  simp only [Array.all_eq_true'] at this
  have := this e he
  rw [hb] at this
  simp only [Bool.not_true, Bool.false_or, List.contains_iff_mem] at this
  obtain ⟨q, hq⟩ := List.mem_iff_getElem?.1 this
  rw [List.getElem?_take] at hq
  split at hq
  ·rename_i hqk
   cases hc : listed.getD e.on true with
   | true =>
    have hlt : e.on < listed.size := by
     have hmem2 : e.on ∈ L := List.mem_of_getElem? hq
     have := g2 q (List.mem_range.2 (List.getElem?_eq_some_iff.1 hq).1)
     rw [hq] at this
     simp only at this
     split at this
     ·rename_i o2 ho2
      rw [hsz]; exact (Array.getElem?_eq_some_iff.1 ho2).1
     ·cases this
    rw [getD_any hlt false true]; exact hc
   | false => have := hmin q ⟨e.on, hq, hc⟩; omega
  ·cases hq
 ·cases this
theorem ahead_all {md : Region.Mode} {ops : Array Oper} {m i0 : Nat} {listed : Array Bool} (h : aheadAll ops m = true) (hi0 : i0 < m) (hn : listed.getD i0 true = false)
  (hcl : ∀ k j, k < m -> j < m -> listed.getD k true = true -> ahead ops k j = true -> listed.getD j true = true) : m ∉ Region.ready md ops listed := by
 intro hr
 have hm : i0 ∈ (clo (ordOf ops (m + 1))).getD m [] := by
  unfold aheadAll at h
  have := List.all_eq_true.1 h i0 (List.mem_range.2 hi0)
  simpa using this
 have := clo_listed (ops := ops) (m := m + 1) (L := fun k => k = m ∨ listed.getD k true = true) (fun k j hk hL hj => ?_) (m + 1) m (by omega) (by omega) (.inl rfl) i0 hm
 ·rcases this with h1 | h1
  ·omega
  ·rw [hn] at h1; cases h1
 ·obtain ⟨h1, h2⟩ := ordOf_mem hj
  by_cases hjm : j = m
  ·exact .inl hjm
  refine .inr ?_
  rcases hL with rfl | hL
  ·cases hb : listed.getD j true with
   | true => rfl
   | false => exact absurd hr (ahead_not h2 hb)
  ·by_cases hkm : k = m
   ·subst hkm
    cases hb : listed.getD j true with
    | true => rfl
    | false => exact absurd hr (ahead_not h2 hb)
   ·exact hcl k j (by omega) (by omega) hL h2
theorem tail_any {md : Region.Mode} {ops : Array Oper} {m : Nat} (ho : OrderB ops m) {Q : Exit -> Act -> World -> Prop} : ∀ (f j : Nat) (listed : Array Bool) (a : Act) (w : World), m <= j -> j <= ops.size -> ops.size - j <= f -> listed.size = ops.size ->
  (∀ i, i < ops.size -> listed.getD i true = decide (i < j)) -> wpOps P ops Q (List.range' j (ops.size - j)) a w -> wpAny P md ops Q f listed a w := by
 intro f
 induction f with
 | zero =>
  intro j listed a w hm hj hf hsz hl hw
  have : ops.size - j = 0 := by omega
  rw [this] at hw
  refine ⟨?_, hw⟩
  apply List.eq_nil_iff_forall_not_mem.2
  intro i hi
  obtain ⟨h1, o, h2, _⟩ := mem_ready'.1 hi
  have hlt := (Array.getElem?_eq_some_iff.1 h2).1
  rw [hl i hlt] at h1
  simp at h1; omega
 | succ f ih =>
  intro j listed a w hm hj hf hsz hl hw
  have only : ∀ i ∈ Region.ready md ops listed, i = j := by
   intro i hi
   obtain ⟨h1, o, h2, _⟩ := mem_ready'.1 hi
   have hlt := (Array.getElem?_eq_some_iff.1 h2).1
   rw [hl i hlt] at h1
   simp at h1
   by_cases hij : i = j
   ·exact hij
   ·rcases ho.tail i hlt (by omega) with h | ⟨hmi, h⟩ | ⟨hmi, h⟩
    ·refine absurd hi (ahead_not (h j (by omega)) ?_)
     rw [hl j (by omega)]; simp
    ·refine absurd hi (ahead_not h ?_)
     rw [hl (i - 1) (by omega)]; simp; omega
    ·omega
  refine ⟨fun hnil => ?_, fun i hi => ?_⟩
  ·by_cases hjn : j = ops.size
   ·subst hjn
    rw [show ops.size - ops.size = 0 by omega] at hw
    exact hw
   ·exfalso
    obtain ⟨i, hi⟩ := least_ready (md := md) ho hsz ⟨j, by omega, by rw [hl j (by omega)]; simp⟩
    rw [hnil] at hi; cases hi
  ·have := only i hi
   subst this
   have hlt : i < ops.size := by
    obtain ⟨h1, o, h2, _⟩ := mem_ready'.1 hi
    exact (Array.getElem?_eq_some_iff.1 h2).1
   rw [show ops.size - i = (ops.size - (i + 1)) + 1 by omega, List.range'_succ, wpOps_cons] at hw
   refine wpOp_mono (fun a' w' h' => ?_) hw
   refine ih (i + 1) _ a' w' (by omega) (by omega) (by omega) (by simp [hsz]) (fun k hk => ?_) h'
   rw [getD_set (by omega), hl k hk]
   by_cases hik : i = k
   ·subst hik; simp
   ·rw [if_neg hik]; simp; omega
def seen (ops : Array Oper) (m : Nat) (listed : Array Bool) (t : Tmp) : Prop := ∀ k, k < m -> (ops[k]?).bind (·.dst) = some t -> listed.getD k true = true
open Classical in
noncomputable def filt (p : Tmp -> Prop) : Env -> Env
 | [] => []
 | (t, v) :: e => if p t then (t, v) :: filt p e else filt p e
open Classical in
theorem get_filt (p : Tmp -> Prop) (e : Env) (t : Tmp) : get (filt p e) t = if p t then get e t else none := by
 induction e with
 | nil => simp [filt, get]
 | cons q e ih =>
  obtain ⟨k, v⟩ := q
  by_cases hk : p k
  ·simp only [filt, if_pos hk, get]
   by_cases hkt : k = t
   ·subst hkt; simp [hk]
   ·simp only [hkt, if_false, ih]
  ·simp only [filt, if_neg hk, get, ih]
   by_cases hkt : k = t
   ·subst hkt; simp [hk]
   ·simp only [hkt, if_false]
end
end
section
variable {P : Program} {σ : Sg} {h : AHeap} {env : Env} {N : Nat} {a : Act}
theorem compOps_get {ops : Array Oper} : ∀ {l : List Oper} {al : List AOper}, compOps P N ops l = some al -> al.length = l.length /\ ∀ (i : Nat) (o : Oper), l[i]? = some o -> ∃ ao, al[i]? = some ao /\ compOper P N ops o = some ao
 | [], al, h => by simp [compOps] at h; subst h; exact ⟨rfl, fun i o hi => by simp at hi⟩
 | o :: l, al, h => by
  simp only [compOps, Option.bind_eq_some_iff, Option.map_eq_some_iff] at h
  obtain ⟨ao, h1, r, h2, rfl⟩ := h
  obtain ⟨g1, g2⟩ := compOps_get h2
  refine ⟨by simp [g1], fun i o' hi => ?_⟩
  cases i with
  | zero => simp at hi; subst hi; exact ⟨ao, rfl, h1⟩
  | succ i => exact g2 i o' (by simpa using hi)
theorem compOper_some {ops : Array Oper} {o : Oper} {ao : AOper} (h : compOper P N ops o = some ao) : (compOp P o).getD .bad = ao.op /\ (∀ d, o.dst = some d -> d < N) /\ ao.dst = o.dst /\
  ((o.guard = none /\ ao.guard = none) ∨ ∃ j b t, o.guard = some (j, b) /\ ao.guard = some (t, b) /\ (ops[j]?).bind (·.dst) = some t) := by
 simp only [compOper] at h
 split at h
 ·rename_i hd
  split at h
  ·rename_i hg; cases h; exact ⟨rfl, dstOK_lt hd, rfl, .inl ⟨hg, rfl⟩⟩
  ·rename_i j b hg
   simp only [Option.map_eq_some_iff] at h
   obtain ⟨t, ht, rfl⟩ := h
   exact ⟨rfl, dstOK_lt hd, rfl, .inr ⟨j, b, t, hg, rfl, ht⟩⟩
 ·cases h
structure Half (ops : Array Oper) (m : Nat) (F : Env) (h : AHeap) (N : Nat) (listed : Array Bool) (σ : Sg) (a : Act) : Prop where
 inv : Inv h σ
 env : EnvRel σ (filt (seen ops m listed) F) a.tmps
 size : a.tmps.size = N
 defers : a.defers = []
theorem head_any {md : Region.Mode} {ops : Array Oper} {al : List AOper} {F : Env} (hq : compOps P N ops (ops.toList.take al.length) = some al) (hm : al.length <= ops.size) (ho : Order ops al.length al) (hF : ∀ o ∈ al, Fact P F h o)
  (huniq : ∀ i j t, (ops[i]?).bind (·.dst) = some t -> (ops[j]?).bind (·.dst) = some t -> i < al.length -> j < al.length -> i = j)
  {Q : Exit -> Act -> World -> Prop} {σ₀ : Sg} (hend : ∀ σ a, Le σ₀ σ -> St σ h F N a -> wpOps P ops Q (List.range' al.length (ops.size - al.length)) a σ.w) :
  ∀ (f : Nat) (listed : Array Bool) (a : Act) (σ : Sg), listed.size = ops.size -> (∀ i, al.length <= i -> i < ops.size -> listed.getD i true = false) -> (∀ k j, k < al.length -> j < al.length -> listed.getD k true = true -> ahead ops k j = true -> listed.getD j true = true) -> Le σ₀ σ -> Half ops al.length F h N listed σ a -> listed.toList.count false <= f -> wpAny P md ops Q f listed a σ.w := by
 obtain ⟨hlen, hget⟩ := compOps_get hq
 intro f
 induction f with
 | zero =>
  intro listed a σ hsz htail hcl hle hh hc

  have hall : ∀ i, i < ops.size -> listed.getD i true = true := by
   intro i hi
   cases hb : listed.getD i true with
   | true => rfl
   | false =>
    exfalso
    have hmem : false ∈ listed.toList := by
     rw [List.mem_iff_getElem?]
     refine ⟨i, ?_⟩
     have : listed[i]? = some listed[i] := Array.getElem?_eq_getElem (by omega)
     simp only [Array.getD_eq_getD_getElem?, this, Option.getD_some] at hb
     simp only [Array.getElem?_toList, this, hb]
    have := List.count_pos_iff.2 hmem
    omega
  have hmn : al.length = ops.size := by
   by_cases he : al.length = ops.size
   ·exact he
   ·have := htail al.length (Nat.le_refl _) (by omega)
    rw [hall _ (by omega)] at this; cases this
  have hst : St σ h F N a := ⟨hh.inv, fun t av hg => hh.env t av (by rw [get_filt, if_pos (show seen ops al.length listed t from fun k hk _ => hall k (by omega))]; exact hg), hh.size, hh.defers⟩
  have := hend σ a hle hst
  refine tail_any ho.toOrderB 0 al.length listed a σ.w (Nat.le_refl _) hm (by omega) hsz (fun i hi => by rw [hall i hi]; simp; omega) this
 | succ f ih =>
  intro listed a σ hsz htail hcl hle hh hc
  by_cases hall : ∀ i, i < al.length -> listed.getD i true = true
  ·have hst : St σ h F N a := ⟨hh.inv, fun t av hg => hh.env t av (by rw [get_filt, if_pos (show seen ops al.length listed t from fun k hk _ => hall k hk)]; exact hg), hh.size, hh.defers⟩
   refine tail_any ho.toOrderB (f + 1) al.length listed a σ.w (Nat.le_refl _) hm ?_ hsz (fun i hi => ?_) (hend σ a hle hst)
   ·
    have hcnt : ops.size - al.length <= listed.toList.count false := by
     have hsplit : listed.toList = listed.toList.take al.length ++ listed.toList.drop al.length := (List.take_append_drop _ _).symm
     rw [hsplit, List.count_append]
     have hd : listed.toList.drop al.length = List.replicate (ops.size - al.length) false := by
      apply List.eq_replicate_iff.2
      refine ⟨by simp [hsz], fun b hb => ?_⟩
      obtain ⟨i, hi⟩ := List.mem_iff_getElem?.1 hb
      rw [List.getElem?_drop] at hi
      have hlt := (List.getElem?_eq_some_iff.1 hi).1
      have := htail (al.length + i) (by omega) (by simpa [hsz] using hlt)
      simp only [Array.getElem?_toList] at hi
      simp only [Array.getD_eq_getD_getElem?, hi, Option.getD_some] at this
      exact this
     rw [hd, List.count_replicate]
     simp
    omega
   ·by_cases him : i < al.length
    ·rw [hall i him]; simp [him]
    ·rw [htail i (by omega) hi]; simp [him]
  ·obtain ⟨i0, hi0, hn0⟩ : ∃ i, i < al.length /\ listed.getD i true = false := by
    false_or_by_contra
    rename_i hcon
    exact hall fun i hi => by
     cases hb : listed.getD i true with
     | true => rfl
     | false => exact absurd ⟨i, hi, hb⟩ hcon
   refine ⟨fun hnil => ?_, fun i hi => ?_⟩
   ·obtain ⟨i, hi⟩ := least_ready (md := md) ho.toOrderB hsz ⟨i0, by omega, hn0⟩
    rw [hnil] at hi; cases hi
   ·obtain ⟨hun, o, hoi, hdeps⟩ := mem_ready'.1 hi
    have hin := (Array.getElem?_eq_some_iff.1 hoi).1
    have him : i < al.length := by
     by_cases h' : i < al.length
     ·exact h'
     ·rcases ho.tail i hin (by omega) with h | ⟨hmi, h⟩ | ⟨hmi, h⟩
      ·exact absurd hi (ahead_not (h i0 (by omega)) hn0)
      ·exact absurd hi (ahead_not h (htail (i - 1) (by omega) (by omega)))
      ·subst hmi; exact absurd hi (ahead_all h hi0 hn0 hcl)
    obtain ⟨ao, hao, hco⟩ := hget i o (by rw [List.getElem?_take, if_pos him]; simpa using hoi)
    obtain ⟨hop, hd, hdst, hguard⟩ := compOper_some hco
    have hfact := hF ao (List.mem_of_getElem? hao)

    have hsee : ∀ t ∈ ao.looks, seen ops al.length listed t := by
     intro t ht k hk hkd
     have ha := ho.head i ao him hao t ht k hk hkd
     unfold ahead at ha
     rw [hoi] at ha
     simp only [Array.any_eq_true'] at ha
     obtain ⟨e, he, hb⟩ := ha
     simp only [Bool.and_eq_true, beq_iff_eq] at hb
     have := hdeps e he (binds_any hb.1)
     rw [hb.2, getD_any (by omega) false true] at this
     exact this
    have hlook : ∀ t ∈ ao.looks, get (filt (seen ops al.length listed) F) t = get F t := fun t ht => by rw [get_filt, if_pos (hsee t ht)]
    have hst : St σ h (filt (seen ops al.length listed) F) N a := ⟨hh.inv, hh.env, hh.size, hh.defers⟩
    have hcount : (listed.setIfInBounds i true).toList.count false <= f := by
     have hget' : listed.toList[i]'(by simp; omega) = false := by
      have : listed[i]? = some listed[i] := Array.getElem?_eq_getElem (by omega)
      simp only [Array.getD_eq_getD_getElem?, this, Option.getD_some] at hun
      simpa using hun
     have := List.count_set (a := true) (b := false) (l := listed.toList) (i := i) (by simp; omega)
     simp only [Array.toList_setIfInBounds]
     rw [this, hget']
     have hp : 0 < listed.toList.count false := List.count_pos_iff.2 (by rw [List.mem_iff_getElem]; exact ⟨i, by simp; omega, hget'⟩)
     show listed.toList.count false - 1 + 0 <= f
     omega
    have hnext : ∀ (a' : Act) (σ' : Sg), Le σ σ' -> Half ops al.length F h N (listed.setIfInBounds i true) σ' a' -> wpAny P md ops Q f (listed.setIfInBounds i true) a' σ'.w := by
     intro a' σ' hl' hh'
     refine ih _ a' σ' (by simp [hsz]) (fun k hk1 hk2 => ?_) (fun k j hk hj hlk hah => ?_) (hle.trans hl') hh' hcount
     ·rw [getD_set (by omega), if_neg (by omega)]
      exact htail k hk1 hk2
     ·rw [getD_set (by omega)] at hlk ⊢
      by_cases hij : i = j
      ·rw [if_pos hij]
      ·rw [if_neg hij]
       by_cases hik : i = k
       ·subst hik
        cases hb : listed.getD j true with
        | true => rfl
        | false => exact absurd hi (ahead_not hah hb)
       ·rw [if_neg hik] at hlk
        exact hcl k j hk hj hlk hah
    have hseen' : ∀ t, seen ops al.length (listed.setIfInBounds i true) t -> (ops[i]?).bind (·.dst) ≠ some t -> seen ops al.length listed t := by
     intro t ht hne k hk hkd
     have := ht k hk hkd
     rw [getD_set (by omega)] at this
     by_cases hik : i = k
     ·subst hik; exact absurd hkd hne
     ·rwa [if_neg hik] at this
    have hbind : (ops[i]?).bind (·.dst) = o.dst := by rw [hoi]; rfl
    have does : (∃ av, aopQ P ao.op F h av /\ ∀ d, ao.dst = some d -> get F d = some av) -> Oper.wp P o a σ.w (wpAny P md ops Q f (listed.setIfInBounds i true)) Q := by
     rintro ⟨av, hqa, hfd⟩
     have hqa' : aop P ao.op (filt (seen ops al.length listed) F) h (fun av' h' => av' = av /\ h' = h) := by
      rw [aop_congr (e1 := filt (seen ops al.length listed) F) (e2 := F)]
      ·exact hqa
      ·intro x hx
       cases x with
       | c a => rfl
       | t n =>
        refine hlook n ?_
        simp only [AOper.looks, List.mem_append, List.mem_filterMap]
        exact .inl ⟨.t n, hx, rfl⟩
     refine Oper.wp_mono (fun a' w' hb => ?_) (aop_wp' hop hst hd hqa' Q)
     obtain ⟨σ', h', av', rfl, l1, s1, rfl, rfl⟩ := hb
     refine hnext a' σ' l1 ⟨s1.inv, ?_, s1.size, s1.defers⟩
     intro t bv hg
     rw [get_filt] at hg
     split at hg
     ·rename_i hs
      by_cases hdt : o.dst = some t
      ·have := hfd t (by rw [hdst]; exact hdt)
       rw [this] at hg; cases hg
       exact s1.env t av' (by rw [get_putE, if_pos hdt])
      ·exact s1.env t bv (by rw [get_putE, if_neg hdt, get_filt, if_pos (hseen' t hs (by rw [hbind]; exact hdt))]; exact hg)
     ·cases hg
    unfold wpOp
    rw [hoi]
    simp only
    unfold Fact at hfact
    rcases hguard with ⟨hg1, hg2⟩ | ⟨j, b, t, hg1, hg2, hg3⟩
    ·have hw : Region.wanted o (yielded ops a.tmps) = true := by simp [Region.wanted, hg1]
     rw [if_pos hw]
     rw [hg2] at hfact
     exact .inl (does hfact)
    ·rw [hg2] at hfact
     have skip : (∀ d, ao.dst = some d -> get F d = some (.tuple [])) -> wpAny P md ops Q f (listed.setIfInBounds i true) (a.put o.dst undef) σ.w := by
      intro hno
      have s1 := hst.skipped o.dst hd
      refine hnext _ σ (Le.refl σ) ⟨s1.inv, ?_, s1.size, s1.defers⟩
      intro u bv hg
      rw [get_filt] at hg
      split at hg
      ·rename_i hs
       by_cases hdt : o.dst = some u
       ·have := hno u (by rw [hdst]; exact hdt)
        rw [this] at hg; cases hg
        exact s1.env u _ (by rw [get_dropE, if_pos hdt])
       ·exact s1.env u bv (by rw [get_dropE, if_neg hdt, get_filt, if_pos (hseen' u hs (by rw [hbind]; exact hdt))]; exact hg)
      ·cases hg
     rcases hfact with ⟨c, hgt, hyes, hno⟩ | ⟨hgt, hno⟩
     ·have hy : yielded ops a.tmps j = some c := yielded_of (env := filt (seen ops al.length listed) F) hg3 hh.env (by rw [hlook t (by simp [AOper.looks, hg2])]; exact hgt)
      by_cases hcb : c = b
      ·have hw : Region.wanted o (yielded ops a.tmps) = true := by simp [Region.wanted, hg1, hy, hcb]
       rw [if_pos hw]
       exact .inl (does (hyes hcb))
      ·have hw : Region.wanted o (yielded ops a.tmps) = false := by simp [Region.wanted, hg1, hy, hcb]
       rw [hw]
       simp only [Bool.false_eq_true, if_false]
       exact skip (hno hcb)
     ·have hy : yielded ops a.tmps j = none := yielded_none (env := filt (seen ops al.length listed) F) hg3 hh.env (by rw [hlook t (by simp [AOper.looks, hg2])]; exact hgt)
      have hw : Region.wanted o (yielded ops a.tmps) = false := by simp [Region.wanted, hg1, hy]
      rw [hw]
      simp only [Bool.false_eq_true, if_false]
      exact skip hno
def drawOK (ops : Array Oper) (al : List AOper) : Bool :=
 orderOK ops al.length al && okq al && decide (al.length <= ops.size) &&
 (List.range al.length).all fun i => (List.range i).all fun j => !(((ops[i]?).bind (·.dst)).isSome && (ops[i]?).bind (·.dst) == (ops[j]?).bind (·.dst))
def lateOK (ops : Array Oper) (al : List AOper) : Bool :=
 (goes .any ops && goes .text ops && goes .gc ops) &&
 (List.range ops.size).all (fun i => decide (i < al.length) || ((List.range i).all fun j => ahead ops i j) || (decide (al.length < i) && ahead ops i (i - 1)) || (decide (i = al.length) && aheadAll ops al.length)) && decide (al.length <= ops.size) &&
 (List.range al.length).all (fun i => match al[i]? with
  | some o => o.looks.all fun t => ((List.range al.length).all fun k => !((ops[k]?).bind (·.dst) == some t) || ahead ops i k) || ((List.range al.length).all fun k => !((ops[k]?).bind (·.dst) == some t) || k == i || ahead ops k i)
  | none => false)
theorem drawn_sound {id : Nat} {ops : Array Oper} {al tl : List AOper} (hq : compOps P N ops (ops.toList.take al.length) = some al) (ht : compOps P N ops (ops.toList.drop al.length) = some tl) (hok : drawOK ops al = true)
  {Q : Exit -> Env -> AHeap -> Prop} (hs : St σ h env N a) (hv : vq P al env h fun F => vops P tl F h fun env' h' => Q .normal env' h') : (Code.region id ops true).wp P (Lifted σ N Q) a σ.w := by
 simp only [drawOK, Bool.and_eq_true, decide_eq_true_eq] at hok
 obtain ⟨⟨⟨h1, h2⟩, h3⟩, h4⟩ := hok
 have ho := order_of h1
 obtain ⟨F, k1, k2, k3⟩ := vq_facts al env h2 hv
 have huniq : ∀ i j t, (ops[i]?).bind (·.dst) = some t -> (ops[j]?).bind (·.dst) = some t -> i < al.length -> j < al.length -> i = j := by
  have key : ∀ i j t, (ops[i]?).bind (·.dst) = some t -> (ops[j]?).bind (·.dst) = some t -> i < al.length -> j < i -> False := by
   intro i j t hi hj hil hji
   have := List.all_eq_true.1 (List.all_eq_true.1 h4 i (List.mem_range.2 hil)) j (List.mem_range.2 hji)
   simp [hi, hj] at this
  intro i j t hi hj hil hjl
  by_cases h' : i = j
  ·exact h'
  ·rcases Nat.lt_or_ge i j with hlt | hge
   ·exact (key j i t hj hi hjl hlt).elim
   ·exact (key i j t hi hj hil (by omega)).elim
 have hd : Past σ.w { σ.w with drawn := σ.w.drawn + 1 } := ⟨Nat.le_refl _, fun _ _ => rfl, rfl, rfl, rfl⟩
 let σ1 : Sg := { σ with w := { σ.w with drawn := σ.w.drawn + 1 } }
 have hle1 : Le σ σ1 := Le.world hd
 have hi1 : Inv h σ1 := hs.inv.world hd
 obtain ⟨hlen, hget⟩ := compOps_get hq
 have every : ∀ md : Region.Mode, wpAny P md ops (Lifted σ N Q) ops.size (Array.replicate ops.size false) a { σ.w with drawn := σ.w.drawn + 1 } := by
  intro md
  refine head_any (σ₀ := σ1) hq h3 ho k3 huniq ?_ ops.size _ a σ1 (by simp) (fun i _ hi => by simp [hi]) (fun k j hk _ hl _ => by simp [Nat.lt_of_lt_of_le hk h3] at hl) (Le.refl _) ?_ ?_
  ·intro σ2 a2 l2 s2
   have hlen2 : (ops.toList.drop al.length).length = ops.size - al.length := by simp
   rw [← hlen2]
   refine vops_sound (σ₀ := σ1) (K := fun env' h' => Q .normal env' h') (fun σ3 h3 env3 a3 l3 s3 q3 => ⟨trivial, σ3, h3, env3, rfl, hle1.trans l3, s3, q3⟩) _ _ tl σ2 h F a2 (fun j hj => ?_) ht l2 s2 k1
   rw [List.getElem?_drop, Array.getElem?_toList]
  ·refine ⟨hi1, ?_, hs.size, hs.defers⟩
   intro t av hg
   rw [get_filt] at hg
   split at hg
   ·rename_i hsn
    have hw : writes t al = false := by
     cases hwb : writes t al with
     | false => rfl
     | true =>
      exfalso
      unfold writes at hwb
      rw [List.any_eq_true] at hwb
      obtain ⟨o, hmem, hod⟩ := hwb
      obtain ⟨i, hi⟩ := List.mem_iff_getElem?.1 hmem
      have hil : i < al.length := (List.getElem?_eq_some_iff.1 hi).1
      have hops : ops[i]? = some ops[i] := Array.getElem?_eq_getElem (by omega)
      obtain ⟨ao, hao, hco⟩ := hget i ops[i] (by rw [List.getElem?_take, if_pos hil]; simpa using hops)
      rw [hi] at hao; cases hao
      have := (compOper_some hco).2.2.1
      have hf := hsn i hil (by rw [hops]; simp only [Option.bind_some]; rw [← this]; simpa using hod)
      simp [Array.getD_eq_getD_getElem?, Array.getElem?_replicate, show i < ops.size by omega] at hf
    rw [k2 t hw] at hg
    obtain ⟨x, q1, q2⟩ := hs.env t av hg
    exact ⟨x, q1, q2.mono hle1⟩
   ·cases hg
  ·simp
 refine wp_region_draw fun t => ?_
 unfold Region.schedule
 split
 ·exact wpAny_sound ops.size t _ a _ (every .any)
 ·exact wpAny_sound ops.size (t / 2) _ a _ (every _)
end
def hA (h : AHeap) (az : List (Nat × List AV)) (lst : Nat -> Bool) : AHeap := ⟨h.blks ++ az.map (fun p => if lst p.1 = true then some p.2 else none), h.bufs, h.globs⟩
def hCur (h : AHeap) (az : List (Nat × List AV)) (hs : List AHeap) (lst : Nat -> Bool) : Nat -> Option AHeap
 | 0 => some (hA h az lst)
 | j + 1 => hs[j + 1]?
def DoesN (P : Program) (F : Env) (h0 : AHeap) (az : List (Nat × List AV)) (hs : List AHeap) (ord : List (List Nat)) (fl : List (Option Nat)) (i : Nat) (o : AOper) : Option Nat -> Prop
 | some n => ∃ av h h', hs[n]? = some h /\ hs[n + 1]? = some h' /\ aop P o.op F h (fun a b => a = av /\ b = h') /\ ∀ d, o.dst = some d -> get F d = some av
 | none => ∃ av j0 j1, j0 < hs.length /\ (∀ j lst h, j0 <= j -> j <= j1 -> hCur h0 az hs lst j = some h -> aopQ P o.op F h av) /\ (∀ k n : Nat, fl[k]? = some (some n) -> n < j0 -> k ∈ ord.getD i []) /\ (hs.length <= j1 + 1 ∨ ∃ k : Nat, fl[k]? = some (some j1) /\ i ∈ ord.getD k []) /\
   ∀ d, o.dst = some d -> get F d = some av
def FactN (P : Program) (F : Env) (h0 : AHeap) (az : List (Nat × List AV)) (hs : List AHeap) (ord : List (List Nat)) (fl : List (Option Nat)) (i : Nat) (o : AOper) (n : Option Nat) : Prop :=
 let skip := n = none /\ ∀ d, o.dst = some d -> get F d = some (.tuple [])
 match o.guard with
 | none => DoesN P F h0 az hs ord fl i o n
 | some (t, want) => (∃ b, get F t = some (.v (.bool b)) /\ (b = want -> DoesN P F h0 az hs ord fl i o n) /\ (b ≠ want -> skip)) ∨ (get F t = some (.tuple []) /\ skip)
structure Noise (P : Program) (ord : List (List Nat)) (al : List AOper) (env F : Env) (h h' : AHeap) (az : List (Nat × List AV)) (hs : List AHeap) (fl : List (Option Nat)) : Prop where
 len : fl.length = al.length
 chain : ∀ i k a b : Nat, i < k -> fl[i]? = some (some a) -> fl[k]? = some (some b) -> a < b /\ i ∈ ord.getD k []
 onto : ∀ j : Nat, j + 1 < hs.length -> ∃ i : Nat, fl[i]? = some (some j)
 first : hs[0]? = some (hA h az fun _ => true)
 last : ∃ n, hs.length = n + 1 /\ hs[n]? = some h'
 bound : ∀ i n : Nat, fl[i]? = some (some n) -> n + 1 < hs.length
 keep : ∀ t, writes t al = false -> get F t = get env t
 new : ∀ (q : Nat) (p : Nat × List AV), az[q]? = some p -> ∃ o, al[p.1]? = some o /\ o.op = .alloc p.2 /\ o.guard = none /\ fl[p.1]? = some none /\ ∀ d, o.dst = some d -> get F d = some (.ptr (h.blks.length + q) 0)
 inj : ∀ (q r : Nat) (p s : Nat × List AV), az[q]? = some p -> az[r]? = some s -> p.1 = s.1 -> q = r
 afirst : ∀ (k n : Nat), fl[k]? = some (some n) -> ∀ p ∈ az, p.1 ∈ ord.getD k []
 fact : ∀ (i : Nat) (o : AOper) (n : Option Nat), al[i]? = some o -> fl[i]? = some n -> (∃ (q : Nat) (p : Nat × List AV), az[q]? = some p /\ p.1 = i) ∨ FactN P F h az hs ord fl i o n
section
variable {P : Program} {σ : Sg} {h : AHeap} {env : Env} {N : Nat} {a : Act}
theorem reserve_ok (hi : Inv h σ) (n : Nat) : Inv ⟨h.blks ++ List.replicate n none, h.bufs, h.globs⟩ σ := by
 have hget : ∀ (k : Nat) (c : List AV), (h.blks ++ List.replicate n none)[k]? = some (some c) -> h.blks[k]? = some (some c) := by
  intro k c hk
  by_cases hl : k < h.blks.length
  ·rwa [List.getElem?_append_left hl] at hk
  ·rw [List.getElem?_append_right (by omega), List.getElem?_replicate] at hk
   split at hk <;> cases hk
 exact {
  blk := fun k c hk => hi.blk k c (hget k c hk)
  dom := fun k c hk => by
   obtain ⟨x, hx⟩ := hi.dom k c hk
   exact ⟨x, by rw [List.getElem?_append_left (hi.name hk)]; exact hx⟩
  inj := fun k m c x y hx hy => hi.inj k m c x y (hget k x hx) (hget m y hy)
  buf := hi.buf
  bufdom := hi.bufdom
  bufle := hi.bufle
  bufat := hi.bufat
  bufun := hi.bufun
  buflt := hi.buflt
  bufinj := hi.bufinj
  bufblk := hi.bufblk
  outer := hi.outer
  glob := hi.glob }
theorem alloc_at (hi : Inv h σ) {n : Nat} (hn : h.blks[n]? = some none) {cells : List AV} (obj : Obj) (hnew : ∀ σ', Le σ σ' -> σ'.w.heap[σ.w.heap.size]? = some obj -> BlkAt σ' σ.w.heap.size cells) :
  ∃ σ', σ'.w = σ.w.alloc obj /\ Le σ σ' /\ Inv ⟨h.blks.set n (some cells), h.bufs, h.globs⟩ σ' /\ Rel σ' (.ptr n 0) (.pointer (some ⟨σ.w.heap.size, 0, none⟩)) := by
 have hl : n < h.blks.length := (List.getElem?_eq_some_iff.1 hn).1
 have hf : σ.blk n = none := by
  cases hb : σ.blk n with
  | none => rfl
  | some b => obtain ⟨c, hc⟩ := hi.dom n b hb; rw [hn] at hc; cases hc
 let σ' : Sg := { σ with w := σ.w.alloc obj, blk := fun m => if m = n then some σ.w.heap.size else σ.blk m }
 have hp := Past.alloc σ.w obj
 have hslt := hi.buflt
 have hne : ∀ m b, σ.blk m = some b -> m ≠ n := by rintro m b hm rfl; rw [hf] at hm; cases hm
 have hold : ∀ m b, σ.blk m = some b -> σ'.blk m = some b := by
  intro m b hm
  show (if m = n then some σ.w.heap.size else σ.blk m) = some b
  rw [if_neg (hne m b hm)]; exact hm
 have hinv : ∀ m b, σ'.blk m = some b -> (m = n /\ b = σ.w.heap.size) ∨ (m ≠ n /\ σ.blk m = some b) := by
  intro m b hm
  simp only [σ'] at hm
  split at hm
  ·cases hm; exact .inl ⟨‹_›, rfl⟩
  ·exact .inr ⟨‹_›, hm⟩
 have hle : Le σ σ' := {
  blk := hold
  buf := fun _ e h => ⟨e, h, Nat.le_refl _, rfl, fun _ => rfl⟩
  outer := rfl
  cell := fun b o hb _ => cell_world (hp.old b hb) o
  ext := (Le.world (σ := σ) hp).ext
  shape := (Le.world (σ := σ) hp).shape
  whole := fun b hb _ => hp.old b hb
  own := fun b o hb ho => by
   rcases ho with ⟨m, hm⟩ | hx
   ·rcases hinv m b hm with ⟨_, rfl⟩ | ⟨_, hm⟩
    ·omega
    ·exact .inl ⟨m, hm⟩
   ·exact .inr hx
  size := hp.size
  os := hp.os
  tape := hp.tape
  output := hp.output }
 have hget : ∀ (m : Nat) (c : List AV), (h.blks.set n (some cells))[m]? = some (some c) -> (m = n /\ c = cells) ∨ (m ≠ n /\ h.blks[m]? = some (some c)) := by
  intro m c hm
  by_cases hmn : m = n
  ·subst hmn; rw [List.getElem?_set_self hl] at hm; cases hm; exact .inl ⟨rfl, rfl⟩
  ·rw [List.getElem?_set_ne (Ne.symm hmn)] at hm; exact .inr ⟨hmn, hm⟩
 refine ⟨σ', rfl, hle, ?_, .ptr _ _ _ (if_pos rfl)⟩
 exact {
  blk := fun m c hm => by
   rcases hget m c hm with ⟨rfl, rfl⟩ | ⟨hmn, hm⟩
   ·exact ⟨σ.w.heap.size, if_pos rfl, hnew σ' hle (heap_alloc_new _ _)⟩
   ·obtain ⟨b, h1, h2⟩ := hi.blk m c hm
    exact ⟨b, hold m b h1, h2.keep hle (hp.old b h2.lt)⟩
  dom := fun m b hm => by
   rcases hinv m b hm with ⟨rfl, rfl⟩ | ⟨hmn, hm⟩
   ·exact ⟨cells, List.getElem?_set_self hl⟩
   ·obtain ⟨c, hc⟩ := hi.dom m b hm
    exact ⟨c, by rw [List.getElem?_set_ne (Ne.symm hmn)]; exact hc⟩
  inj := fun m k b x y hx hy hx0 hy0 hm hk => by
   rcases hinv m b hm with ⟨m0, m2⟩ | ⟨m1, hm2⟩ <;> rcases hinv k b hk with ⟨k0, k2⟩ | ⟨k1, hk2⟩
   ·omega
   ·have := hi.lt hk2; omega
   ·have := hi.lt hm2; omega
   ·rcases hget m x hx with ⟨h, _⟩ | ⟨_, hx⟩
    ·exact absurd h m1
    ·rcases hget k y hy with ⟨h, _⟩ | ⟨_, hy⟩
     ·exact absurd h k1
     ·exact hi.inj m k b x y hx hy hx0 hy0 hm2 hk2
  buf := hi.buf
  bufdom := hi.bufdom
  bufle := hi.bufle
  bufat := (hi.world hp).bufat
  bufun := (hi.world hp).bufun
  buflt := (hi.world hp).buflt
  bufinj := hi.bufinj
  bufblk := fun id e m b o he hs hm => by
   rcases hinv m b hm with ⟨_, rfl⟩ | ⟨_, hm⟩
   ·have := hslt id e _ o he hs; omega
   ·exact hi.bufblk id e m b o he hs hm
  outer := fun b o ho => by
   obtain ⟨h1, h2⟩ := hi.outer b o ho
   exact ⟨Nat.lt_of_lt_of_le h1 hp.size, fun hx => h2 (hle.own b o h1 hx)⟩
  glob := fun g cells hg => (hi.glob g cells hg).mono hle }
theorem getD_ne {x : Option AOp} {y : AOp} (h : x.getD .bad = y) (hy : y ≠ .bad) : x = some y := by
 cases x with
 | none => exact absurd h.symm hy
 | some z => exact congrArg some h
theorem compOp_alloc {o : Oper} {cells : List AV} (hc : compOp P o = some (.alloc cells)) : ∃ e, o.op = .alloc e := by
 unfold compOp at hc
 split at hc
 case h_4 e he => exact ⟨e, he⟩
 all_goals
  exfalso
  (try simp only [compCall] at hc)
  (repeat' (first | (cases hc; done) | (simp only [Option.bind_eq_some_iff, Option.map_eq_some_iff] at hc; done) | (obtain ⟨_, _, hc⟩ := hc) | (split at hc) | (simp only [Option.bind_eq_some_iff, Option.map_eq_some_iff] at hc)))
theorem alloc_wp {o : Oper} {cells : List AV} (hc : compOp P o = some (.alloc cells)) (hs : St σ h env N a) (hd : ∀ d, o.dst = some d -> d < N) {n : Nat} (hn : h.blks[n]? = some none) (Q : Exit -> Act -> World -> Prop) :
  o.wp P a σ.w (fun a' w' => ∃ σ', σ'.w = w' /\ Le σ σ' /\ St σ' ⟨h.blks.set n (some cells), h.bufs, h.globs⟩ (putE env o.dst (.ptr n 0)) N a') Q := by
 obtain ⟨e, he⟩ := compOp_alloc hc
 obtain ⟨dst, op, type, pos, after, guard⟩ := o
 simp only at he
 subst he
 simp only [compOp] at hc
 split at hc
 ·cases hc
 simp only [Option.bind_eq_some_iff, Option.map_eq_some_iff, AOp.alloc.injEq] at hc
 obtain ⟨z, hz, zs, hzs, rfl⟩ := hc
 obtain ⟨σ', g1, g2, g3, g4⟩ := alloc_at hs.inv hn (cells := zs) (.cells z.cells e) fun σ' hle hb => .cells _ z.cells.toList [] e (by simpa using hb) ((ofVs_cells (σ := σ) hzs).mono hle)
 unfold Oper.wp
 have hrun : (execOp a.eval ⟨dst, .alloc e, type, pos, after, guard⟩).run P σ.w = .ok (.value (.pointer (some ⟨σ.w.heap.size, 0, none⟩))) σ'.w := by
  rw [g1]
  simp [execOp, Instr.alloc, zeroOf_run hz, newVar, newRow]
 rw [hrun]
 exact ⟨σ', rfl, g2, hs.put g2 g3 hd g4⟩
structure HalfN (ops : Array Oper) (m : Nat) (F : Env) (h0 : AHeap) (az : List (Nat × List AV)) (hs : List AHeap) (fl : List (Option Nat)) (j : Nat) (N : Nat) (listed : Array Bool) (σ : Sg) (a : Act) : Prop where
 inv : ∃ h, hCur h0 az hs (fun k => listed.getD k true) j = some h /\ Inv h σ
 env : EnvRel σ (filt (seen ops m listed) F) a.tmps
 size : a.tmps.size = N
 defers : a.defers = []
 nums : ∀ i n : Nat, fl[i]? = some (some n) -> (listed.getD i true = true ↔ n < j)
 closed : ∀ k i : Nat, k < m -> listed.getD k true = true -> i ∈ (ordOf ops m).getD k [] -> listed.getD i true = true
set_option maxHeartbeats 1000000 in
theorem head_anyN {md : Region.Mode} {ops : Array Oper} {al : List AOper} {env F : Env} {h h' : AHeap} {az : List (Nat × List AV)} {hs : List AHeap} {fl : List (Option Nat)} (hq : compOps P N ops (ops.toList.take al.length) = some al) (hm : al.length <= ops.size) (ho : Order ops al.length al)
  (hF : Noise P (clo (ordOf ops al.length)) al env F h h' az hs fl)
  {Q : Exit -> Act -> World -> Prop} {σ₀ : Sg} (hend : ∀ σ a, Le σ₀ σ -> St σ h' F N a -> wpOps P ops Q (List.range' al.length (ops.size - al.length)) a σ.w) :
  ∀ (f : Nat) (listed : Array Bool) (a : Act) (σ : Sg) (j : Nat), listed.size = ops.size -> (∀ i, al.length <= i -> i < ops.size -> listed.getD i true = false) -> Le σ₀ σ -> HalfN ops al.length F h az hs fl j N listed σ a -> listed.toList.count false <= f -> wpAny P md ops Q f listed a σ.w := by
 obtain ⟨hlen, hget⟩ := compOps_get hq
 obtain ⟨nl, hnl, hnl2⟩ := hF.last
 have hfin : ∀ (listed : Array Bool) (a : Act) (σ : Sg) (j : Nat), HalfN ops al.length F h az hs fl j N listed σ a -> (∀ i, i < al.length -> listed.getD i true = true) -> St σ h' F N a := by
  intro listed a σ j hh hall
  obtain ⟨hj, h1, h2⟩ := hh.inv
  have hjl : j < hs.length := by
   cases j with
   | zero => omega
   | succ j => exact (List.getElem?_eq_some_iff.1 h1).1
  have hjn : j = nl := by
   by_cases hlt : j + 1 < hs.length
   ·obtain ⟨i, hi⟩ := hF.onto j hlt
    have hil : i < al.length := by rw [← hF.len]; exact (List.getElem?_eq_some_iff.1 hi).1
    have := (hh.nums i j hi).1 (hall i hil)
    omega
   ·omega
  subst hjn
  have h1' : hs[j]? = some hj := by
   cases j with
   | succ j => exact h1
   | zero =>
    rw [hF.first, ← h1]
    show some _ = some _
    congr 1
    unfold hA
    congr 2
    apply List.map_congr_left
    intro p hp
    obtain ⟨q, hq⟩ := List.mem_iff_getElem?.1 hp
    obtain ⟨o, ho1, _⟩ := hF.new q p hq
    have hil : p.1 < al.length := (List.getElem?_eq_some_iff.1 ho1).1
    simp only [hall p.1 hil]
  rw [hnl2] at h1'; cases h1'
  exact ⟨h2, fun t av hg => hh.env t av (by rw [get_filt, if_pos (show seen ops al.length listed t from fun k hk _ => hall k hk)]; exact hg), hh.size, hh.defers⟩
 intro f
 induction f with
 | zero =>
  intro listed a σ j hsz htail hle hh hc
  have hall : ∀ i, i < ops.size -> listed.getD i true = true := by
   intro i hi
   cases hb : listed.getD i true with
   | true => rfl
   | false =>
    exfalso
    have hmem : false ∈ listed.toList := by
     rw [List.mem_iff_getElem?]
     refine ⟨i, ?_⟩
     have : listed[i]? = some listed[i] := Array.getElem?_eq_getElem (by omega)
     simp only [Array.getD_eq_getD_getElem?, this, Option.getD_some] at hb
     simp only [Array.getElem?_toList, this, hb]
    have := List.count_pos_iff.2 hmem
    omega
  have hmn : al.length = ops.size := by
   by_cases he : al.length = ops.size
   ·exact he
   ·have := htail al.length (Nat.le_refl _) (by omega)
    rw [hall _ (by omega)] at this; cases this
  have := hend σ a hle (hfin listed a σ j hh fun i hi => hall i (by omega))
  refine tail_any ho.toOrderB 0 al.length listed a σ.w (Nat.le_refl _) hm (by omega) hsz (fun i hi => by rw [hall i hi]; simp; omega) this
 | succ f ih =>
  intro listed a σ j hsz htail hle hh hc
  by_cases hall : ∀ i, i < al.length -> listed.getD i true = true
  ·refine tail_any ho.toOrderB (f + 1) al.length listed a σ.w (Nat.le_refl _) hm ?_ hsz (fun i hi => ?_) (hend σ a hle (hfin listed a σ j hh hall))
   ·have hcnt : ops.size - al.length <= listed.toList.count false := by
     have hsplit : listed.toList = listed.toList.take al.length ++ listed.toList.drop al.length := (List.take_append_drop _ _).symm
     rw [hsplit, List.count_append]
     have hd : listed.toList.drop al.length = List.replicate (ops.size - al.length) false := by
      apply List.eq_replicate_iff.2
      refine ⟨by simp [hsz], fun b hb => ?_⟩
      obtain ⟨i, hi⟩ := List.mem_iff_getElem?.1 hb
      rw [List.getElem?_drop] at hi
      have hlt := (List.getElem?_eq_some_iff.1 hi).1
      have := htail (al.length + i) (by omega) (by simpa [hsz] using hlt)
      simp only [Array.getElem?_toList] at hi
      simp only [Array.getD_eq_getD_getElem?, hi, Option.getD_some] at this
      exact this
     rw [hd, List.count_replicate]
     simp
    omega
   ·by_cases him : i < al.length
    ·rw [hall i him]; simp [him]
    ·rw [htail i (by omega) hi]; simp [him]
  ·obtain ⟨i0, hi0, hn0⟩ : ∃ i, i < al.length /\ listed.getD i true = false := by
    false_or_by_contra
    rename_i hcon
    exact hall fun i hi => by
     cases hb : listed.getD i true with
     | true => rfl
     | false => exact absurd ⟨i, hi, hb⟩ hcon
   refine ⟨fun hnil => ?_, fun i hi => ?_⟩
   ·obtain ⟨i, hi⟩ := least_ready (md := md) ho.toOrderB hsz ⟨i0, by omega, hn0⟩
    rw [hnil] at hi; cases hi
   ·obtain ⟨hun, o, hoi, hdeps⟩ := mem_ready'.1 hi
    have hin := (Array.getElem?_eq_some_iff.1 hoi).1
    have him : i < al.length := by
     by_cases h' : i < al.length
     ·exact h'
     ·rcases ho.tail i hin (by omega) with h | ⟨hmi, h⟩ | ⟨hmi, h⟩
      ·exact absurd hi (ahead_not (h i0 (by omega)) hn0)
      ·exact absurd hi (ahead_not h (htail (i - 1) (by omega) (by omega)))
      ·subst hmi; exact absurd hi (ahead_all h hi0 hn0 fun k j hk hj hl hah => hh.closed k j hk hl (ordOf_of hk hj hah))
    obtain ⟨ao, hao, hco⟩ := hget i o (by rw [List.getElem?_take, if_pos him]; simpa using hoi)
    obtain ⟨hop, hd, hdst, hguard⟩ := compOper_some hco
    obtain ⟨fn, hfn⟩ : ∃ fn, fl[i]? = some fn := ⟨_, List.getElem?_eq_getElem (by rw [hF.len]; exact him)⟩
    have hfact := hF.fact i ao fn hao hfn
    obtain ⟨hj, hjs, hinv⟩ := hh.inv
    have hjl : j < hs.length := by
     cases j with
     | zero => omega
     | succ j => exact (List.getElem?_eq_some_iff.1 hjs).1

    have hnew : 0 < j -> ∀ p ∈ az, listed.getD p.1 true = true := by
     intro hj0 p hp
     obtain ⟨k, hk⟩ := hF.onto 0 (by omega)
     have hkm : k < al.length := by rw [← hF.len]; exact (List.getElem?_eq_some_iff.1 hk).1
     exact clo_listed (L := fun k => listed.getD k true = true) hh.closed (k + 1) k (by omega) hkm ((hh.nums k 0 hk).2 hj0) _ (hF.afirst k 0 hk p hp)
    have hcur : ∀ i, (∀ p ∈ az, p.1 ≠ i) -> hCur h az hs (fun k => (listed.setIfInBounds i true).getD k true) j = hCur h az hs (fun k => listed.getD k true) j := by
     intro i hi
     cases j with
     | succ j => rfl
     | zero =>
      show some _ = some _
      congr 1
      unfold hA
      congr 2
      apply List.map_congr_left
      intro p hp
      by_cases hil : i < listed.size
      ·have := getD_set (listed := listed) (i := i) (j := p.1) (d := true) hil
       rw [if_neg (fun e => hi p hp e.symm)] at this
       simp only [this]
      ·have : listed.setIfInBounds i true = listed := by simp [Array.setIfInBounds, hil]
       simp only [this]

    have hahead0 : ∀ k, k ∈ (ordOf ops al.length).getD i [] -> listed.getD k true = true := by
     intro k hk
     have ha := (ordOf_mem hk).2
     cases hb : listed.getD k true with
     | true => rfl
     | false => exact absurd hi (ahead_not ha hb)
    have hahead : ∀ k, k ∈ (clo (ordOf ops al.length)).getD i [] -> listed.getD k true = true := by
     intro k hk
     rcases clo_mem hk with h1 | ⟨j, h1, h2, h3⟩
     ·exact hahead0 k h1
     ·exact clo_listed (L := fun k => listed.getD k true = true) hh.closed (j + 1) j (by omega) (ordOf_mem h1).1 (hahead0 j h1) _ h3
    have hsee : ∀ t ∈ ao.looks, seen ops al.length listed t := by
     intro t ht k hk hkd
     have ha := ho.head i ao him hao t ht k hk hkd
     unfold ahead at ha
     rw [hoi] at ha
     simp only [Array.any_eq_true'] at ha
     obtain ⟨e, he, hb⟩ := ha
     simp only [Bool.and_eq_true, beq_iff_eq] at hb
     have := hdeps e he (binds_any hb.1)
     rw [hb.2, getD_any (by omega) false true] at this
     exact this
    have hlook : ∀ t ∈ ao.looks, get (filt (seen ops al.length listed) F) t = get F t := fun t ht => by rw [get_filt, if_pos (hsee t ht)]
    have hst : St σ hj (filt (seen ops al.length listed) F) N a := ⟨hinv, hh.env, hh.size, hh.defers⟩
    have hcount : (listed.setIfInBounds i true).toList.count false <= f := by
     have hget' : listed.toList[i]'(by simp; omega) = false := by
      have : listed[i]? = some listed[i] := Array.getElem?_eq_getElem (by omega)
      simp only [Array.getD_eq_getD_getElem?, this, Option.getD_some] at hun
      simpa using hun
     have := List.count_set (a := true) (b := false) (l := listed.toList) (i := i) (by simp; omega)
     simp only [Array.toList_setIfInBounds]
     rw [this, hget']
     have hp : 0 < listed.toList.count false := List.count_pos_iff.2 (by rw [List.mem_iff_getElem]; exact ⟨i, by simp; omega, hget'⟩)
     show listed.toList.count false - 1 + 0 <= f
     omega
    have hnext : ∀ (a' : Act) (σ' : Sg) (j' : Nat), Le σ σ' -> HalfN ops al.length F h az hs fl j' N (listed.setIfInBounds i true) σ' a' -> wpAny P md ops Q f (listed.setIfInBounds i true) a' σ'.w := by
     intro a' σ' j' hl' hh'
     refine ih _ a' σ' j' (by simp [hsz]) (fun k hk1 hk2 => ?_) (hle.trans hl') hh' hcount
     rw [getD_set (by omega), if_neg (by omega)]
     exact htail k hk1 hk2
    have hseen' : ∀ t, seen ops al.length (listed.setIfInBounds i true) t -> (ops[i]?).bind (·.dst) ≠ some t -> seen ops al.length listed t := by
     intro t ht hne k hk hkd
     have := ht k hk hkd
     rw [getD_set (by omega)] at this
     by_cases hik : i = k
     ·subst hik; exact absurd hkd hne
     ·rwa [if_neg hik] at this
    have hbind : (ops[i]?).bind (·.dst) = o.dst := by rw [hoi]; rfl
    have hclosed : ∀ k l : Nat, k < al.length -> (listed.setIfInBounds i true).getD k true = true -> l ∈ (ordOf ops al.length).getD k [] -> (listed.setIfInBounds i true).getD l true = true := by
     intro k l hk hkl hl
     rw [getD_set (by omega)]
     by_cases hil : i = l
     ·rw [if_pos hil]
     ·rw [if_neg hil]
      by_cases hik : i = k
      ·subst hik; exact hahead0 l hl
      ·rw [getD_set (by omega), if_neg hik] at hkl
       exact hh.closed k l hk hkl hl
    have quietNums : fl[i]? = some none -> ∀ k n : Nat, fl[k]? = some (some n) -> ((listed.setIfInBounds i true).getD k true = true ↔ n < j) := by
     intro hnone k n hk
     have hik : i ≠ k := by rintro rfl; rw [hnone] at hk; cases hk
     rw [getD_set (by omega), if_neg hik]
     exact hh.nums k n hk
    have cong : ∀ K : AV -> AHeap -> Prop, aop P ao.op F hj K -> aop P ao.op (filt (seen ops al.length listed) F) hj K := by
     intro K hk
     rw [aop_congr (e1 := filt (seen ops al.length listed) F) (e2 := F)]
     ·exact hk
     ·intro x hx
      cases x with
      | c a => rfl
      | t n =>
       refine hlook n ?_
       simp only [AOper.looks, List.mem_append, List.mem_filterMap]
       exact .inl ⟨.t n, hx, rfl⟩
    have envOK : ∀ (σ' : Sg) (a' : Act) (av : AV), EnvRel σ' (putE (filt (seen ops al.length listed) F) o.dst av) a'.tmps -> (∀ d, ao.dst = some d -> get F d = some av) -> EnvRel σ' (filt (seen ops al.length (listed.setIfInBounds i true)) F) a'.tmps := by
     intro σ' a' av he hfd t bv hg
     rw [get_filt] at hg
     split at hg
     ·rename_i hs
      by_cases hdt : o.dst = some t
      ·have := hfd t (by rw [hdst]; exact hdt)
       rw [this] at hg; cases hg
       exact he t av (by rw [get_putE, if_pos hdt])
      ·exact he t bv (by rw [get_putE, if_neg hdt, get_filt, if_pos (hseen' t hs (by rw [hbind]; exact hdt))]; exact hg)
     ·cases hg
    by_cases hisA : ∃ (q : Nat) (p : Nat × List AV), az[q]? = some p /\ p.1 = i
    ·obtain ⟨q, p, hqp, hpi⟩ := hisA
     obtain ⟨o', ho1, ho2, ho3, ho4, ho5⟩ := hF.new q p hqp
     subst hpi
     rw [hao] at ho1; cases ho1
     have hj0 : j = 0 := by
      by_cases hz : j = 0
      ·exact hz
      ·have := hnew (by omega) p (List.mem_of_getElem? hqp)
       rw [hun] at this; cases this
     subst hj0
     have hjs' : hj = hA h az fun k => listed.getD k true := (Option.some.inj hjs).symm
     have hslot : hj.blks[h.blks.length + q]? = some none := by
      rw [hjs']
      simp only [hA]
      rw [List.getElem?_append_right (by omega), Nat.add_sub_cancel_left, List.getElem?_map, hqp]
      simp only [Option.map_some, hun, Bool.false_eq_true, if_false]
     have heq : (⟨hj.blks.set (h.blks.length + q) (some p.2), hj.bufs, hj.globs⟩ : AHeap) = hA h az fun k => (listed.setIfInBounds p.1 true).getD k true := by
      rw [hjs']
      simp only [hA]
      congr 1
      rw [List.set_append_right _ _ (by omega), Nat.add_sub_cancel_left]
      congr 1
      apply List.ext_getElem?
      intro r
      by_cases hrq : q = r
      ·subst hrq
       have hl : q < az.length := (List.getElem?_eq_some_iff.1 hqp).1
       rw [List.getElem?_set_self (by simpa using hl), List.getElem?_map, hqp]
       simp only [Option.map_some]
       have := getD_set (listed := listed) (i := p.1) (j := p.1) (d := true) (by omega)
       rw [if_pos rfl] at this
       simp only [this, if_true]
      ·rw [List.getElem?_set_ne hrq, List.getElem?_map, List.getElem?_map]
       cases hr : az[r]? with
       | none => rfl
       | some s =>
        have := getD_set (listed := listed) (i := p.1) (j := s.1) (d := true) (by omega)
        rw [if_neg (fun e => hrq (hF.inj q r p s hqp hr e))] at this
        simp only [Option.map_some, this]
     unfold wpOp
     rw [hoi]
     simp only
     have hw : Region.wanted o (yielded ops a.tmps) = true := by
      rcases hguard with ⟨hg1, _⟩ | ⟨_, _, _, _, hg2, _⟩
      ·simp [Region.wanted, hg1]
      ·rw [ho3] at hg2; cases hg2
     rw [if_pos hw]
     refine .inl (Oper.wp_mono (fun a' w' hb => ?_) (alloc_wp (getD_ne (ho2 ▸ hop) (by simp)) hst hd hslot Q))
     obtain ⟨σ', rfl, l1, s1⟩ := hb
     exact hnext a' σ' 0 l1 ⟨⟨_, rfl, by rw [← heq]; exact s1.inv⟩, envOK σ' a' _ s1.env ho5, s1.size, s1.defers, quietNums ho4, hclosed⟩
    have hni : ∀ p ∈ az, p.1 ≠ i := by
     intro p hp hpi
     obtain ⟨q, hq⟩ := List.mem_iff_getElem?.1 hp
     exact hisA ⟨q, p, hq, hpi⟩
    have hfact := hfact.resolve_left hisA
    have does : DoesN P F h az hs (clo (ordOf ops al.length)) fl i ao fn -> Oper.wp P o a σ.w (wpAny P md ops Q f (listed.setIfInBounds i true)) Q := by
     intro hdo
     cases fn with
     | none =>
      obtain ⟨av, j0, j1, hj0, hqa, hlo, hhi, hfd⟩ := hdo
      have h0 : j0 <= j := by
       by_cases hlt : j0 <= j
       ·exact hlt
       ·exfalso
        have hb : j + 1 < hs.length := by omega
        obtain ⟨k, hk⟩ := hF.onto j hb
        have := hahead k (hlo k j hk (by omega))
        have := (hh.nums k j hk).1 this
        omega
      have h1 : j <= j1 := by
       rcases hhi with hhi | ⟨k, hk, hik⟩
       ·omega
       ·by_cases hlt : j <= j1
        ·exact hlt
        ·exfalso
         have hkl := (hh.nums k j1 hk).2 (by omega)
         have hkm : k < al.length := by rw [← hF.len]; exact (List.getElem?_eq_some_iff.1 hk).1
         have := clo_listed (L := fun k => listed.getD k true = true) hh.closed (k + 1) k (by omega) hkm hkl _ hik
         rw [hun] at this; cases this
      have hqa' := cong _ (hqa j _ hj h0 h1 hjs)
      refine Oper.wp_mono (fun a' w' hb => ?_) (aop_wp' hop hst hd hqa' Q)
      obtain ⟨σ', h', av', rfl, l1, s1, rfl, rfl⟩ := hb
      exact hnext a' σ' j l1 ⟨⟨_, by rw [hcur i hni]; exact hjs, s1.inv⟩, envOK σ' a' av' s1.env hfd, s1.size, s1.defers, quietNums hfn, hclosed⟩
     | some n =>
      obtain ⟨av, h1, h2, e1, e2, hqa, hfd⟩ := hdo
      have hnj : ¬ n < j := fun hlt => by
       have := (hh.nums i n hfn).2 hlt
       rw [hun] at this; cases this
      have hnj2 : n = j := by
       by_cases he : n = j
       ·exact he
       ·exfalso
        have hb : j + 1 < hs.length := by have := (List.getElem?_eq_some_iff.1 e2).1; omega
        obtain ⟨k, hk⟩ := hF.onto j hb
        have hki : k ≠ i := by rintro rfl; rw [hfn] at hk; cases hk; exact he rfl
        rcases Nat.lt_or_ge k i with hlt | hge
        ·have := hahead k (hF.chain k i j n hlt hk hfn).2
         have := (hh.nums k j hk).1 this
         omega
        ·have := (hF.chain i k n j (by omega) hfn hk).1
         omega
      subst hnj2
      have hjs' : hs[n]? = some hj := by
       cases n with
       | succ n => exact hjs
       | zero =>
        rw [hF.first, ← hjs]
        show some _ = some _
        congr 1
        unfold hA
        congr 2
        apply List.map_congr_left
        intro p hp
        simp only [hahead p.1 (hF.afirst i 0 hfn p hp)]
      rw [hjs'] at e1; cases e1
      have hqa' := cong _ hqa
      refine Oper.wp_mono (fun a' w' hb => ?_) (aop_wp' hop hst hd hqa' Q)
      obtain ⟨σ', h', av', rfl, l1, s1, rfl, rfl⟩ := hb
      refine hnext a' σ' (n + 1) l1 ⟨⟨_, e2, s1.inv⟩, envOK σ' a' av' s1.env hfd, s1.size, s1.defers, ?_, hclosed⟩
      intro k n' hk
      rw [getD_set (by omega)]
      by_cases hik : i = k
      ·subst hik
       rw [hfn] at hk; cases hk
       rw [if_pos rfl]; simp
      ·rw [if_neg hik, hh.nums k n' hk]
       have hne : n' ≠ n := by
        rintro rfl
        rcases Nat.lt_or_ge i k with hlt | hge
        ·have := (hF.chain i k n' n' hlt hfn hk).1; omega
        ·have := (hF.chain k i n' n' (Nat.lt_of_le_of_ne hge (fun e => hik e.symm)) hk hfn).1; exact absurd this (Nat.lt_irrefl _)
       omega
    unfold wpOp
    rw [hoi]
    simp only
    have skip : (fn = none /\ ∀ d, ao.dst = some d -> get F d = some (.tuple [])) -> wpAny P md ops Q f (listed.setIfInBounds i true) (a.put o.dst undef) σ.w := by
     rintro ⟨rfl, hno⟩
     have s1 := hst.skipped o.dst hd
     refine hnext _ σ j (Le.refl σ) ⟨⟨_, by rw [hcur i hni]; exact hjs, s1.inv⟩, ?_, s1.size, s1.defers, quietNums hfn, hclosed⟩
     intro u bv hg
     rw [get_filt] at hg
     split at hg
     ·rename_i hs
      by_cases hdt : o.dst = some u
      ·have := hno u (by rw [hdst]; exact hdt)
       rw [this] at hg; cases hg
       exact s1.env u _ (by rw [get_dropE, if_pos hdt])
      ·exact s1.env u bv (by rw [get_dropE, if_neg hdt, get_filt, if_pos (hseen' u hs (by rw [hbind]; exact hdt))]; exact hg)
     ·cases hg
    unfold FactN at hfact
    rcases hguard with ⟨hg1, hg2⟩ | ⟨jg, b, t, hg1, hg2, hg3⟩
    ·have hw : Region.wanted o (yielded ops a.tmps) = true := by simp [Region.wanted, hg1]
     rw [if_pos hw]
     rw [hg2] at hfact
     exact .inl (does hfact)
    ·rw [hg2] at hfact
     rcases hfact with ⟨c, hgt, hyes, hno⟩ | ⟨hgt, hno⟩
     ·have hy : yielded ops a.tmps jg = some c := yielded_of (env := filt (seen ops al.length listed) F) hg3 hh.env (by rw [hlook t (by simp [AOper.looks, hg2])]; exact hgt)
      by_cases hcb : c = b
      ·have hw : Region.wanted o (yielded ops a.tmps) = true := by simp [Region.wanted, hg1, hy, hcb]
       rw [if_pos hw]
       exact .inl (does (hyes hcb))
      ·have hw : Region.wanted o (yielded ops a.tmps) = false := by simp [Region.wanted, hg1, hy, hcb]
       rw [hw]
       simp only [Bool.false_eq_true, if_false]
       exact skip (hno hcb)
     ·have hy : yielded ops a.tmps jg = none := yielded_none (env := filt (seen ops al.length listed) F) hg3 hh.env (by rw [hlook t (by simp [AOper.looks, hg2])]; exact hgt)
      have hw : Region.wanted o (yielded ops a.tmps) = false := by simp [Region.wanted, hg1, hy]
      rw [hw]
      simp only [Bool.false_eq_true, if_false]
      exact skip hno
theorem drawn_soundN {id : Nat} {ops : Array Oper} {al tl : List AOper} (hq : compOps P N ops (ops.toList.take al.length) = some al) (ht : compOps P N ops (ops.toList.drop al.length) = some tl) (hok : drawOK ops al = true)
  {Q : Exit -> Env -> AHeap -> Prop} (hs : St σ h env N a) {F : Env} {h' : AHeap} {az : List (Nat × List AV)} {hl : List AHeap} {fl : List (Option Nat)} (hn : Noise P (clo (ordOf ops al.length)) al env F h h' az hl fl) (hv : vops P tl F h' fun env' h' => Q .normal env' h') : (Code.region id ops true).wp P (Lifted σ N Q) a σ.w := by
 simp only [drawOK, Bool.and_eq_true, decide_eq_true_eq] at hok
 obtain ⟨⟨⟨h1, h2⟩, h3⟩, h4⟩ := hok
 have ho := order_of h1
 have hd : Past σ.w { σ.w with drawn := σ.w.drawn + 1 } := ⟨Nat.le_refl _, fun _ _ => rfl, rfl, rfl, rfl⟩
 let σ1 : Sg := { σ with w := { σ.w with drawn := σ.w.drawn + 1 } }
 have hle1 : Le σ σ1 := Le.world hd
 have hi1 : Inv h σ1 := hs.inv.world hd
 obtain ⟨hlen, hget⟩ := compOps_get hq
 have hrep : ∀ i, i < ops.size -> (Array.replicate ops.size false).getD i true = false := fun i hi => by simp [Array.getD_eq_getD_getElem?, Array.getElem?_replicate, hi]
 have every : ∀ md : Region.Mode, wpAny P md ops (Lifted σ N Q) ops.size (Array.replicate ops.size false) a { σ.w with drawn := σ.w.drawn + 1 } := by
  intro md
  refine head_anyN (σ₀ := σ1) hq h3 ho hn ?_ ops.size _ a σ1 0 (by simp) (fun i _ hi => hrep i hi) (Le.refl _) ?_ ?_
  ·intro σ2 a2 l2 s2
   have hlen2 : (ops.toList.drop al.length).length = ops.size - al.length := by simp
   rw [← hlen2]
   refine vops_sound (σ₀ := σ1) (K := fun env' h' => Q .normal env' h') (fun σ3 h3 env3 a3 l3 s3 q3 => ⟨trivial, σ3, h3, env3, rfl, hle1.trans l3, s3, q3⟩) _ _ tl σ2 h' F a2 (fun j hj => ?_) ht l2 s2 hv
   rw [List.getElem?_drop, Array.getElem?_toList]
  ·refine ⟨⟨_, rfl, ?_⟩, ?_, hs.size, hs.defers, ?_, ?_⟩
   ·have : hA h az (fun k => (Array.replicate ops.size false).getD k true) = ⟨h.blks ++ List.replicate az.length none, h.bufs, h.globs⟩ := by
     unfold hA
     congr 2
     apply List.ext_getElem?
     intro q
     rw [List.getElem?_map, List.getElem?_replicate]
     cases hq : az[q]? with
     | none =>
      have : az.length <= q := List.getElem?_eq_none_iff.1 hq
      rw [if_neg (by omega)]; rfl
     | some p =>
      have hql : q < az.length := (List.getElem?_eq_some_iff.1 hq).1
      obtain ⟨o, ho1, _⟩ := hn.new q p hq
      have hil : p.1 < al.length := (List.getElem?_eq_some_iff.1 ho1).1
      rw [if_pos hql]
      simp only [Option.map_some, hrep p.1 (show p.1 < ops.size by omega)]
      rfl
    rw [this]
    exact reserve_ok hi1 az.length
   ·intro t av hg
    rw [get_filt] at hg
    split at hg
    ·rename_i hsn
     have hw : writes t al = false := by
      cases hwb : writes t al with
      | false => rfl
      | true =>
       exfalso
       unfold writes at hwb
       rw [List.any_eq_true] at hwb
       obtain ⟨o, hmem, hod⟩ := hwb
       obtain ⟨i, hi⟩ := List.mem_iff_getElem?.1 hmem
       have hil : i < al.length := (List.getElem?_eq_some_iff.1 hi).1
       have hops : ops[i]? = some ops[i] := Array.getElem?_eq_getElem (by omega)
       obtain ⟨ao, hao, hco⟩ := hget i ops[i] (by rw [List.getElem?_take, if_pos hil]; simpa using hops)
       rw [hi] at hao; cases hao
       have := (compOper_some hco).2.2.1
       have hf := hsn i hil (by rw [hops]; simp only [Option.bind_some]; rw [← this]; simpa using hod)
       rw [hrep i (by omega)] at hf; cases hf
     rw [hn.keep t hw] at hg
     obtain ⟨x, q1, q2⟩ := hs.env t av hg
     exact ⟨x, q1, q2.mono hle1⟩
    ·cases hg
   ·intro i n hi
    have hil : i < al.length := by rw [← hn.len]; exact (List.getElem?_eq_some_iff.1 hi).1
    rw [hrep i (by omega)]
    simp
   ·intro k i hil hkl
    rw [hrep k (by omega)] at hkl; cases hkl
  ·simp
 refine wp_region_draw fun t => ?_
 unfold Region.schedule
 split
 ·exact wpAny_sound ops.size t _ a _ (every .any)
 ·exact wpAny_sound ops.size (t / 2) _ a _ (every _)
end
def headLen (ops : Array Oper) : Nat := ((List.range (ops.size + 1)).find? fun m => (List.range ops.size).all fun i => decide (i < m) || ((List.range i).all fun j => ahead ops i j) || (decide (m < i) && ahead ops i (i - 1)) || (decide (i = m) && aheadAll ops m)).getD ops.size
def compCode (P : Program) (N : Nat) : Code -> Option ACode
 | .skip => some .skip
 | .region _ ops false => (compOps P N ops ops.toList).map .region
 | .region _ ops true => (compOps P N ops (ops.toList.take (headLen ops))).bind fun al => (compOps P N ops (ops.toList.drop (headLen ops))).bind fun tl =>
  if drawOK ops al = true /\ al.length = headLen ops then some (.drawn (ordOf ops al.length) al tl) else if lateOK ops al = true /\ al.length = headLen ops then some (.late (ordOf ops al.length) al tl) else none
 | .seq a b => (compCode P N a).bind fun a => (compCode P N b).map fun b => .seq a b
 | .cond c a b => (cOpd c).bind fun c => (compCode P N a).bind fun a => (compCode P N b).map fun b => .cond c a b
 | .block id a => (compCode P N a).map fun a => .block id a
 | .loop a => (compCode P N a).map fun a => .loop a
 | .exit id => some (.exit id)
 | .ret => some .ret
 | .scope a => (compCode P N a).map .scope
 | .label l => some (.label l)
 | .goto l => some (.goto l)
 | _ => none
def asem (P : Program) (N : Nat) (ac : ACode) (Q : Exit -> Env -> AHeap -> Prop) (env : Env) (h : AHeap) : Prop :=
 ∀ c, compCode P N c = some ac -> ∀ (σ : Sg) (a : Act), St σ h env N a -> c.wp P (Lifted σ N Q) a σ.w
def thenA (K : Env -> AHeap -> Prop) (Q : Exit -> Env -> AHeap -> Prop) : Exit -> Env -> AHeap -> Prop
 | .normal, env, h => K env h
 | e, env, h => Q e env h
def inBlockA (id : Nat) (Q : Exit -> Env -> AHeap -> Prop) : Exit -> Env -> AHeap -> Prop
 | .exit i, env, h => if i = id then Q .normal env h else Q (.exit i) env h
 | e, env, h => Q e env h
def EnvLe : Env -> Env -> Prop
 | [], _ => True
 | (t, av) :: e, env => get env t = some av /\ EnvLe e env
theorem EnvLe.get {env : Env} : ∀ {e : Env}, EnvLe e env -> ∀ t av, Lift.get e t = some av -> Lift.get env t = some av
 | [], _, t, av, h => by simp [Lift.get] at h
 | (u, b) :: e, h, t, av, hg => by
  simp only [Lift.get] at hg
  split at hg
  ·rename_i hu; subst hu; cases hg; exact h.1
  ·exact EnvLe.get h.2 t av hg
section
variable {P : Program} {N : Nat} {Q : Exit -> Env -> AHeap -> Prop} {env : Env} {h : AHeap}
theorem Lifted.up {σ σ' : Sg} (hl : Le σ σ') {e : Exit} {a : Act} {w : World} (hh : Lifted σ' N Q e a w) : Lifted σ N Q e a w := by
 obtain ⟨h1, σ2, h2, env2, q1, q2, q3, q4⟩ := hh
 exact ⟨h1, σ2, h2, env2, q1, hl.trans q2, q3, q4⟩
theorem asem_skip (hq : Q .normal env h) : asem P N .skip Q env h := by
 intro c hc σ a hs
 cases c <;> (try simp only [compCode, Option.bind_eq_some_iff, Option.map_eq_some_iff] at hc)
 case skip => exact wp_skip ⟨trivial, σ, h, env, rfl, Le.refl σ, hs, hq⟩
 case region id ops d =>
  cases d <;> simp only [compCode, Option.bind_eq_some_iff, Option.map_eq_some_iff] at hc
  ·obtain ⟨_, _, hx⟩ := hc; cases hx
  ·obtain ⟨_, _, _, _, hx⟩ := hc; (repeat' split at hx) <;> cases hx
 all_goals first
  | (cases hc; done)
  | (obtain ⟨_, _, hx⟩ := hc; cases hx; done)
  | (obtain ⟨_, _, _, _, hx⟩ := hc; cases hx; done)
  | (obtain ⟨_, _, _, _, _, _, hx⟩ := hc; cases hx; done)
theorem asem_exit {id : Nat} (hq : Q (.exit id) env h) : asem P N (.exit id) Q env h := by
 intro c hc σ a hs
 cases c <;> (try simp only [compCode, Option.bind_eq_some_iff, Option.map_eq_some_iff] at hc)
 case exit => cases hc; exact wp_exit ⟨trivial, σ, h, env, rfl, Le.refl σ, hs, hq⟩
 case region id ops d =>
  cases d <;> simp only [compCode, Option.bind_eq_some_iff, Option.map_eq_some_iff] at hc
  ·obtain ⟨_, _, hx⟩ := hc; cases hx
  ·obtain ⟨_, _, _, _, hx⟩ := hc; (repeat' split at hx) <;> cases hx
 all_goals first
  | (cases hc; done)
  | (obtain ⟨_, _, hx⟩ := hc; cases hx; done)
  | (obtain ⟨_, _, _, _, hx⟩ := hc; cases hx; done)
  | (obtain ⟨_, _, _, _, _, _, hx⟩ := hc; cases hx; done)
theorem asem_ret (hq : Q .ret env h) : asem P N .ret Q env h := by
 intro c hc σ a hs
 cases c <;> (try simp only [compCode, Option.bind_eq_some_iff, Option.map_eq_some_iff] at hc)
 case ret => exact wp_ret ⟨trivial, σ, h, env, rfl, Le.refl σ, hs, hq⟩
 case region id ops d =>
  cases d <;> simp only [compCode, Option.bind_eq_some_iff, Option.map_eq_some_iff] at hc
  ·obtain ⟨_, _, hx⟩ := hc; cases hx
  ·obtain ⟨_, _, _, _, hx⟩ := hc; (repeat' split at hx) <;> cases hx
 all_goals first
  | (cases hc; done)
  | (obtain ⟨_, _, hx⟩ := hc; cases hx; done)
  | (obtain ⟨_, _, _, _, hx⟩ := hc; cases hx; done)
  | (obtain ⟨_, _, _, _, _, _, hx⟩ := hc; cases hx; done)
theorem asem_region {ops : List AOper} (hv : vops P ops env h (fun env' h' => Q .normal env' h')) : asem P N (.region ops) Q env h := by
 intro c hc σ a hs
 cases c <;> (try simp only [compCode, Option.bind_eq_some_iff, Option.map_eq_some_iff] at hc)
 case region id ops' d =>
  cases d <;> simp only [compCode, Option.bind_eq_some_iff, Option.map_eq_some_iff] at hc
  ·obtain ⟨al, hal, hx⟩ := hc
   cases hx
   refine wp_region ?_
   have := vops_sound (Q := Lifted σ N Q) (σ₀ := σ) (K := fun env' h' => Q .normal env' h') (fun σ3 h3 env3 a3 l3 s3 q3 => ⟨trivial, σ3, h3, env3, rfl, l3, s3, q3⟩) ops'.toList 0 ops σ h env a (fun j hj => by simp) hal (Le.refl σ) hs hv
   rw [List.range_eq_range']
   simpa using this
  ·obtain ⟨_, _, _, _, hx⟩ := hc; (repeat' split at hx) <;> cases hx
 all_goals first
  | (cases hc; done)
  | (obtain ⟨_, _, hx⟩ := hc; cases hx; done)
  | (obtain ⟨_, _, _, _, hx⟩ := hc; cases hx; done)
  | (obtain ⟨_, _, _, _, _, _, hx⟩ := hc; cases hx; done)
theorem asem_drawn {ord : List (List Nat)} {al tl : List AOper} (hv : vq P al env h fun F => vops P tl F h fun env' h' => Q .normal env' h') : asem P N (.drawn ord al tl) Q env h := by
 intro c hc σ a hs
 cases c <;> (try simp only [compCode, Option.bind_eq_some_iff, Option.map_eq_some_iff] at hc)
 case region id ops' d =>
  cases d <;> simp only [compCode, Option.bind_eq_some_iff, Option.map_eq_some_iff] at hc
  ·obtain ⟨_, _, hx⟩ := hc; cases hx
  ·obtain ⟨al', hal, tl', htl, hx⟩ := hc
   split at hx
   ·rename_i hcond
    cases hx
    obtain ⟨c2, c3⟩ := hcond
    rw [← c3] at hal htl
    exact drawn_sound hal htl c2 hs hv
   ·split at hx <;> cases hx
 all_goals first
  | (cases hc; done)
  | (obtain ⟨_, _, hx⟩ := hc; cases hx; done)
  | (obtain ⟨_, _, _, _, hx⟩ := hc; cases hx; done)
  | (obtain ⟨_, _, _, _, _, _, hx⟩ := hc; cases hx; done)
theorem asem_drawnC {ord : List (List Nat)} {al tl : List AOper} {F : Env} {h' : AHeap} {az : List (Nat × List AV)} {hl : List AHeap} {fl : List (Option Nat)} (hn : Noise P (clo ord) al env F h h' az hl fl) (hv : vops P tl F h' fun env' h' => Q .normal env' h') : asem P N (.drawn ord al tl) Q env h := by
 intro c hc σ a hs
 cases c <;> (try simp only [compCode, Option.bind_eq_some_iff, Option.map_eq_some_iff] at hc)
 case region id ops' d =>
  cases d <;> simp only [compCode, Option.bind_eq_some_iff, Option.map_eq_some_iff] at hc
  ·obtain ⟨_, _, hx⟩ := hc; cases hx
  ·obtain ⟨al', hal, tl', htl, hx⟩ := hc
   split at hx
   ·rename_i hcond
    cases hx
    obtain ⟨c2, c3⟩ := hcond
    rw [← c3] at hal htl
    exact drawn_soundN hal htl c2 hs hn hv
   ·split at hx <;> cases hx
 all_goals first
  | (cases hc; done)
  | (obtain ⟨_, _, hx⟩ := hc; cases hx; done)
  | (obtain ⟨_, _, _, _, hx⟩ := hc; cases hx; done)
  | (obtain ⟨_, _, _, _, _, _, hx⟩ := hc; cases hx; done)
theorem asem_seq {x y : ACode} (hx : asem P N x (thenA (asem P N y Q) Q) env h) : asem P N (.seq x y) Q env h := by
 intro c hc σ a hs
 cases c <;> (try simp only [compCode, Option.bind_eq_some_iff, Option.map_eq_some_iff] at hc)
 case seq cx cy =>
  obtain ⟨x', hx', y', hy', he⟩ := hc
  cases he
  refine wp_seq (wp_mono (hx cx hx' σ a hs) ?_)
  intro e a' w' hh
  obtain ⟨h1, σ2, h2, env2, rfl, q2, q3, q4⟩ := hh
  cases e with
  | normal => exact wp_mono (q4 cy hy' σ2 a' q3) fun e a w hh => hh.up q2
  | panic _ => exact h1.elim
  | outgrown => exact h1.elim
  | exit _ => exact ⟨trivial, σ2, h2, env2, rfl, q2, q3, q4⟩
  | goto _ => exact ⟨trivial, σ2, h2, env2, rfl, q2, q3, q4⟩
  | ret => exact ⟨trivial, σ2, h2, env2, rfl, q2, q3, q4⟩
 case region id ops d =>
  cases d <;> simp only [compCode, Option.bind_eq_some_iff, Option.map_eq_some_iff] at hc
  ·obtain ⟨_, _, hx⟩ := hc; cases hx
  ·obtain ⟨_, _, _, _, hx⟩ := hc; (repeat' split at hx) <;> cases hx
 all_goals first
  | (cases hc; done)
  | (obtain ⟨_, _, hx⟩ := hc; cases hx; done)
  | (obtain ⟨_, _, _, _, hx⟩ := hc; cases hx; done)
  | (obtain ⟨_, _, _, _, _, _, hx⟩ := hc; cases hx; done)
theorem asem_cond {c : AOpd} {x y : ACode} (hv : wv (c.ev env) fun v => match v with
  | .v (.bool b) => (b = true -> asem P N x Q env h) /\ (b = false -> asem P N y Q env h)
  | _ => False) : asem P N (.cond c x y) Q env h := by
 intro cc hc σ a hs
 cases cc <;> (try simp only [compCode, Option.bind_eq_some_iff, Option.map_eq_some_iff] at hc)
 case cond co cx cy =>
  obtain ⟨c', hc', x', hx', y', hy', he⟩ := hc
  cases he
  obtain ⟨av, hr, hk⟩ := opd hs.env hc' hv
  generalize hce : a.eval co = ce at hr
  split at hk
  ·rename_i b
   cases hr with
   | v _ _ =>
   cases b with
   | true => exact wp_cond_true hce (hk.1 rfl cx hx' σ a hs)
   | false => exact wp_cond_false hce (hk.2 rfl cy hy' σ a hs)
  ·exact hk.elim
 case region id ops d =>
  cases d <;> simp only [compCode, Option.bind_eq_some_iff, Option.map_eq_some_iff] at hc
  ·obtain ⟨_, _, hx⟩ := hc; cases hx
  ·obtain ⟨_, _, _, _, hx⟩ := hc; (repeat' split at hx) <;> cases hx
 all_goals first
  | (cases hc; done)
  | (obtain ⟨_, _, hx⟩ := hc; cases hx; done)
  | (obtain ⟨_, _, _, _, hx⟩ := hc; cases hx; done)
  | (obtain ⟨_, _, _, _, _, _, hx⟩ := hc; cases hx; done)
theorem asem_block {id : Nat} {x : ACode} (hx : asem P N x (inBlockA id Q) env h) : asem P N (.block id x) Q env h := by
 intro c hc σ a hs
 cases c <;> (try simp only [compCode, Option.bind_eq_some_iff, Option.map_eq_some_iff] at hc)
 case block i cx =>
  obtain ⟨x', hx', he⟩ := hc
  cases he
  refine wp_block (wp_mono (hx cx hx' σ a hs) ?_)
  intro e a' w' hh
  obtain ⟨h1, σ2, h2, env2, rfl, q2, q3, q4⟩ := hh
  cases e with
  | panic _ => exact h1.elim
  | outgrown => exact h1.elim
  | normal => exact ⟨trivial, σ2, h2, env2, rfl, q2, q3, q4⟩
  | goto _ => exact ⟨trivial, σ2, h2, env2, rfl, q2, q3, q4⟩
  | ret => exact ⟨trivial, σ2, h2, env2, rfl, q2, q3, q4⟩
  | exit i =>
   simp only [inBlockA] at q4
   simp only [Exit.inBlock]
   split
   ·rename_i hi; rw [if_pos hi] at q4; exact ⟨trivial, σ2, h2, env2, rfl, q2, q3, q4⟩
   ·rename_i hi; rw [if_neg hi] at q4; exact ⟨trivial, σ2, h2, env2, rfl, q2, q3, q4⟩
 case region id ops d =>
  cases d <;> simp only [compCode, Option.bind_eq_some_iff, Option.map_eq_some_iff] at hc
  ·obtain ⟨_, _, hx⟩ := hc; cases hx
  ·obtain ⟨_, _, _, _, hx⟩ := hc; (repeat' split at hx) <;> cases hx
 all_goals first
  | (cases hc; done)
  | (obtain ⟨_, _, hx⟩ := hc; cases hx; done)
  | (obtain ⟨_, _, _, _, hx⟩ := hc; cases hx; done)
  | (obtain ⟨_, _, _, _, _, _, hx⟩ := hc; cases hx; done)
theorem asem_loop {x : ACode} (I : Nat -> Env -> AHeap -> Prop) (n₀ : Nat) (e₀ : Env) (h₀ : EnvLe e₀ env /\ I n₀ e₀ h)
  (round : ∀ n e h, I n e h -> asem P N x (thenA (fun env' h' => ∃ n' e', n' < n /\ EnvLe e' env' /\ I n' e' h') Q) e h) : asem P N (.loop x) Q env h := by
 intro c hc σ a hs
 cases c <;> (try simp only [compCode, Option.bind_eq_some_iff, Option.map_eq_some_iff] at hc)
 case loop cx =>
  obtain ⟨x', hx', he⟩ := hc
  cases he
  refine wp_loop_ghost (fun n a w => ∃ σ' e h', σ'.w = w /\ Le σ σ' /\ St σ' h' e N a /\ I n e h') n₀ ⟨σ, e₀, h, rfl, Le.refl σ, ⟨hs.inv, fun t av hg => hs.env t av (h₀.1.get t av hg), hs.size, hs.defers⟩, h₀.2⟩ ?_
  rintro n a w ⟨σ', e, h', rfl, l1, s1, hI⟩
  refine wp_mono (round n e h' hI cx hx' σ' a s1) ?_
  intro ex a' w' hh
  obtain ⟨h1, σ2, h2, env2, rfl, q2, q3, q4⟩ := hh
  cases ex with
  | panic _ => exact h1.elim
  | outgrown => exact h1.elim
  | normal =>
   obtain ⟨n', e', hn, hel, hI'⟩ := q4
   exact ⟨n', hn, σ2, e', h2, rfl, l1.trans q2, ⟨q3.inv, fun t av hg => q3.env t av (hel.get t av hg), q3.size, q3.defers⟩, hI'⟩
  | goto _ => exact ⟨trivial, σ2, h2, env2, rfl, l1.trans q2, q3, q4⟩
  | ret => exact ⟨trivial, σ2, h2, env2, rfl, l1.trans q2, q3, q4⟩
  | exit i => exact ⟨trivial, σ2, h2, env2, rfl, l1.trans q2, q3, q4⟩
 case region id ops d =>
  cases d <;> simp only [compCode, Option.bind_eq_some_iff, Option.map_eq_some_iff] at hc
  ·obtain ⟨_, _, hx⟩ := hc; cases hx
  ·obtain ⟨_, _, _, _, hx⟩ := hc; (repeat' split at hx) <;> cases hx
 all_goals first
  | (cases hc; done)
  | (obtain ⟨_, _, hx⟩ := hc; cases hx; done)
  | (obtain ⟨_, _, _, _, hx⟩ := hc; cases hx; done)
  | (obtain ⟨_, _, _, _, _, _, hx⟩ := hc; cases hx; done)
theorem asem_mono {x : ACode} {Q' : Exit -> Env -> AHeap -> Prop} (hx : asem P N x Q env h) (hq : ∀ e env h, Q e env h -> Q' e env h) : asem P N x Q' env h := by
 intro c hc σ a hs
 refine wp_mono (hx c hc σ a hs) ?_
 rintro e a' w' ⟨h1, σ2, h2, env2, q1, q2, q3, q4⟩
 exact ⟨h1, σ2, h2, env2, q1, q2, q3, hq _ _ _ q4⟩
end
theorem wp_scope_ghost {P : Program} {a : Act} {w : World} {Q : Exit -> Act -> World -> Prop} {c rest : Code} (l : Nat) (J : Nat -> Act -> World -> Prop) (hf : findLabel c l = some rest)
  (first : c.wp P (Exit.jump l (fun a w => ∃ n, J n a w) Q) a w)
  (pass : ∀ n a w, J n a w -> rest.wp P (Exit.jump l (fun a' w' => ∃ n', n' < n /\ J n' a' w') Q) a w) : (Code.scope c).wp P Q a w := by
 intro b k cs
 have hg : gotoIn l (.inScope c :: k) = some (.code rest :: .inScope c :: k) := by simp [gotoIn, hf]
 have key : ∀ n a w, J n a w -> ∃ e a' w', Q e a' w' /\ Arrives P (lone (b.at a (.code rest :: .inScope c :: k)) cs w) b k cs e a' w' := by
  intro n
  induction n using Nat.strongRecOn with
  | _ n ih =>
   intro a w hJ
   obtain ⟨e, a₁, w₁, hq, harr⟩ := pass n a w hJ b (.inScope c :: k) cs
   cases e with
   | normal => exact ⟨.normal, a₁, w₁, hq, Steps.trans harr (.one step_inScope)⟩
   | exit id => exact ⟨.exit id, a₁, w₁, hq, fun k' hk => harr k' (by simp [exitTo, hk])⟩
   | goto l' =>
    obtain ⟨rfl, n', hlt, hJ'⟩ := hq
    obtain ⟨e₂, a₂, w₂, hq₂, harr₂⟩ := ih n' hlt a₁ w₁ hJ'
    exact ⟨e₂, a₂, w₂, hq₂, .of_steps (harr _ hg) harr₂⟩
   | ret => exact ⟨_, a₁, w₁, hq, harr⟩
   | panic ch => exact ⟨_, a₁, w₁, hq, harr⟩
   | outgrown => exact ⟨_, a₁, w₁, hq, harr⟩
 obtain ⟨e, a₁, w₁, hq, harr⟩ := first b (.inScope c :: k) cs
 cases e with
 | normal => exact ⟨.normal, a₁, w₁, hq, .head step_scope (Steps.trans harr (.one step_inScope))⟩
 | exit id => exact ⟨.exit id, a₁, w₁, hq, fun k' hk => .head step_scope (harr k' (by simp [exitTo, hk]))⟩
 | goto l' =>
  obtain ⟨rfl, n', hJ'⟩ := hq
  obtain ⟨e₂, a₂, w₂, hq₂, harr₂⟩ := key n' a₁ w₁ hJ'
  exact ⟨e₂, a₂, w₂, hq₂, .of_steps (.head step_scope (harr _ hg)) harr₂⟩
 | ret => exact ⟨_, a₁, w₁, hq, .of_steps (.one step_scope) harr⟩
 | panic ch => exact ⟨_, a₁, w₁, hq, .of_steps (.one step_scope) harr⟩
 | outgrown => exact ⟨_, a₁, w₁, hq, .of_steps (.one step_scope) harr⟩
def aFind : ACode -> Nat -> Option ACode
 | .seq a b, l => match aFind a l with
  | some rest => some (.seq rest b)
  | none => aFind b l
 | .label l', l => if l' == l then some .skip else none
 | _, _ => none
theorem aFind_ok {P : Program} {N : Nat} (l : Nat) : ∀ {c : Code} {ac : ACode}, compCode P N c = some ac ->
  (∀ ar, aFind ac l = some ar -> ∃ r, findLabel c l = some r /\ compCode P N r = some ar) /\ (aFind ac l = none -> findLabel c l = none) := by
 intro c
 induction c with
 | seq x y ihx ihy =>
  intro ac hc
  simp only [compCode, Option.bind_eq_some_iff, Option.map_eq_some_iff] at hc
  obtain ⟨x', hx, y', hy, rfl⟩ := hc
  obtain ⟨f1, f2⟩ := ihx hx
  obtain ⟨g1, g2⟩ := ihy hy
  simp only [aFind, findLabel]
  cases hax : aFind x' l with
  | some rx =>
   obtain ⟨r, h1, h2⟩ := f1 rx hax
   simp only [h1]
   refine ⟨fun ar h => ?_, fun h => by cases h⟩
   cases h
   exact ⟨_, rfl, by simp [compCode, h2, hy]⟩
  | none =>
   simp only [f2 hax]
   exact ⟨g1, g2⟩
 | label l' =>
  intro ac hc
  simp only [compCode] at hc
  cases hc
  simp only [aFind, findLabel]
  split
  ·exact ⟨fun ar h => by cases h; exact ⟨_, rfl, rfl⟩, fun h => by cases h⟩
  ·exact ⟨(fun ar h => by cases h), fun _ => rfl⟩
 | region id ops d =>
  intro ac hc
  cases d <;> simp only [compCode, Option.bind_eq_some_iff, Option.map_eq_some_iff] at hc
  ·obtain ⟨_, _, rfl⟩ := hc; exact ⟨(fun ar h => by simp [aFind] at h), fun _ => rfl⟩
  ·obtain ⟨_, _, _, _, hx⟩ := hc
   (repeat' split at hx) <;> cases hx <;> exact ⟨(fun ar h => by simp [aFind] at h), fun _ => rfl⟩
 | _ =>
  intro ac hc
  simp only [compCode, Option.bind_eq_some_iff, Option.map_eq_some_iff] at hc
  first
   | (cases hc; done)
   | (cases hc; exact ⟨(fun ar h => by simp [aFind] at h), fun _ => rfl⟩)
   | (obtain ⟨_, _, rfl⟩ := hc; exact ⟨(fun ar h => by simp [aFind] at h), fun _ => rfl⟩)
   | (obtain ⟨_, _, _, _, rfl⟩ := hc; exact ⟨(fun ar h => by simp [aFind] at h), fun _ => rfl⟩)
   | (obtain ⟨_, _, _, _, _, _, rfl⟩ := hc; exact ⟨(fun ar h => by simp [aFind] at h), fun _ => rfl⟩)
def jumpA (l : Nat) (J : Env -> AHeap -> Prop) (Q : Exit -> Env -> AHeap -> Prop) : Exit -> Env -> AHeap -> Prop
 | .goto l', env, h => l' = l /\ J env h
 | e, env, h => Q e env h
def noGotoA (Q : Exit -> Env -> AHeap -> Prop) : Exit -> Env -> AHeap -> Prop
 | .goto _, _, _ => False
 | e, env, h => Q e env h
section
variable {P : Program} {N : Nat} {Q : Exit -> Env -> AHeap -> Prop} {env : Env} {h : AHeap}
theorem scope_inv {c : Code} {x : ACode} (hc : compCode P N c = some (.scope x)) : ∃ c', c = .scope c' /\ compCode P N c' = some x := by
 cases c <;> (try simp only [compCode, Option.bind_eq_some_iff, Option.map_eq_some_iff] at hc)
 case scope c' => obtain ⟨x', h1, h2⟩ := hc; cases h2; exact ⟨c', rfl, h1⟩
 case region id ops d =>
  cases d <;> simp only [compCode, Option.bind_eq_some_iff, Option.map_eq_some_iff] at hc
  ·obtain ⟨_, _, hx⟩ := hc; cases hx
  ·obtain ⟨_, _, _, _, hx⟩ := hc; (repeat' split at hx) <;> cases hx
 all_goals first
  | (cases hc; done)
  | (obtain ⟨_, _, hx⟩ := hc; cases hx; done)
  | (obtain ⟨_, _, _, _, hx⟩ := hc; cases hx; done)
  | (obtain ⟨_, _, _, _, _, _, hx⟩ := hc; cases hx; done)
theorem asem_label {l : Nat} (hq : Q .normal env h) : asem P N (.label l) Q env h := by
 intro c hc σ a hs
 cases c <;> (try simp only [compCode, Option.bind_eq_some_iff, Option.map_eq_some_iff] at hc)
 case label => exact wp_label ⟨trivial, σ, h, env, rfl, Le.refl σ, hs, hq⟩
 case region id ops d =>
  cases d <;> simp only [compCode, Option.bind_eq_some_iff, Option.map_eq_some_iff] at hc
  ·obtain ⟨_, _, hx⟩ := hc; cases hx
  ·obtain ⟨_, _, _, _, hx⟩ := hc; (repeat' split at hx) <;> cases hx
 all_goals first
  | (cases hc; done)
  | (obtain ⟨_, _, hx⟩ := hc; cases hx; done)
  | (obtain ⟨_, _, _, _, hx⟩ := hc; cases hx; done)
  | (obtain ⟨_, _, _, _, _, _, hx⟩ := hc; cases hx; done)
theorem asem_goto {l : Nat} (hq : Q (.goto l) env h) : asem P N (.goto l) Q env h := by
 intro c hc σ a hs
 cases c <;> (try simp only [compCode, Option.bind_eq_some_iff, Option.map_eq_some_iff] at hc)
 case goto => cases hc; exact wp_goto ⟨trivial, σ, h, env, rfl, Le.refl σ, hs, hq⟩
 case region id ops d =>
  cases d <;> simp only [compCode, Option.bind_eq_some_iff, Option.map_eq_some_iff] at hc
  ·obtain ⟨_, _, hx⟩ := hc; cases hx
  ·obtain ⟨_, _, _, _, hx⟩ := hc; (repeat' split at hx) <;> cases hx
 all_goals first
  | (cases hc; done)
  | (obtain ⟨_, _, hx⟩ := hc; cases hx; done)
  | (obtain ⟨_, _, _, _, hx⟩ := hc; cases hx; done)
  | (obtain ⟨_, _, _, _, _, _, hx⟩ := hc; cases hx; done)
theorem asem_scope {x : ACode} (hx : asem P N x (noGotoA Q) env h) : asem P N (.scope x) Q env h := by
 intro c hc σ a hs
 obtain ⟨c', rfl, hc'⟩ := scope_inv hc
 refine wp_scope_straight (wp_mono (hx c' hc' σ a hs) ?_)
 rintro e a' w' ⟨h1, σ2, h2, env2, rfl, q2, q3, q4⟩
 cases e with
 | panic _ => exact h1.elim
 | outgrown => exact h1.elim
 | goto _ => exact q4.elim
 | normal => exact ⟨trivial, σ2, h2, env2, rfl, q2, q3, q4⟩
 | ret => exact ⟨trivial, σ2, h2, env2, rfl, q2, q3, q4⟩
 | exit i => exact ⟨trivial, σ2, h2, env2, rfl, q2, q3, q4⟩
theorem asem_jumps {x rest : ACode} (l : Nat) (hf : aFind x l = some rest) (I : Nat -> Env -> AHeap -> Prop)
  (first : asem P N x (jumpA l (fun env' h' => ∃ n e, EnvLe e env' /\ I n e h') Q) env h)
  (pass : ∀ n e h, I n e h -> asem P N rest (jumpA l (fun env' h' => ∃ n' e', n' < n /\ EnvLe e' env' /\ I n' e' h') Q) e h) : asem P N (.scope x) Q env h := by
 intro c hc σ a hs
 obtain ⟨c', rfl, hc'⟩ := scope_inv hc
 obtain ⟨r, hr, hrc⟩ := (aFind_ok l hc').1 rest hf
 refine wp_scope_ghost l (fun n a w => ∃ σ' e h', σ'.w = w /\ Le σ σ' /\ St σ' h' e N a /\ I n e h') hr (wp_mono (first c' hc' σ a hs) ?_) ?_
 ·rintro e a' w' ⟨h1, σ2, h2, env2, rfl, q2, q3, q4⟩
  cases e with
  | panic _ => exact h1.elim
  | outgrown => exact h1.elim
  | goto l' =>
   obtain ⟨rfl, n, e, hel, hI⟩ := q4
   exact ⟨rfl, n, σ2, e, h2, rfl, q2, ⟨q3.inv, fun t av hg => q3.env t av (hel.get t av hg), q3.size, q3.defers⟩, hI⟩
  | normal => exact ⟨trivial, σ2, h2, env2, rfl, q2, q3, q4⟩
  | ret => exact ⟨trivial, σ2, h2, env2, rfl, q2, q3, q4⟩
  | exit i => exact ⟨trivial, σ2, h2, env2, rfl, q2, q3, q4⟩
 ·rintro n a w ⟨σ', e, h', rfl, l1, s1, hI⟩
  refine wp_mono (pass n e h' hI r hrc σ' a s1) ?_
  rintro e a' w' ⟨h1, σ2, h2, env2, rfl, q2, q3, q4⟩
  cases e with
  | panic _ => exact h1.elim
  | outgrown => exact h1.elim
  | goto l' =>
   obtain ⟨rfl, n', e', hn, hel, hI'⟩ := q4
   exact ⟨rfl, n', hn, σ2, e', h2, rfl, l1.trans q2, ⟨q3.inv, fun t av hg => q3.env t av (hel.get t av hg), q3.size, q3.defers⟩, hI'⟩
  | normal => exact ⟨trivial, σ2, h2, env2, rfl, l1.trans q2, q3, q4⟩
  | ret => exact ⟨trivial, σ2, h2, env2, rfl, l1.trans q2, q3, q4⟩
  | exit i => exact ⟨trivial, σ2, h2, env2, rfl, l1.trans q2, q3, q4⟩
end
mutual
def plain : AV -> Bool
 | .v _ => true
 | .ptr _ _ => false
 | .elt cells _ => plainL cells
 | .nil => true
 | .sl els tok => (match tok with | .own _ => false | _ => true) && plainLL els
 | .agg cells => plainL cells
 | .tuple vs => plainL vs
 | .iface _ x => plain x
 | .clo _ first captured => plainL first && plainL captured
 | .glob _ => true
 | .row _ _ _ _ _ => false
 | .it _ _ => false
 | .mp _ => false
 | .bb _ _ _ => false
 | .ps _ _ => false
def plainL : List AV -> Bool
 | [] => true
 | a :: r => plain a && plainL r
def plainLL : List (List AV) -> Bool
 | [] => true
 | a :: r => plainL a && plainLL r
end
theorem plainL_get : ∀ {l : List AV}, plainL l = true -> ∀ (i : Nat) (av : AV), l[i]? = some av -> plain av = true
 | [], _, i, av, h => by simp at h
 | a :: r, hp, i, av, h => by
  simp only [plainL, Bool.and_eq_true] at hp
  cases i with
  | zero => simp at h; subst h; exact hp.1
  | succ i => exact plainL_get hp.2 i av (by simpa using h)
theorem plainLL_get : ∀ {l : List (List AV)}, plainLL l = true -> ∀ (i : Nat) (el : List AV), l[i]? = some el -> plainL el = true
 | [], _, i, av, h => by simp at h
 | a :: r, hp, i, av, h => by
  simp only [plainLL, Bool.and_eq_true] at hp
  cases i with
  | zero => simp at h; subst h; exact hp.1
  | succ i => exact plainLL_get hp.2 i av (by simpa using h)
theorem plainLL_map {α : Type} (f : α -> List AV) (l : List α) (h : ∀ x ∈ l, plainL (f x) = true) : plainLL (l.map f) = true := by
 induction l with
 | nil => rfl
 | cons x l ih => simp only [List.map_cons, plainLL, Bool.and_eq_true]; exact ⟨h x (by simp), ih fun y hy => h y (by simp [hy])⟩
def bare (w : World) (outer : Nat -> Nat -> Prop) : Sg := ⟨w, fun _ => none, fun _ => none, outer⟩
theorem bare_own (w : World) (outer : Nat -> Nat -> Prop) (b o : Nat) : ¬ (bare w outer).own b o := by
 rintro (⟨n, h⟩ | ⟨id, e, h, _⟩) <;> cases h
theorem bare_open (w : World) (outer : Nat -> Nat -> Prop) (b o : Nat) : (bare w outer).open_ b o ↔ outer b o := ⟨fun h => h.elim id fun h => (bare_own w outer b o h).elim, .inl⟩
def Globs (w : World) (outer : Nat -> Nat -> Prop) (gl : List (Nat × List AV)) : Prop := ∀ g cells, (g, cells) ∈ gl -> Rel (bare w outer) (.elt cells 0) (.pointer (some ⟨g, 0, none⟩))
theorem bare_inv {w : World} {outer : Nat -> Nat -> Prop} {gl : List (Nat × List AV)} (h : ∀ b o, outer b o -> b < w.heap.size) (hg : Globs w outer gl) : Inv ⟨[], [], gl⟩ (bare w outer) where
 blk n cells hn := by simp at hn
 dom n b hn := by cases hn
 inj n m b c c' hc hc' _ _ hn := by cases hn
 buf id c hc := by simp at hc
 bufdom id e he := by cases he
 bufle id e he := by cases he
 bufat id e b o he := by cases he
 bufun id e b o he := by cases he
 buflt id e b o he := by cases he
 bufinj i j e f b o he := by cases he
 bufblk id e n b o he := by cases he
 outer b o ho := ⟨h b o ho, bare_own w outer b o⟩
 glob := hg
theorem Rel.down {σ : Sg} {av : AV} {x : Value} (hr : Rel σ av x) : plain av = true -> ∀ {w : World} {outer : Nat -> Nat -> Prop}, w = σ.w -> (∀ b o, outer b o -> σ.open_ b o) -> Rel (bare w outer) av x := by
 intro hp w outer hw ho
 subst hw
 induction hr with
 | v x hx => exact .v x hx
 | ptr n off b hb => simp [plain] at hp
 | elt cells off b o xs hc _ ih =>
  simp only [plain] at hp
  exact .elt cells off b o xs (fun i av hi => ⟨(hc i av hi).1, fun h => (hc i av hi).2.1 (ho _ _ ((bare_open _ _ _ _).1 h)), (hc i av hi).2.2⟩) fun i av hi => ih i av hi (plainL_get hp i av hi)
 | nil => exact .nil
 | glob n => exact .glob n
 | mp n b hb => simp [plain] at hp
 | bbn _ => simp [plain] at hp
 | bbo _ _ _ _ _ _ _ _ => simp [plain] at hp
 | bbd _ _ _ _ _ _ _ _ _ _ => simp [plain] at hp
 | bbr _ _ _ _ _ _ _ _ => simp [plain] at hp
 | ps _ _ _ _ _ _ _ => simp [plain] at hp
 | row n off size len capm b cap hb hc hm hx => simp [plain] at hp
 | sl0 tok ht =>
  refine .sl0 tok ?_
  cases tok with
  | no => trivial
  | full => exact ht
  | own id => simp [plain] at hp
 | slx tok a cap ht hc =>
  refine .slx tok a cap ?_ hc
  cases tok with
  | no => trivial
  | full => exact ht
  | own id => simp [plain] at hp
 | sl els tok b o cap size xs hs hcap ht hz hc _ ih =>
  simp only [plain, Bool.and_eq_true] at hp
  refine .sl els tok b o cap size xs hs hcap ?_ ?_ (fun i el hi j av hj => ⟨(hc i el hi j av hj).1, fun h => (hc i el hi j av hj).2.1 (ho _ _ ((bare_open _ _ _ _).1 h)), (hc i el hi j av hj).2.2⟩) fun i el hi j av hj => ih i el hi j av hj (plainL_get (plainLL_get hp.2 i el hi) j av hj)
  ·cases tok with
   | no => trivial
   | full => exact ht
   | own id => simp at hp
  ·intro id e hid he; cases he
 | agg cells xs hn hc x hx _ ih => simp only [plain] at hp; exact .agg cells xs hn hc x hx fun i av hi => ih i av hi (plainL_get hp i av hi)
 | tuple vs xs hn x hx _ ih => simp only [plain] at hp; exact .tuple vs xs hn x hx fun i av hi => ih i av hi (plainL_get hp i av hi)
 | iface t av x _ ih => simp only [plain] at hp; exact .iface t av x (ih hp)
 | clo fn first captured fs cs hn hm x y hx hy _ _ ih1 ih2 =>
  simp only [plain, Bool.and_eq_true] at hp
  exact .clo fn first captured fs cs hn hm x y hx hy (fun i av hi => ih1 i av hi (plainL_get hp.1 i av hi)) fun i av hi => ih2 i av hi (plainL_get hp.2 i av hi)
theorem Rel.up {σ σ₁ : Sg} {av : AV} {x : Value} (hr : Rel σ₁ av x) : (∀ n, σ₁.blk n = none) -> (∀ n, σ₁.buf n = none) -> σ₁.w = σ.w -> (∀ b o, σ.open_ b o -> σ₁.open_ b o) -> Rel σ av x := by
 intro hb hbuf hw ho
 induction hr with
 | v x hx => exact .v x hx
 | ptr n off b h => rw [hb] at h; cases h
 | elt cells off b o xs hc _ ih => exact .elt cells off b o xs (fun i av hi => ⟨by rw [← hw]; exact (hc i av hi).1, fun h => (hc i av hi).2.1 (ho _ _ h), (hc i av hi).2.2⟩) ih
 | nil => exact .nil
 | glob n => exact .glob n
 | mp n b h => rw [hb] at h; cases h
 | bbn u => exact .bbn u
 | bbo id els u a n cap _ hu ih => exact .bbo id els u a n cap ih (hw ▸ hu)
 | bbd id els u a p n cap _ hu hp ih => exact .bbd id els u a p n cap ih (hw ▸ hu) hp
 | bbr id n u b cap hn he hu => obtain ⟨e, h, _⟩ := he; rw [hbuf] at h; cases h
 | ps n t b p h hs hp => rw [hb] at h; cases h
 | row n off size len capm b cap h hc hm hx => rw [hb] at h; cases h
 | sl0 tok ht =>
  refine .sl0 tok ?_
  cases tok with
  | no => trivial
  | full => exact ht
  | own id => obtain ⟨e, h, _⟩ := ht; rw [hbuf] at h; cases h
 | slx tok a cap ht hc =>
  refine .slx tok a cap ?_ hc
  cases tok with
  | no => trivial
  | full => exact ht
  | own id => obtain ⟨e, h, _⟩ := ht; rw [hbuf] at h; cases h
 | sl els tok b o cap size xs hs hcap ht hz hc _ ih =>
  refine .sl els tok b o cap size xs hs hcap ?_ ?_ (fun i el hi j av hj => ⟨by rw [← hw]; exact (hc i el hi j av hj).1, fun h => (hc i el hi j av hj).2.1 (ho _ _ h), (hc i el hi j av hj).2.2⟩) ih
  ·cases tok with
   | no => trivial
   | full => exact ht
   | own id => obtain ⟨e, h, _⟩ := ht; rw [hbuf] at h; cases h
  ·intro id e hid he
   subst hid
   obtain ⟨e', h, _⟩ := ht; rw [hbuf] at h; cases h
 | agg cells xs hn hc x hx _ ih => exact .agg cells xs hn hc x hx ih
 | tuple vs xs hn x hx _ ih => exact .tuple vs xs hn x hx ih
 | iface t av x _ ih => exact .iface t av x ih
 | clo fn first captured fs cs hn hm x y hx hy _ _ ih1 ih2 => exact .clo fn first captured fs cs hn hm x y hx hy ih1 ih2
def thawN : Nat -> AHeap -> AV -> AV
 | 0, _, a => a
 | k + 1, h, a => match a with
  | .row n off size len cap => match rowAt h n off size len with
   | some els => .sl (els.map fun el => el.map fun c => thawN k h (wk1 c)) .no
   | none => a
  | .sl els tok => .sl (els.map fun el => el.map fun c => thawN k h (wk1 c)) tok
  | .agg cells => .agg (cells.map fun c => thawN k h (wk1 c))
  | .tuple vs => .tuple (vs.map fun c => thawN k h (wkA c))
  | a => a
theorem thawN_cell : ∀ (k : Nat) (h : AHeap) (a : AV), (thawN k h a).isCell = a.isCell
 | 0, _, _ => rfl
 | k + 1, h, a => by
  cases a with
  | row n off size len cap =>
   simp only [thawN]
   cases rowAt h n off size len <;> rfl
  | _ => rfl
theorem plainL_map_get {f : AV -> AV} {l : List AV} (h : plainL (l.map f) = true) {i : Nat} {a : AV} (ha : l[i]? = some a) : plain (f a) = true := plainL_get h i _ (by rw [List.getElem?_map, ha]; rfl)
theorem Rel.thaw {h : AHeap} {σ : Sg} (hi : Inv h σ) : ∀ (k : Nat) (av : AV) (x : Value), Rel σ av x -> plain (thawN k h av) = true -> Rel (bare σ.w σ.outer) (thawN k h av) x := by
 have hout : ∀ b o, σ.outer b o -> σ.open_ b o := fun b o ho => .inl ho
 intro k
 induction k with
 | zero => intro av x hr hp; exact hr.down hp rfl hout
 | succ k ih =>
  intro av x hr hp
  have cell : ∀ (c : AV) (y : Value), Rel σ c y -> plain (thawN k h (Lift.wk1 c)) = true -> Rel (bare σ.w σ.outer) (thawN k h (Lift.wk1 c)) y := fun c y hc hpc => ih _ _ hc.wk1 hpc
  have iscell : ∀ c, (thawN k h (Lift.wk1 c)).isCell = c.isCell := fun c => by rw [thawN_cell, wk1_cell]
  cases hr with
  | row n off size len capm b cap hb hc hm hx =>
   simp only [thawN] at hp ⊢
   cases hra : rowAt h n off size len with
   | none => rw [hra] at hp; simp [plain] at hp
   | some els =>
    rw [hra] at hp
    simp only [plain, Bool.true_and] at hp
    by_cases hlen : len = 0
    ·subst hlen
     simp only [rowAt, if_true, Option.some.injEq] at hra
     subst hra
     exact .slx _ _ _ trivial (.inl rfl)
    simp only [rowAt, if_neg hlen] at hra
    split at hra
    ·rename_i cells hcs
     split at hra
     ·rename_i hcond
      obtain ⟨hno, hle⟩ := hcond
      simp only [Option.some.injEq] at hra
      obtain ⟨b', hb', hbk⟩ := hi.blk n cells hcs
      rw [hb] at hb'; cases hb'
      obtain ⟨cs, rest, elem, hheap, hcc⟩ := hbk.plain hno
      have hsub := hcc.sub off (len * size) hle
      have hl : ((cells.drop off).take (len * size)).length = len * size := by simp; omega
      obtain ⟨c1, c2, c3⟩ := chunk_flat size len _ hl
      rw [hra] at c1 c2 c3
      have hown : ∀ o, ¬ (bare σ.w σ.outer).open_ b o := by
       intro o ho
       exact (hi.outer b o ((bare_open _ _ _ _).1 ho)).2 (.inl ⟨n, hb⟩)
      have key : ∀ (i : Nat) (el : List AV), els[i]? = some el -> ∀ (j : Nat) (av : AV), el[j]? = some av -> ∃ y, σ.w.cell? ⟨b, off + i * size + j, none⟩ = some y /\ Rel σ av y /\ av.isCell = true := by
       intro i el hiel j av hj
       have hel : el.length = size := c2 el (List.mem_of_getElem? hiel)
       have hjl : j < size := by rw [← hel]; exact (List.getElem?_eq_some_iff.1 hj).1
       have hf := flat_get els c2 i j hjl
       rw [hiel, Option.bind_some, hj, c1] at hf
       obtain ⟨hcell, y, hy, hrel⟩ := hsub.2 _ av hf
       refine ⟨y, ?_, hrel, hcell⟩
       rw [List.getElem?_take] at hy
       split at hy
       ·rw [List.getElem?_drop] at hy
        have hlt := (List.getElem?_eq_some_iff.1 hy).1
        rw [blk_cell hheap, ← Array.getElem?_toList, List.toList_toArray, Nat.add_assoc, List.getElem?_append_left hlt]
        exact hy
       ·cases hy
      have := Rel.sl (σ := bare σ.w σ.outer) (els.map fun el => el.map fun c => thawN k h (Lift.wk1 c)) .no b off cap size (fun i j => (σ.w.cell? ⟨b, off + i * size + j, none⟩).getD undef)
       (fun i el hiel => by
        simp only [List.getElem?_map, Option.map_eq_some_iff] at hiel
        obtain ⟨el', h1, rfl⟩ := hiel
        rw [List.length_map]; exact c2 el' (List.mem_of_getElem? h1))
       (by rw [List.length_map, c3]; exact hc) trivial (fun id e hid => by cases hid)
       (fun i el hiel j av hj => by
        simp only [List.getElem?_map, Option.map_eq_some_iff] at hiel
        obtain ⟨el', h1, rfl⟩ := hiel
        simp only [List.getElem?_map, Option.map_eq_some_iff] at hj
        obtain ⟨av', h2, rfl⟩ := hj
        obtain ⟨y, k1, k2, k3⟩ := key i el' h1 j av' h2
        exact ⟨by show σ.w.cell? _ = _; rw [k1]; rfl, hown _, by rw [iscell]; exact k3⟩)
       (fun i el hiel j av hj => by
        simp only [List.getElem?_map, Option.map_eq_some_iff] at hiel
        obtain ⟨el', h1, rfl⟩ := hiel
        simp only [List.getElem?_map, Option.map_eq_some_iff] at hj
        obtain ⟨av', h2, rfl⟩ := hj
        obtain ⟨y, k1, k2, k3⟩ := key i el' h1 j av' h2
        rw [k1]
        exact cell av' y k2 (plainL_map_get (f := fun c => thawN k h (Lift.wk1 c)) (plainLL_get hp i _ (by rw [List.getElem?_map, h1]; rfl)) h2))
      rw [List.length_map, c3] at this
      exact this
     ·cases hra
    ·cases hra
  | sl0 tok ht =>
   simp only [thawN, List.map_nil] at hp ⊢
   exact (Rel.sl0 tok ht).down hp rfl hout
  | slx tok a cap ht hc =>
   simp only [thawN, List.map_nil] at hp ⊢
   exact (Rel.slx tok a cap ht hc).down hp rfl hout
  | sl els tok b o cap size xs hs hcap ht hz hc hr =>
   simp only [thawN, plain, Bool.and_eq_true] at hp ⊢
   have := Rel.sl (σ := bare σ.w σ.outer) (els.map fun el => el.map fun c => thawN k h (Lift.wk1 c)) tok b o cap size xs
    (fun i el hiel => by
     simp only [List.getElem?_map, Option.map_eq_some_iff] at hiel
     obtain ⟨el', h1, rfl⟩ := hiel
     rw [List.length_map]; exact hs i el' h1)
    (by rw [List.length_map]; exact hcap)
    (by
     rw [List.length_map]
     cases tok with
     | no => trivial
     | full => exact ht
     | own id => simp at hp)
    (fun id e hid he => by cases he)
    (fun i el hiel j av hj => by
     simp only [List.getElem?_map, Option.map_eq_some_iff] at hiel
     obtain ⟨el', h1, rfl⟩ := hiel
     simp only [List.getElem?_map, Option.map_eq_some_iff] at hj
     obtain ⟨av', h2, rfl⟩ := hj
     obtain ⟨k1, k2, k3⟩ := hc i el' h1 j av' h2
     exact ⟨k1, fun h => k2 (.inl ((bare_open _ _ _ _).1 h)), by rw [iscell]; exact k3⟩)
    (fun i el hiel j av hj => by
     simp only [List.getElem?_map, Option.map_eq_some_iff] at hiel
     obtain ⟨el', h1, rfl⟩ := hiel
     simp only [List.getElem?_map, Option.map_eq_some_iff] at hj
     obtain ⟨av', h2, rfl⟩ := hj
     exact cell av' _ (hr i el' h1 j av' h2) (plainL_map_get (f := fun c => thawN k h (Lift.wk1 c)) (plainLL_get hp.2 i _ (by rw [List.getElem?_map, h1]; rfl)) h2))
   rw [List.length_map] at this
   exact this
  | agg cells xs hn hc x hx hr =>
   simp only [thawN, plain] at hp ⊢
   refine .agg _ xs (by rw [List.length_map]; exact hn) (fun i av hiv => ?_) x (fun i av hiv => ?_) (fun i av hiv => ?_)
   all_goals
    simp only [List.getElem?_map, Option.map_eq_some_iff] at hiv
    obtain ⟨av', h2, rfl⟩ := hiv
   ·rw [iscell]; exact hc i av' h2
   ·exact hx i av' h2
   ·exact cell av' _ (hr i av' h2) (plainL_map_get hp h2)
  | tuple vs xs hn x hx hr =>
   simp only [thawN, plain] at hp ⊢
   refine .tuple _ xs (by rw [List.length_map]; exact hn) x (fun i av hiv => ?_) (fun i av hiv => ?_)
   all_goals
    simp only [List.getElem?_map, Option.map_eq_some_iff] at hiv
    obtain ⟨av', h2, rfl⟩ := hiv
   ·exact hx i av' h2
   ·exact ih _ _ (hr i av' h2).wkA (plainL_map_get hp h2)
  | v x hx => exact .v x hx
  | ptr n off b hb => simp [thawN, plain] at hp
  | mp n b hb => simp [thawN, plain] at hp
  | bbn _ => simp [thawN, plain] at hp
  | bbo _ _ _ _ _ _ _ _ => simp [thawN, plain] at hp
  | bbd _ _ _ _ _ _ _ _ _ => simp [thawN, plain] at hp
  | bbr _ _ _ _ _ _ _ _ => simp [thawN, plain] at hp
  | ps _ _ _ _ _ _ _ => simp [thawN, plain] at hp
  | elt cells off b o xs hc hr => exact (Rel.elt cells off b o xs hc hr).down hp rfl hout
  | nil => exact .nil
  | glob n => exact .glob n
  | iface t av x hr => exact (Rel.iface t av x hr).down hp rfl hout
  | clo fn first captured fs cs hn hm x y hx hy h1 h2 => exact (Rel.clo fn first captured fs cs hn hm x y hx hy h1 h2).down hp rfl hout
def isV : AV -> Bool
 | .v _ => true
 | .agg cells => cells.all fun | .v _ => true | _ => false
 | _ => false
def bareV : AV -> Bool
 | .tuple vs => vs.all isV
 | a => isV a
theorem isV_rel {σ σ' : Sg} {av : AV} {x : Value} (hv : isV av = true) (hr : Rel σ av x) : Rel σ' av x := by
 cases hr <;> simp only [isV] at hv <;> (try (cases hv; done))
 case v hx => exact .v _ hx
 case agg cells xs hn hc x hx hr =>
  refine .agg cells xs hn hc x hx fun i av hiv => ?_
  have := List.all_eq_true.1 hv av (List.mem_of_getElem? hiv)
  have h1 := hr i av hiv
  cases av <;> simp at this
  cases h1 with
  | v _ h => exact .v _ h
theorem bareV_rel {σ σ' : Sg} {av : AV} {x : Value} (hv : bareV av = true) (hr : Rel σ av x) : Rel σ' av x := by
 by_cases ht : ∃ vs, av = .tuple vs
 ·obtain ⟨vs, rfl⟩ := ht
  cases hr with
  | tuple vs xs hn x hx hr =>
   simp only [bareV] at hv
   exact .tuple vs xs hn x hx fun i av hiv => isV_rel (List.all_eq_true.1 hv av (List.mem_of_getElem? hiv)) (hr i av hiv)
 ·refine isV_rel ?_ hr
  cases av with
  | tuple vs => exact absurd ⟨vs, rfl⟩ ht
  | _ => exact hv
def PureC (P : Program) (gl : List (Nat × List AV)) (f : FuncId) (args : List AV) (R : AV -> Prop) : Prop :=
 Callable P f /\ ∀ (w : World) (outer : Nat -> Nat -> Prop) (cargs : Array Value), (∀ b o, outer b o -> b < w.heap.size) -> Globs w outer gl -> Rels (bare w outer) args cargs.toList ->
  Calls P f cargs w fun e w' => ∃ av x, e = .returned x /\ Past w w' /\ Rel (bare w' outer) av x /\ R av
def plainG (gl : List (Nat × List AV)) : Bool := gl.all fun p => plainL p.2
theorem pure_call {P : Program} {f : FuncId} {args args' : List AV} {R : AV -> Prop} {h : AHeap} {K : AV -> AHeap -> Prop} (hf : PureC P h.globs f args R) (hgl : plainG h.globs = true) (ha : args'.map wk = args) (hp : plainL args = true) (hk : ∀ av, R av -> K av h) : ACall P f args' h K := by
 refine ⟨hf.1, fun σ cargs hi hr => ?_⟩
 have hopen : ∀ b o, σ.open_ b o -> b < σ.w.heap.size := by
  rintro b o (ho | ⟨n, hn⟩ | ⟨id, e, he, hs⟩)
  ·exact (hi.outer b o ho).1
  ·exact hi.lt hn
  ·exact hi.buflt id e b o he hs
 have hrels : Rels (bare σ.w σ.open_) args cargs.toList := by
  refine ⟨by rw [hr.1, ← ha]; simp, fun i av hav => ?_⟩
  have hav' := hav
  rw [← ha] at hav
  simp only [List.getElem?_map, Option.map_eq_some_iff] at hav
  obtain ⟨b, hb, rfl⟩ := hav
  obtain ⟨x, h1, h2⟩ := hr.2 i b hb
  exact ⟨x, h1, h2.wk.down (plainL_get hp i _ hav') rfl fun _ _ h => h⟩
 have hglobs : Globs σ.w σ.open_ h.globs := fun g cells hg => (hi.glob g cells hg).down (by simp only [plain]; exact List.all_eq_true.1 hgl _ hg) rfl fun _ _ h => h
 refine (hf.2 σ.w σ.open_ cargs hopen hglobs hrels).mono fun e w' hq => ?_
 obtain ⟨av, x, rfl, hpast, hrel, hR⟩ := hq
 exact ⟨{ σ with w := w' }, h, av, x, rfl, rfl, Le.world hpast, hi.world hpast, hrel.up (fun _ => rfl) (fun _ => rfl) rfl (fun b o ho => .inl ho), hk av hR⟩
theorem pure_call_v {P : Program} {f : FuncId} {args args' : List AV} {R : AV -> Prop} {h : AHeap} {K : AV -> AHeap -> Prop} (k : Nat) (hf : PureC P h.globs f args R) (hgl : plainG h.globs = true) (ha : args'.map (fun a => thawN k h (wk a)) = args) (hp : plainL args = true) (hv : ∀ av, R av -> bareV av = true) (hk : ∀ av, R av -> K av h) : ACall P f args' h K := by
 refine ⟨hf.1, fun σ cargs hi hr => ?_⟩
 have hrels : Rels (bare σ.w σ.outer) args cargs.toList := by
  refine ⟨by rw [hr.1, ← ha]; simp, fun i av hav => ?_⟩
  have hav' := hav
  rw [← ha] at hav
  simp only [List.getElem?_map, Option.map_eq_some_iff] at hav
  obtain ⟨b, hb, rfl⟩ := hav
  obtain ⟨x, h1, h2⟩ := hr.2 i b hb
  exact ⟨x, h1, Rel.thaw hi k _ _ h2.wk (plainL_get hp i _ hav')⟩
 have hglobs : Globs σ.w σ.outer h.globs := fun g cells hg => (hi.glob g cells hg).down (by simp only [plain]; exact List.all_eq_true.1 hgl _ hg) rfl fun _ _ h => .inl h
 refine (hf.2 σ.w σ.outer cargs (fun b o ho => (hi.outer b o ho).1) hglobs hrels).mono fun e w' hq => ?_
 obtain ⟨av, x, rfl, hpast, hrel, hR⟩ := hq
 exact ⟨{ σ with w := w' }, h, av, x, rfl, rfl, Le.world hpast, hi.world hpast, bareV_rel (hv av hR) hrel, hk av hR⟩
inductive ARes where
 | tmp (t : Nat)
 | cell (t : Nat) (n : Option Nat)
def compRes (P : Program) : List ResultVar -> Option (List ARes)
 | [] => some []
 | .tmp t :: r => (compRes P r).map fun l => .tmp t :: l
 | .cell a t :: r => (aggSize P t).bind fun n => (compRes P r).map fun l => .cell a n :: l
def outs (env : Env) (h : AHeap) : List ARes -> (List AV -> Prop) -> Prop
 | [], K => K []
 | .tmp t :: r, K => wv (get env t) fun av => outs env h r fun l => K (av :: l)
 | .cell t n :: r, K => wv (get env t) fun p => loaded h n p fun av => outs env h r fun l => K (av :: l)
def retv : List AV -> AV
 | [a] => a
 | l => .tuple l
def getFn (P : Program) (f : FuncId) : Option (Nat × ACode × List ARes) :=
 (P.funcs[f]?).bind fun fn => fn.body.bind fun c => (compCode P fn.ntmps c).bind fun ac => (compRes P fn.results.toList).bind fun rs => if fn.name == "runtime.NumGoroutine" then none else some (fn.ntmps, ac, rs)
theorem getFn_some {P : Program} {f : FuncId} {N : Nat} {ac : ACode} {rs : List ARes} (h : getFn P f = some (N, ac, rs)) :
  ∃ fn c, P.funcs[f]? = some fn /\ fn.body = some c /\ fn.ntmps = N /\ compCode P N c = some ac /\ compRes P fn.results.toList = some rs /\ (fn.name == "runtime.NumGoroutine") = false := by
 simp only [getFn, Option.bind_eq_some_iff] at h
 obtain ⟨fn, h1, c, h2, ac', h3, rs', h4, h5⟩ := h
 split at h5
 ·cases h5
 ·rename_i hn
  cases h5
  exact ⟨fn, c, h1, h2, rfl, h3, h4, by simpa using hn⟩
def envOf : Nat -> List AV -> Env
 | _, [] => []
 | k, a :: r => (k, a) :: envOf (k + 1) r
theorem get_envOf : ∀ (l : List AV) (k t : Nat) (av : AV), get (envOf k l) t = some av -> k <= t /\ l[t - k]? = some av
 | [], k, t, av, h => by simp [envOf, get] at h
 | a :: r, k, t, av, h => by
  simp only [envOf, get] at h
  split at h
  ·rename_i hk; subst hk; cases h; simp
  ·rename_i hk
   obtain ⟨h1, h2⟩ := get_envOf r (k + 1) t av h
   refine ⟨by omega, ?_⟩
   rw [show t - k = (t - (k + 1)) + 1 by omega]
   simpa using h2
def fnPost (rs : List ARes) (K : AV -> AHeap -> Prop) (e : Exit) (env : Env) (h : AHeap) : Prop :=
 match e with
 | .normal | .ret => outs env h rs fun l => K (retv l) h
 | _ => False
section
variable {P : Program} {σ : Sg} {h : AHeap} {env : Env} {N : Nat} {a : Act}
theorem outs_ok (hi : Inv h σ) {tmps : Array Value} (he : EnvRel σ env tmps) : ∀ {rl : List ResultVar} {rs : List ARes}, compRes P rl = some rs -> ∀ {K : List AV -> Prop}, outs env h rs K ->
  ∃ l xs, K l /\ xs.length = l.length /\ (∀ (i : Nat) (av : AV), l[i]? = some av -> ∃ x, xs[i]? = some x /\ Rel σ av x) /\
   (rl.mapM fun (r : ResultVar) => (match r with | .tmp t => pure (tmps.getD t undef) | .cell a t => do loadVar t (← asAddr (tmps.getD a undef)) : Sem Value)).run P σ.w = .ok xs σ.w
 | [], rs, hc, K, hk => by simp [compRes] at hc; subst hc; exact ⟨[], [], hk, rfl, fun i av h => by simp at h, rfl⟩
 | .tmp t :: r, rs, hc, K, hk => by
  simp only [compRes, Option.map_eq_some_iff] at hc
  obtain ⟨rs', hr, rfl⟩ := hc
  obtain ⟨av, hg, hk⟩ := wv_some hk
  obtain ⟨x, h1, h2⟩ := he t av hg
  obtain ⟨l, xs, q1, q2, q3, q4⟩ := outs_ok hi he hr hk
  refine ⟨av :: l, x :: xs, q1, by simp [q2], fun i b hb => ?_, ?_⟩
  ·cases i with
   | zero => simp at hb; subst hb; exact ⟨x, rfl, h2⟩
   | succ i => exact q3 i b (by simpa using hb)
  ·have : tmps.getD t undef = x := by simp [h1]
   simp only [List.mapM_cons, Sem.run_bind, Sem.run_pure, Result.andThen_ok, this]
   rw [q4]
   rfl
 | .cell a t :: r, rs, hc, K, hk => by
  simp only [compRes, Option.bind_eq_some_iff, Option.map_eq_some_iff] at hc
  obtain ⟨n, hn, rs', hr, rfl⟩ := hc
  obtain ⟨p, hg, hk⟩ := wv_some hk
  obtain ⟨px, h1, h2⟩ := he a p hg
  obtain ⟨av, y, hk, hrel, hload⟩ := load_ok (P := P) hi hn h2 hk
  obtain ⟨l, xs, q1, q2, q3, q4⟩ := outs_ok hi he hr hk
  refine ⟨av :: l, y :: xs, q1, by simp [q2], fun i b hb => ?_, ?_⟩
  ·cases i with
   | zero => simp at hb; subst hb; exact ⟨y, rfl, hrel⟩
   | succ i => exact q3 i b (by simpa using hb)
  ·have hpx : tmps.getD a undef = px := by simp [h1]
   have hp : ∃ ad, px = .pointer (some ad) := by
    cases h2 <;> first | exact ⟨_, rfl⟩ | (simp [loaded, place] at hk) | skip
    all_goals (rename_i hk0; simp [loaded, place] at hk0)
   obtain ⟨ad, rfl⟩ := hp
   have hl2 : (loadVar t ad).run P σ.w = .ok y σ.w := by simpa [Instr.loadAt, Instr.sureAddr] using hload
   have ha2 : (asAddr (.pointer (some ad))).run P σ.w = .ok ad σ.w := rfl
   simp only [List.mapM_cons, Sem.run_bind, hpx, ha2, Sem.run_pure, Result.andThen_ok, hl2]
   rw [q4]
   rfl
theorem fn_calls {f : FuncId} {ac : ACode} {rs : List ARes} (hf : getFn P f = some (N, ac, rs)) {args : List AV} {K : AV -> AHeap -> Prop} (hn : args.length <= N)
  (hbody : asem P N ac (fnPost rs K) (envOf 0 args) h) : ∀ (σ : Sg) (cargs : Array Value), Inv h σ -> Rels σ args cargs.toList ->
  Calls P f cargs σ.w fun e w' => ∃ σ' h' av x, e = .returned x /\ σ'.w = w' /\ Le σ σ' /\ Inv h' σ' /\ Rel σ' av x /\ K av h' := by
 intro σ cargs hi hr
 obtain ⟨fn, c, h1, h2, h3, h4, h5, h6⟩ := getFn_some hf
 have hsz : cargs.size = args.length := by simpa using hr.1
 have hst : St σ h (envOf 0 args) N { tmps := cargs ++ Array.replicate (fn.ntmps - cargs.size) undef, defers := [] } := by
  refine ⟨hi, fun t av hg => ?_, by simp; omega, rfl⟩
  obtain ⟨_, g2⟩ := get_envOf args 0 t av hg
  obtain ⟨x, q1, q2⟩ := hr.2 _ av g2
  refine ⟨x, ?_, q2⟩
  simp only [Nat.sub_zero] at q1
  have hlt : t < cargs.size := by
   have := (List.getElem?_eq_some_iff.1 q1).1
   simpa using this
  simp only [Array.getElem?_toList] at q1
  simp [Array.getElem?_append_left hlt, q1]
 refine calls_of_wp h1 h2 (wp_mono (hbody c h4 σ _ hst) ?_)
 intro e a' w' hh
 obtain ⟨g1, σ2, h2', env2, rfl, q2, q3, q4⟩ := hh
 have fin : (outs env2 h2' rs fun l => K (retv l) h2') -> a'.defers = [] /\ ∃ v, (results fn a'.tmps).run P σ2.w = .ok v σ2.w /\ ∃ σ' h' av x, Ending.returned v = .returned x /\ σ'.w = σ2.w /\ Le σ σ' /\ Inv h' σ' /\ Rel σ' av x /\ K av h' := by
  intro ho
  obtain ⟨l, xs, k1, k2, k3, k4⟩ := outs_ok (P := P) q3.inv q3.env h5 ho
  have hrun : (fn.results.mapM fun (r : ResultVar) => (match r with | .tmp t => pure (a'.tmps.getD t undef) | .cell a t => do loadVar t (← asAddr (a'.tmps.getD a undef)) : Sem Value)).run P σ2.w = .ok xs.toArray σ2.w := by
   rw [Array.mapM_eq_mapM_toList]
   simp only [Sem.run_map, k4, Result.andThen_ok]
  have hres : (results fn a'.tmps).run P σ2.w = .ok (if hx : xs.toArray.size = 1 then xs.toArray[0] else .tuple xs.toArray) σ2.w := by
   unfold results
   rw [Sem.run_bind]
   have := hrun
   refine Eq.trans (congrArg (fun r => Result.andThen r _) this) ?_
   simp only [Result.andThen_ok, Sem.run_pure]
  refine ⟨q3.defers, _, hres, σ2, h2', retv l, _, rfl, rfl, q2, q3.inv, ?_, k1⟩
  match l, xs, k2, k3 with
  | [b], [y], _, k3 =>
   obtain ⟨x, e1, e2⟩ := k3 0 b rfl
   simp at e1
   subst e1
   simpa [retv] using e2
  | [], [], _, _ => exact Rel.tuple_mk rfl fun i av hi => by simp at hi
  | b1 :: b2 :: l, y1 :: y2 :: xs, k2, k3 =>
   rw [dif_neg (by simp)]
   exact Rel.tuple_mk (by simpa using k2) fun i av hi => by
    obtain ⟨x, e1, e2⟩ := k3 i av hi
    exact ⟨x, by simpa using e1, e2⟩
 cases e with
 | normal => exact fin q4
 | ret => exact fin q4
 | panic _ => exact g1.elim
 | outgrown => exact g1.elim
 | exit _ => exact q4.elim
 | goto _ => exact q4.elim
theorem callable_of {f : FuncId} {ac : ACode} {rs : List ARes} (hf : getFn P f = some (N, ac, rs)) : Callable P f := by
 obtain ⟨fn, c, h1, h2, _, _, _, h6⟩ := getFn_some hf
 exact ⟨fn, h1, by rw [h2]; rfl, h6⟩
theorem call_of {f : FuncId} {ac : ACode} {rs : List ARes} (hf : getFn P f = some (N, ac, rs)) {args : List AV} {K : AV -> AHeap -> Prop} (hn : args.length <= N)
  (hbody : asem P N ac (fnPost rs K) (envOf 0 args) h) : ACall P f args h K := ⟨callable_of hf, fn_calls hf hn hbody⟩
theorem pure_of {gl : List (Nat × List AV)} {f : FuncId} {ac : ACode} {rs : List ARes} (hf : getFn P f = some (N, ac, rs)) {args : List AV} {R : AV -> Prop} (hn : args.length <= N)
  (hbody : asem P N ac (fnPost rs fun av _ => plain (wk av) = true /\ R (wk av)) (envOf 0 args) ⟨[], [], gl⟩) : PureC P gl f args R := by
 refine ⟨callable_of hf, fun w outer cargs ho hg hr => ?_⟩
 refine (fn_calls hf hn hbody (bare w outer) cargs (bare_inv ho hg) hr).mono fun e w' hq => ?_
 obtain ⟨σ', h', av, x, rfl, rfl, g2, g3, g4, g5, g6⟩ := hq
 refine ⟨wk av, x, rfl, ⟨g2.size, fun b hb => g2.whole b hb (fun o => bare_own w outer b o), g2.os, g2.tape, g2.output⟩, ?_, g6⟩
 refine g4.wk.down g5 rfl fun b o hbo => .inl ?_
 rw [g2.outer]; exact hbo
theorem pure_of_thaw {gl : List (Nat × List AV)} {f : FuncId} {ac : ACode} {rs : List ARes} (k : Nat) (hf : getFn P f = some (N, ac, rs)) {args : List AV} {R : AV -> Prop} (hn : args.length <= N)
  (hbody : asem P N ac (fnPost rs fun av h => plain (thawN k h (wk av)) = true /\ R (thawN k h (wk av))) (envOf 0 args) ⟨[], [], gl⟩) : PureC P gl f args R := by
 refine ⟨callable_of hf, fun w outer cargs ho hg hr => ?_⟩
 refine (fn_calls hf hn hbody (bare w outer) cargs (bare_inv ho hg) hr).mono fun e w' hq => ?_
 obtain ⟨σ', h', av, x, rfl, rfl, g2, g3, g4, g5, g6⟩ := hq
 refine ⟨_, x, rfl, ⟨g2.size, fun b hb => g2.whole b hb (fun o => bare_own w outer b o), g2.os, g2.tape, g2.output⟩, ?_, g6⟩
 have := Rel.thaw g3 k _ _ g4.wk g5
 rw [g2.outer] at this
 exact this
theorem asem_cond_b {c : AOpd} {x y : ACode} {Q : Exit -> Env -> AHeap -> Prop} {b : Bool} (hc : c.ev env = some (.v (.bool b))) (h1 : b = true -> asem P N x Q env h) (h2 : b = false -> asem P N y Q env h) : asem P N (.cond c x y) Q env h := by
 refine asem_cond ?_
 rw [hc]
 exact ⟨h1, h2⟩
end
structure A (P : Program) (o : AOp) (env : Env) (h : AHeap) (K : AV -> AHeap -> Prop) : Prop where
 out : aop P o env h K
structure V (P : Program) (l : List AOper) (env : Env) (h : AHeap) (K : Env -> AHeap -> Prop) : Prop where
 out : vops P l env h K
structure C (P : Program) (N : Nat) (ac : ACode) (Q : Exit -> Env -> AHeap -> Prop) (env : Env) (h : AHeap) : Prop where
 out : asem P N ac Q env h
section
variable {P : Program} {h : AHeap} {env : Env} {N : Nat} {K : AV -> AHeap -> Prop} {x y z : AOpd} {a b c : AV}
theorem a_call {g : FuncId} {f : AOpd} {args : List AOpd} {l : List AV} (hf : f.ev env = some (.clo (.func g) [] [])) (ha : evs env args = some l) (hk : ACall P g l h K) : A P (.call f args) env h K := ⟨by
 simp only [aop, hf, ha, wv, callOn, List.nil_append, List.append_nil]; exact hk⟩
theorem a_callv {g : FuncId} {f : AOpd} {args : List AOpd} {l r s : List AV} (hf : f.ev env = some (.clo (.func g) r s)) (ha : evs env args = some l) (hk : ACall P g (r ++ l ++ s) h K) : A P (.call f args) env h K := ⟨by
 simp only [aop, hf, ha, wv, callOn]; exact hk⟩
theorem a_minmax {mx : Bool} {args : List AOpd} {l : List AV} {v : Value} (ha : evs env args = some l) (hv : mmx mx l = some v) (hk : K (.v v) h) : A P (.minmax mx args) env h K := ⟨by simp only [aop, ha, hv, picked]; exact hk⟩
end
section
variable {P : Program} {h : AHeap} {env : Env} {N : Nat}
variable {Q : Exit -> Env -> AHeap -> Prop}
theorem c_region {ops : List AOper} (hv : V P ops env h fun env' h' => Q .normal env' h') : C P N (.region ops) Q env h := ⟨asem_region hv.out⟩
theorem c_skip (hq : Q .normal env h) : C P N .skip Q env h := ⟨asem_skip hq⟩
theorem c_exit {id : Nat} (hv : Q (.exit id) env h) : C P N (.exit id) Q env h := ⟨asem_exit hv⟩
theorem c_ret (hv : Q .ret env h) : C P N .ret Q env h := ⟨asem_ret hv⟩
theorem c_label {l : Nat} (hq : Q .normal env h) : C P N (.label l) Q env h := ⟨asem_label hq⟩
theorem c_goto {l : Nat} (hq : Q (.goto l) env h) : C P N (.goto l) Q env h := ⟨asem_goto hq⟩
end
end Go.Proofs.YtdpomombdeccpaaGreatDoor.Lift
