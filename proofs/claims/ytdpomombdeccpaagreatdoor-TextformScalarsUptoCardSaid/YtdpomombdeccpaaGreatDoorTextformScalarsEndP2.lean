/- Part 3 of the texts that prove TextformScalarsEnd. -/
import Derived.Test.YtdpomombdeccpaaGreatDoorTextformScalarsEndP1
import Derived.LoopN
namespace Go.Proofs.YtdpomombdeccpaaGreatDoor.Lift
open Go.RowKit
set_option linter.unusedVariables false
set_option linter.unusedSimpArgs false
set_option linter.unnecessarySimpa false
set_option linter.unusedSectionVars false
set_option maxRecDepth 100000
def cbin (op : BinOp) (x y : Value) : Option Value :=
 match op, x, y with
 | .eql, .string a, .string b => some (.bool (a.data.toList == b.data.toList))
 | .neq, .string a, .string b => some (.bool (!(a.data.toList == b.data.toList)))
 | .lss, .string a, .string b => some (.bool (Op.bytesLess a.data.toList b.data.toList))
 | .leq, .string a, .string b => some (.bool (Op.bytesLess a.data.toList b.data.toList || a.data.toList == b.data.toList))
 | .gtr, .string a, .string b => some (.bool (!(Op.bytesLess a.data.toList b.data.toList || a.data.toList == b.data.toList)))
 | .geq, .string a, .string b => some (.bool (!(Op.bytesLess a.data.toList b.data.toList)))
 | .add, .string a, .string b => if a.data.toList.length + b.data.toList.length <= 9223372036854775807 then some (.string ⟨⟨a.data.toList ++ b.data.toList⟩⟩) else none
 | .quo, .int k a, .int k' b => if k = k' /\ b ≠ 0 then some (.int k (k.wrap (a.tdiv b))) else none
 | .rem, .int k a, .int k' b => if k = k' /\ b ≠ 0 then some (.int k (a.tmod b)) else none
 | .shl, .int k a, .int _ b => if 0 <= b then some (.int k (k.wrap (a * 2 ^ min b.toNat k.bits))) else none
 | .shr, .int k a, .int _ b => if 0 <= b then some (.int k (a.fdiv (2 ^ min b.toNat k.bits))) else none
 | .add, .int k a, .int k' b => if k = k' then some (.int k (k.wrap (a + b))) else none
 | .sub, .int k a, .int k' b => if k = k' then some (.int k (k.wrap (a - b))) else none
 | .mul, .int k a, .int k' b => if k = k' then some (.int k (k.wrap (a * b))) else none
 | .and, .int k a, .int k' b => if k = k' then some (.int k (bitsOf .and k a b)) else none
 | .or, .int k a, .int k' b => if k = k' then some (.int k (bitsOf .or k a b)) else none
 | .xor, .int k a, .int k' b => if k = k' then some (.int k (bitsOf .xor k a b)) else none
 | .andNot, .int k a, .int k' b => if k = k' then some (.int k (bitsOf .andNot k a b)) else none
 | .eql, .int k a, .int k' b => if k = k' then some (.bool (a == b)) else none
 | .neq, .int k a, .int k' b => if k = k' then some (.bool (a != b)) else none
 | .lss, .int k a, .int k' b => if k = k' then some (.bool (decide (a < b))) else none
 | .leq, .int k a, .int k' b => if k = k' then some (.bool (decide (a <= b))) else none
 | .gtr, .int k a, .int k' b => if k = k' then some (.bool (decide (b < a))) else none
 | .geq, .int k a, .int k' b => if k = k' then some (.bool (decide (b <= a))) else none
 | _, _, _ => none
theorem cat_list (a b : ByteArray) : a ++ b = ⟨⟨a.data.toList ++ b.data.toList⟩⟩ := by
 apply ByteArray.ext
 apply Array.ext'
 rw [ByteArray.data_append, Array.toList_append]
theorem cbin_ok {op : BinOp} {x y r : Value} (h : cbin op x y = some r) : ∃ c : Prop, c /\ pbin op x y = some (c, r) := by
  unfold cbin at h
  split at h
  · cases h; exact ⟨True, trivial, by simp only [pbin, ByteArray.toList_eq]⟩
  · cases h; exact ⟨True, trivial, by simp only [pbin, ByteArray.toList_eq]⟩
  · cases h; exact ⟨True, trivial, by simp only [pbin, ByteArray.toList_eq]⟩
  · cases h; exact ⟨True, trivial, by simp only [pbin, ByteArray.toList_eq]⟩
  · cases h; exact ⟨True, trivial, by simp only [pbin, ByteArray.toList_eq]⟩
  · cases h; exact ⟨True, trivial, by simp only [pbin, ByteArray.toList_eq]⟩
  · split at h
    · rename_i a b hc
      cases h
      refine ⟨_, hc, ?_⟩
      simp only [pbin]
      rw [cat_list]
      rfl
    · cases h
  · split at h
    · rename_i hc; cases h; exact ⟨_, hc.2, by simp only [pbin]; rw [if_pos hc.1]⟩
    · cases h
  · split at h
    · rename_i hc; cases h; exact ⟨_, hc.2, by simp only [pbin]; rw [if_pos hc.1]⟩
    · cases h
  · split at h
    · rename_i hc; cases h; exact ⟨_, hc, by simp only [pbin]⟩
    · cases h
  · split at h
    · rename_i hc; cases h; exact ⟨_, hc, by simp only [pbin]⟩
    · cases h
  all_goals first
    | (cases h; done)
    | (split at h
       · rename_i hc; cases h; exact ⟨True, trivial, by simp only [pbin]; rw [if_pos hc]⟩
       · cases h)
def loadedF (h : AHeap) (n : Option Nat) (p : AV) : Option AV :=
 (place h p).bind fun q => match n with
  | none => q.1[q.2]?
  | some n => if q.2 + n <= q.1.length then some (.agg ((q.1.drop q.2).take n)) else none
theorem loadedF_ok {h : AHeap} {n : Option Nat} {p a : AV} {K : AV -> Prop} (he : loadedF h n p = some a) (hk : K a) : loaded h n p K := by
 simp only [loadedF, Option.bind_eq_some_iff] at he
 obtain ⟨⟨cells, off⟩, h1, h2⟩ := he
 simp only [loaded, h1]
 cases n with
 | none => simp only at h2 ⊢; simp only [h2]; exact hk
 | some n =>
  simp only at h2 ⊢
  split at h2
  ·rename_i hc; cases h2; exact ⟨hc, hk⟩
  ·cases h2
def storedF (h : AHeap) (size : Nat) (p x : AV) : Option AHeap :=
 match p with
 | .ptr n off => match h.blks[n]? with
  | some (some cells) => if noIt cells = true /\ x.cells.length = size /\ off + size <= cells.length /\ x.isTuple = false then some ⟨h.blks.set n (some (splice cells off x.cells)), h.bufs, h.globs⟩ else if size = 0 /\ x.cells = [] /\ x.isTuple = false then some h else none
  | _ => none
 | _ => none
theorem storedF_ok {h h' : AHeap} {n : Nat} {p x : AV} {K : AHeap -> Prop} (he : storedF h n p x = some h') (hk : K h') : stored h n p x K := by
 unfold storedF at he
 unfold stored
 split at he
 ·split at he
  ·rename_i hb
   simp only [hb]
   split at he
   ·rename_i hc; cases he; exact .inl ⟨hc, hk⟩
   ·split at he
    ·rename_i hc; cases he; exact .inr ⟨hc, hk⟩
    ·cases he
  ·cases he
 ·cases he
def binnedF (op : BinOp) (x y : AV) : Option AV :=
 match x, y with
 | .v a, .v b => (cbin op a b).map .v
 | _, _ => none
theorem binnedF_ok {op : BinOp} {x y a : AV} {K : AV -> Prop} (he : binnedF op x y = some a) (hk : K a) : binned op x y K := by
 unfold binnedF at he
 split at he
 ·simp only [Option.map_eq_some_iff] at he
  obtain ⟨r, h1, rfl⟩ := he
  obtain ⟨c, hc, hp⟩ := cbin_ok h1
  simp only [binned, hp]
  exact ⟨hc, hk⟩
 ·cases he
def eqF (c : EqK) (x y : AV) : Option Bool :=
 match c, x, y with
 | .bool, .v (.bool a), .v (.bool b) => some (a == b)
 | .slice, .nil, .nil => some true
 | .slice, .sl (_ :: _) _, .nil => some false
 | .slice, .nil, .sl (_ :: _) _ => some false
 | .slice, .row _ _ _ _ _, .nil => some false
 | .slice, .nil, .row _ _ _ _ _ => some false
 | .func, .clo _ _ _, .v .nilFunc => some false
 | .func, .v .nilFunc, .clo _ _ _ => some false
 | .func, .v .nilFunc, .v .nilFunc => some true
 | .ptr, .ptr _ _, .v (.pointer none) => some false
 | .ptr, .elt _ _, .v (.pointer none) => some false
 | .ptr, .v (.pointer none), .v (.pointer none) => some true
 | .iface, .iface _ _, .v .nilIface => some false
 | .iface, .v .nilIface, .iface _ _ => some false
 | .iface, .v .nilIface, .v .nilIface => some true
 | .flat ks, .agg xs, .agg ys => flatEq ks xs ys
 | _, _, _ => none
theorem eqF_ok {c : EqK} {x y : AV} {b : Bool} {K : Bool -> Prop} (he : eqF c x y = some b) (hk : K b) : eqOf c x y K := by
 unfold eqF at he
 split at he <;> first | (cases he; done) | (cases he; exact hk) | (cases he; exact .inl ⟨by simp, hk⟩) | (simp only [eqOf, he, flatOn]; exact hk)
def unF (op : UnOp) (x : AV) : Option AV :=
 match op, x with
 | .not, .v (.bool b) => some (.v (.bool (!b)))
 | .neg, .v (.int k n) => some (.v (.int k (k.wrap (0 - n))))
 | .xor, .v (.int k n) => some (.v (.int k (bitsOf .xor k (if k.signed then -1 else k.max) n)))
 | _, _ => none
theorem unF_ok {op : UnOp} {x a : AV} {K : AV -> Prop} (he : unF op x = some a) (hk : K a) : unned op x K := by
 unfold unF at he
 split at he <;> first | (cases he; done) | (cases he; exact hk)
def elsBytes : List (List AV) -> Option (List UInt8)
 | [] => some []
 | [.v (.int .u8 n)] :: r => if 0 <= n /\ n < 256 then (elsBytes r).map fun l => UInt8.ofNat n.toNat :: l else none
 | _ => none
theorem elsBytes_ok : ∀ {els : List (List AV)} {l : List UInt8}, elsBytes els = some l -> els = byteEls l
 | [], l, h => by cases h; rfl
 | el :: r, l, h => by
  unfold elsBytes at h
  split at h
  ·rename_i heq; cases heq
  ·rename_i n r' heq
   cases heq
   split at h
   ·rename_i hn
    simp only [Option.map_eq_some_iff] at h
    obtain ⟨l', h1, rfl⟩ := h
    rw [elsBytes_ok h1]
    have : ((UInt8.ofNat n.toNat).toNat : Int) = n := by
     rw [UInt8.toNat_ofNat']; omega
    simp only [byteEls, List.map_cons, this]
   ·cases h
  ·cases h
def convF (c : CK) (x : AV) : Option AV :=
 match c, x with
 | .num k, .v (.int _ n) => some (.v (.int k (k.wrap n)))
 | .chr, .v (.int _ n) => some (.v (.string (Utf8.encode n)))
 | .same, .v (.string s) => some (.v (.string s))
 | .str, .nil => some (.v (.string ⟨⟨[]⟩⟩))
 | .str, .sl els _ => (elsBytes els).map fun l => .v (.string ⟨⟨l⟩⟩)
 | _, _ => none
theorem convF_ok {c : CK} {x a : AV} {K : AV -> Prop} (he : convF c x = some a) (hk : K a) : conved c x K := by
 unfold convF at he
 split at he
 ·cases he; exact hk
 ·cases he; exact hk
 ·cases he; exact hk
 ·cases he; exact hk
 ·simp only [Option.map_eq_some_iff] at he
  obtain ⟨l, h1, rfl⟩ := he
  exact ⟨l, elsBytes_ok h1, hk⟩
 ·cases he
def cutS (p : AV) (lo hi : Option AV) : Option AV :=
 match p with
 | .v (.string s) => (boundOf 0 lo).bind fun l => (boundOf s.data.toList.length hi).bind fun u =>
  if 0 <= l /\ l <= u /\ u <= (s.data.toList.length : Int) then some (.v (.string ⟨⟨(s.data.toList.take u.toNat).drop l.toNat⟩⟩)) else none
 | _ => none
theorem cut_same (s : ByteArray) (l u : Nat) : s.extract l u = ⟨⟨(s.data.toList.take u).drop l⟩⟩ := by
 apply ByteArray.ext
 apply Array.ext'
 rw [ByteArray.data_extract]
 simp [List.extract, List.drop_take]
theorem cutS_ok {p a : AV} {lo hi : Option AV} {K : AV -> Prop} (he : cutS p lo hi = some a) (hk : K a) : slicedS p lo hi K := by
 unfold cutS at he
 split at he
 ·rename_i s
  simp only [Option.bind_eq_some_iff] at he
  obtain ⟨l, h1, u, h2, h3⟩ := he
  split at h3
  ·rename_i hc
   cases h3
   have hs : s.data.toList.length = s.size := Array.length_toList
   rw [hs] at h2 hc
   simp only [slicedS, h1, h2]
   rw [cut_same]
   exact ⟨hc, hk⟩
  ·cases h3
 ·cases he
def sized (size : Nat) : List (List AV) -> Bool
 | [] => true
 | el :: r => decide (el.length = size) && sized size r
theorem sized_ok {size : Nat} : ∀ {l : List (List AV)}, sized size l = true -> ∀ el ∈ l, el.length = size
 | [], _, el, h => by simp at h
 | a :: r, hs, el, h => by
  simp only [sized, Bool.and_eq_true, decide_eq_true_eq] at hs
  rcases List.mem_cons.1 h with rfl | h
  ·exact hs.1
  ·exact sized_ok hs.2 el h
def cutV (size : Nat) (p : AV) (lo hi mx : Option AV) : Option AV :=
 match p, mx with
 | .nil, _ => (boundOf 0 lo).bind fun l => (boundOf 0 hi).bind fun u => (boundOf 0 mx).bind fun m => if l = 0 /\ u = 0 /\ m = 0 then some .nil else none
 | .sl els tok, none => (boundOf 0 lo).bind fun l => (boundOf els.length hi).bind fun u =>
  if (0 <= l /\ l <= u /\ u <= (els.length : Int)) /\ sized size els = true then some (.sl ((els.take u.toNat).drop l.toNat) (match lo, hi with | none, none => tok | _, _ => .no)) else none
 | .sl els tok, some (.v (.int _ m)) => (boundOf 0 lo).bind fun l => (boundOf els.length hi).bind fun u =>
  if (0 <= l /\ l <= u /\ u <= (els.length : Int)) /\ sized size els = true /\ m = u /\ hi.isSome = true then some (.sl ((els.take u.toNat).drop l.toNat) .full) else none
 | .row n off sz len cap, none => (boundOf 0 lo).bind fun l => (boundOf len hi).bind fun u =>
  if (0 <= l /\ l <= u /\ u <= (len : Int)) /\ sz = size then (if l < (len : Int) then some (.row n (off + l.toNat * size) size (u.toNat - l.toNat) (cap - l.toNat)) else some (.sl [] .no))
  else if (0 <= l /\ l < u /\ u <= (cap : Int) /\ hi.isSome = true) /\ sz = size then some (.row n (off + l.toNat * size) size (u.toNat - l.toNat) (cap - l.toNat)) else none
 | .row n off sz len cap, some (.v (.int _ m)) => (boundOf 0 lo).bind fun l => (boundOf len hi).bind fun u =>
  if (0 <= l /\ l <= u /\ u <= (len : Int)) /\ sz = size /\ m = u /\ hi.isSome = true then (if l < u then some (.row n (off + l.toNat * size) size (u.toNat - l.toNat) (u.toNat - l.toNat)) else some (.sl [] .full))
  else if (0 <= l /\ l <= u /\ u <= (len : Int)) /\ sz = size /\ u < m /\ m <= (len : Int) /\ hi.isSome = true then some (.row n (off + l.toNat * size) size (u.toNat - l.toNat) (m.toNat - l.toNat)) else none
 | .bb (.raw id n) [] u, none => match lo, hi with
  | none, some (.v (.int .i64 0)) => if size = 1 then some (.bb (.own id) [] u) else none
  | _, _ => none
 | _, _ => none
theorem cutV_ok {size : Nat} {p a : AV} {lo hi mx : Option AV} {K : AV -> Prop} (he : cutV size p lo hi mx = some a) (hk : K a) : slicedV size p lo hi mx K := by
 unfold cutV at he
 split at he
 ·simp only [Option.bind_eq_some_iff] at he
  obtain ⟨l, h1, u, h2, m, h3, h4⟩ := he
  split at h4
  ·rename_i hc; cases h4; simp only [slicedV, h1, h2, h3]; exact ⟨hc, hk⟩
  ·cases h4
 ·simp only [Option.bind_eq_some_iff] at he
  obtain ⟨l, h1, u, h2, h4⟩ := he
  split at h4
  ·rename_i hc; cases h4; simp only [slicedV, h1, h2]; exact ⟨hc.1, sized_ok hc.2, hk⟩
  ·cases h4
 ·simp only [Option.bind_eq_some_iff] at he
  obtain ⟨l, h1, u, h2, h4⟩ := he
  split at h4
  ·rename_i hc; cases h4; simp only [slicedV, h1, h2]
   refine ⟨hc.1, sized_ok hc.2.1, hc.2.2.1, ?_, hk⟩
   intro hn; rw [hn] at hc; exact absurd hc.2.2.2 (by simp)
  ·cases h4
 ·simp only [Option.bind_eq_some_iff] at he
  obtain ⟨l, h1, u, h2, h4⟩ := he
  split at h4
  ·rename_i hc
   simp only [slicedV, h1, h2]
   refine .inl ⟨hc.1, hc.2, ?_⟩
   split at h4
   ·rename_i hl; cases h4; rw [if_pos hl]; exact hk
   ·rename_i hl; cases h4; rw [if_neg hl]; exact hk
  ·split at h4
   ·rename_i hc
    cases h4
    simp only [slicedV, h1, h2]
    exact .inr ⟨⟨hc.1.1, hc.1.2.1, hc.1.2.2.1, by trivial, fun hn => by rw [hn] at hc; exact absurd hc.1.2.2.2 (by simp)⟩, hc.2, hk⟩
   ·cases h4
 ·simp only [Option.bind_eq_some_iff] at he
  obtain ⟨l, h1, u, h2, h4⟩ := he
  split at h4
  ·rename_i hc
   simp only [slicedV, h1, h2]
   refine .inl ⟨hc.1, hc.2.1, .inl ⟨⟨hc.2.2.1, fun hn => by rw [hn] at hc; exact absurd hc.2.2.2 (by simp)⟩, ?_⟩⟩
   split at h4
   ·rename_i hl; cases h4; rw [if_pos hl]; exact hk
   ·rename_i hl; cases h4; rw [if_neg hl]; exact hk
  ·split at h4
   ·rename_i hc
    cases h4
    simp only [slicedV, h1, h2]
    exact .inl ⟨hc.1, hc.2.1, .inr ⟨⟨hc.2.2.1, hc.2.2.2.1, fun hn => by rw [hn] at hc; exact absurd hc.2.2.2.2 (by simp)⟩, hk⟩⟩
   ·cases h4
 ·split at he
  ·split at he
   ·rename_i hs; cases he; exact ⟨hs, rfl, rfl, rfl, hk⟩
   ·cases he
  ·cases he
 ·cases he
def moveF (n : Nat) (p : AV) : Option AV :=
 match p with
 | .ptr k off => some (.ptr k (off + n))
 | .elt cells off => some (.elt cells (off + n))
 | _ => none
theorem moveF_ok {n : Nat} {p a : AV} {K : AV -> Prop} (he : moveF n p = some a) (hk : K a) : moved n p K := by
 unfold moveF at he
 split at he <;> first | (cases he; done) | (cases he; exact hk)
def partF (n : Option Nat) (off : Nat) (x : AV) : Option AV :=
 match x, n with
 | .agg cells, none => cells[off]?
 | .agg cells, some n => if off + n <= cells.length then some (.agg ((cells.drop off).take n)) else none
 | _, _ => none
theorem partF_ok {n : Option Nat} {off : Nat} {x a : AV} {K : AV -> Prop} (he : partF n off x = some a) (hk : K a) : parted n off x K := by
 unfold partF at he
 split at he
 ·simp only [parted, he]; exact hk
 ·split at he
  ·rename_i hc; cases he; exact ⟨hc, hk⟩
  ·cases he
 ·cases he
def idxSF (p i : AV) : Option AV :=
 match p, i with
 | .v (.string s), .v (.int _ n) => if 0 <= n /\ n < (s.data.toList.length : Int) then some (.v (.int .u8 (byteAt s n.toNat))) else none
 | _, _ => none
theorem idxSF_ok {p i a : AV} {K : AV -> Prop} (he : idxSF p i = some a) (hk : K a) : indexedS p i K := by
 unfold idxSF at he
 split at he
 ·rename_i s _ n
  split at he
  ·rename_i hc
   cases he
   have hs : s.data.toList.length = s.size := Array.length_toList
   rw [hs] at hc
   exact ⟨hc, hk⟩
  ·cases he
 ·cases he
def idxVF (len size : Nat) (n : Option Nat) (p i : AV) : Option AV :=
 match i with
 | .v (.int _ j) => if 0 <= j /\ j < (len : Int) then partF n (j.toNat * size) p else none
 | _ => none
theorem idxVF_ok {len size : Nat} {n : Option Nat} {p i a : AV} {K : AV -> Prop} (he : idxVF len size n p i = some a) (hk : K a) : indexedV len size n p i K := by
 unfold idxVF at he
 split at he
 ·split at he
  ·rename_i hc; exact ⟨hc, partF_ok he hk⟩
  ·cases he
 ·cases he
def idxF (size : Nat) (p i : AV) : Option AV :=
 match p, i with
 | .sl els _, .v (.int _ n) => if (0 <= n /\ n < (els.length : Int)) /\ (els.getD n.toNat []).length = size then some (.elt (els.getD n.toNat []) 0) else none
 | .row r off sz len _, .v (.int _ n) => if (0 <= n /\ n < (len : Int)) /\ sz = size then some (.ptr r (off + n.toNat * size)) else none
 | _, _ => none
theorem idxF_ok {size : Nat} {p i a : AV} {K : AV -> Prop} (he : idxF size p i = some a) (hk : K a) : indexed size p i K := by
 unfold idxF at he
 split at he
 ·split at he
  ·rename_i hc; cases he; exact ⟨hc.1, hc.2, hk⟩
  ·cases he
 ·split at he
  ·rename_i hc; cases he; exact ⟨hc.1, hc.2, hk⟩
  ·cases he
 ·cases he
def idxAF (len size : Nat) (p i : AV) : Option AV :=
 match i with
 | .v (.int _ n) => if 0 <= n /\ n < (len : Int) then moveF (n.toNat * size) p else none
 | _ => none
theorem idxAF_ok {len size : Nat} {p i a : AV} {K : AV -> Prop} (he : idxAF len size p i = some a) (hk : K a) : indexedA len size p i K := by
 unfold idxAF at he
 split at he
 ·split at he
  ·rename_i hc; exact ⟨hc, moveF_ok he hk⟩
  ·cases he
 ·cases he
def assertF (t : TypeId) (ok : Bool) (zero x : AV) : Option AV :=
 match x, ok with
 | .iface u y, true => some (if u = t then .tuple [y, .v (.bool true)] else .tuple [zero, .v (.bool false)])
 | .iface u y, false => if u = t then some y else none
 | .v .nilIface, true => some (.tuple [zero, .v (.bool false)])
 | _, _ => none
theorem assertF_ok {t : TypeId} {ok : Bool} {zero x a : AV} {K : AV -> Prop} (he : assertF t ok zero x = some a) (hk : K a) : asserted t ok zero x K := by
 unfold assertF at he
 split at he
 ·cases he
  simp only [asserted]
  split
  ·rename_i hu; rw [if_pos hu] at hk; exact hk
  ·rename_i hu; rw [if_neg hu] at hk; exact ⟨by simp, hk⟩
 ·split at he
  ·rename_i hu; cases he; simp only [asserted]; rw [if_pos hu]; exact hk
  ·cases he
 ·cases he; exact ⟨rfl, hk⟩
 ·cases he
def extractF (i : Nat) (x : AV) : Option AV :=
 match x with
 | .tuple vs => vs[i]?
 | _ => none
theorem extractF_ok {i : Nat} {x a : AV} {K : AV -> Prop} (he : extractF i x = some a) (hk : K a) : extracted i x K := by
 unfold extractF at he
 split at he
 ·simp only [extracted, he]; exact hk
 ·cases he
def lenF (str : Bool) (x : AV) : Option AV :=
 match str, x with
 | true, .v (.string s) => some (.v (.int .i64 s.data.toList.length))
 | false, .nil => some (.v (.int .i64 0))
 | false, .sl els _ => some (.v (.int .i64 els.length))
 | false, .row _ _ _ len _ => some (.v (.int .i64 len))
 | false, .bb .nil [] _ => some (.v (.int .i64 0))
 | false, .bb (.own _) els _ => some (.v (.int .i64 els.length))
 | _, _ => none
theorem lenF_ok {s : Bool} {x a : AV} {K : AV -> Prop} (he : lenF s x = some a) (hk : K a) : lenned s x K := by
 unfold lenF at he
 split at he
 ·cases he
  rename_i s
  have hs : s.data.toList.length = s.size := Array.length_toList
  rw [hs] at hk; exact hk
 ·cases he; exact hk
 ·cases he; exact hk
 ·cases he; exact hk
 ·cases he; exact hk
 ·cases he; exact hk
 ·cases he
def appF (h : AHeap) (size bytes : Nat) (x y : AV) : Option (AV × AHeap) :=
 (elsH h size y).bind fun ys => if sized size ys = true then
  match x with
  | .nil => if ys.length * bytes <= 140737488355328 then some (.sl ys (.own h.bufs.length), ⟨h.blks, h.bufs ++ [(ys.length, size)], h.globs⟩) else none
  | .sl els .full => if sized size els = true /\ (els.length + ys.length) * bytes <= 140737488355328 then (match ys with
   | [] => some (.sl els .full, h)
   | _ :: _ => some (.sl (els ++ ys) (.own h.bufs.length), ⟨h.blks, h.bufs ++ [(els.length + ys.length, size)], h.globs⟩)) else none
  | .sl els (.own id) => if sized size els = true /\ h.bufs[id]? = some (els.length, size) /\ (els.length + ys.length) * bytes <= 140737488355328 then some (.sl (els ++ ys) (.own id), ⟨h.blks, h.bufs.set id (els.length + ys.length, size), h.globs⟩) else none
  | .row n off sz len cap => if sz = size /\ (len + ys.length) * bytes <= 140737488355328 then match h.blks[n]? with
    | some (some cells) => if noIt cells = true /\ off + len * size <= cells.length then
      if len + ys.length <= cap then some (.row n off size (len + ys.length) cap, ⟨h.blks.set n (some (cells.take (off + len * size) ++ ys.flatten ++ cells.drop (off + len * size + ys.flatten.length))), h.bufs, h.globs⟩)
      else if off = 0 /\ cells.length = len * size then some (.row h.blks.length 0 size (len + ys.length) (len + ys.length), ⟨h.blks.set n (some []) ++ [some (cells ++ ys.flatten)], h.bufs, h.globs⟩) else none
     else none
    | _ => none
   else none
  | _ => none
 else none
theorem appF_ok {h h' : AHeap} {size bytes : Nat} {x y a : AV} {K : AV -> AHeap -> Prop} (he : appF h size bytes x y = some (a, h')) (hk : K a h') : appended h size bytes x y K := by
 simp only [appF, Option.bind_eq_some_iff] at he
 obtain ⟨ys, h1, h2⟩ := he
 simp only [appended, h1]
 split at h2
 ·rename_i hs
  refine ⟨sized_ok hs, ?_⟩
  split at h2
  ·split at h2
   ·rename_i hc; cases h2; exact ⟨hc, hk⟩
   ·cases h2
  ·split at h2
   ·rename_i hc
    refine ⟨sized_ok hc.1, hc.2, ?_⟩
    split at h2
    ·cases h2; exact ⟨fun _ => hk, fun h => absurd rfl h⟩
    ·cases h2; exact ⟨fun h => by simp at h, fun _ => hk⟩
   ·cases h2
  ·split at h2
   ·rename_i hc; cases h2; exact ⟨sized_ok hc.1, hc.2.1, hc.2.2, hk⟩
   ·cases h2
  ·split at h2
   ·rename_i hc
    refine ⟨hc.1, hc.2, ?_⟩
    split at h2
    ·rename_i hb
     simp only [hb]
     split at h2
     ·rename_i hin
      refine ⟨hin, ?_⟩
      split at h2
      ·rename_i hl; cases h2; rw [if_pos hl]; exact hk
      ·rename_i hl
       rw [if_neg hl]
       split at h2
       ·rename_i hw; cases h2; exact ⟨hw, hk⟩
       ·cases h2
     ·cases h2
    ·cases h2
   ·cases h2
  ·cases h2
 ·cases h2
def appRF (h : AHeap) (size bytes : Nat) (x y : AV) : Option (AV × AHeap) :=
 (elsH h size y).bind fun ys => if sized size ys = true /\ ys.length ≠ 0 then
  match x with
  | .nil => if ys.length * bytes <= 140737488355328 then some (.row h.blks.length 0 size ys.length ys.length, ⟨h.blks ++ [some ys.flatten], h.bufs, h.globs⟩) else none
  | .sl els .full => if sized size els = true /\ (els.length + ys.length) * bytes <= 140737488355328 then some (.row h.blks.length 0 size (els.length + ys.length) (els.length + ys.length), ⟨h.blks ++ [some (els.flatten ++ ys.flatten)], h.bufs, h.globs⟩) else none
  | _ => none
 else none
theorem appRF_ok {h h' : AHeap} {size bytes : Nat} {x y a : AV} {K : AV -> AHeap -> Prop} (he : appRF h size bytes x y = some (a, h')) (hk : K a h') : appendedR h size bytes x y K := by
 simp only [appRF, Option.bind_eq_some_iff] at he
 obtain ⟨ys, h1, h2⟩ := he
 simp only [appendedR, h1]
 split at h2
 ·rename_i hs
  refine ⟨⟨sized_ok hs.1, fun hn => hs.2 (by rw [hn]; rfl)⟩, ?_⟩
  split at h2
  ·split at h2
   ·rename_i hc; cases h2; exact ⟨hc, hk⟩
   ·cases h2
  ·split at h2
   ·rename_i hc; cases h2; exact ⟨sized_ok hc.1, hc.2, hk⟩
   ·cases h2
  ·cases h2
 ·cases h2
def DoesH (P : Program) (F G : Env) (h : AHeap) (H' : Option AHeap) (o : AOper) : Prop :=
 ∃ av h2, H' = some h2 /\ ((∃ cells n, o.op = .alloc cells /\ h.blks[n]? = some none /\ av = .ptr n 0 /\ h2 = ⟨h.blks.set n (some cells), h.bufs, h.globs⟩) ∨ aop P o.op G h (fun a b => a = av /\ b = h2)) /\ ∀ d, o.dst = some d -> get F d = some av
def FactH (P : Program) (F G : Env) (h : AHeap) (H' : Option AHeap) (o : AOper) : Prop :=
 let skip := H' = some h /\ ∀ d, o.dst = some d -> get F d = some (.tuple [])
 match o.guard with
 | none => DoesH P F G h H' o
 | some (t, want) => (∃ b, get G t = some (.v (.bool b)) /\ (b = want -> DoesH P F G h H' o) /\ (b ≠ want -> skip)) ∨ (get G t = some (.tuple []) /\ skip)
def wbUp (L : Nat -> Bool) (i : Nat) : Nat -> Bool := fun k => if k = i then true else L k
structure Web (P : Program) (ord : List (List Nat)) (al : List AOper) (env F : Env) (G : Nat -> Env) (h h' : AHeap) (n : Nat) (H : (Nat -> Bool) -> Option AHeap) : Prop where
 cong : ∀ L L', (∀ i, i < al.length -> L i = L' i) -> H L = H L'
 first : H (fun _ => false) = some ⟨h.blks ++ List.replicate n none, h.bufs, h.globs⟩
 last : ∀ hL, H (fun _ => true) = some hL -> hL = h'
 keep : ∀ t, writes t al = false -> get F t = get env t
 step : ∀ (L : Nat -> Bool) (i : Nat) (o : AOper) (hL : AHeap), al[i]? = some o -> L i = false -> (∀ k j, k < al.length -> L k = true -> j ∈ ord.getD k [] -> L j = true) -> (∀ k ∈ ord.getD i [], L k = true) -> H L = some hL -> FactH P F (G i) hL (H (wbUp L i)) o
section
variable {P : Program} {σ : Sg} {h : AHeap} {env : Env} {N : Nat} {a : Act}
def unwr (ops : Array Oper) (m : Nat) (listed : Array Bool) (t : Tmp) : Prop := ∀ k, k < m -> (ops[k]?).bind (·.dst) = some t -> listed.getD k true = false
theorem get_app (A B : Env) (t : Nat) : get (A ++ B) t = (get A t).or (get B t) := by
 induction A with
 | nil => simp [get]
 | cons q A ih =>
  obtain ⟨k, v⟩ := q
  simp only [List.cons_append, get]
  split
  ·simp
  ·exact ih
structure HalfS (ops : Array Oper) (m : Nat) (e0 F : Env) (H : (Nat -> Bool) -> Option AHeap) (N : Nat) (listed : Array Bool) (σ : Sg) (a : Act) : Prop where
 inv : ∃ h, H (fun k => listed.getD k true) = some h /\ Inv h σ
 env : EnvRel σ (filt (seen ops m listed) F) a.tmps
 old : EnvRel σ (filt (unwr ops m listed) e0) a.tmps
 size : a.tmps.size = N
 defers : a.defers = []
 closed : ∀ k i : Nat, k < m -> listed.getD k true = true -> i ∈ (ordOf ops m).getD k [] -> listed.getD i true = true
set_option maxHeartbeats 1000000 in
theorem head_anyS {md : Region.Mode} {ops : Array Oper} {al : List AOper} {env F : Env} {G : Nat -> Env} {h h' : AHeap} {n : Nat} {H : (Nat -> Bool) -> Option AHeap} (hq : compOps P N ops (ops.toList.take al.length) = some al) (hm : al.length <= ops.size) (ho : OrderB ops al.length)
  (hG : ∀ i o, al[i]? = some o -> ∀ t ∈ o.looks, ((∀ k, k < al.length -> (ops[k]?).bind (·.dst) = some t -> ahead ops i k = true) /\ get (G i) t = get F t) ∨ ((∀ k, k < al.length -> (ops[k]?).bind (·.dst) = some t -> k = i ∨ ahead ops k i = true) /\ get (G i) t = get env t))
  (hF : Web P (clo (ordOf ops al.length)) al env F G h h' n H)
  {Q : Exit -> Act -> World -> Prop} {σ₀ : Sg} (hend : ∀ σ a, Le σ₀ σ -> St σ h' F N a -> wpOps P ops Q (List.range' al.length (ops.size - al.length)) a σ.w) :
  ∀ (f : Nat) (listed : Array Bool) (a : Act) (σ : Sg), listed.size = ops.size -> (∀ i, al.length <= i -> i < ops.size -> listed.getD i true = false) -> Le σ₀ σ -> HalfS ops al.length env F H N listed σ a -> listed.toList.count false <= f -> wpAny P md ops Q f listed a σ.w := by
 obtain ⟨hlen, hget⟩ := compOps_get hq
 have hfin : ∀ (listed : Array Bool) (a : Act) (σ : Sg), HalfS ops al.length env F H N listed σ a -> (∀ i, i < al.length -> listed.getD i true = true) -> St σ h' F N a := by
  intro listed a σ hh hall
  obtain ⟨hj, h1, h2⟩ := hh.inv
  rw [hF.cong _ (fun _ => true) hall] at h1
  have := hF.last hj h1
  subst this
  exact ⟨h2, fun t av hg => hh.env t av (by rw [get_filt, if_pos (show seen ops al.length listed t from fun k hk _ => hall k hk)]; exact hg), hh.size, hh.defers⟩
 intro f
 induction f with
 | zero =>
  intro listed a σ hsz htail hle hh hc
  have hall : ∀ i, i < ops.size -> listed.getD i true = true := by
   intro i hi
   cases hb : listed.getD i true with
   | true => rfl
   | false =>
    exfalso
    have hmem : false ∈ listed.toList := by
     rw [List.mem_iff_getElem?]
     refine ⟨i, ?_⟩
     have : listed[i]? = some listed[i] := Array.getElem?_eq_getElem (by omega)
     simp only [Array.getD_eq_getD_getElem?, this, Option.getD_some] at hb
     simp only [Array.getElem?_toList, this, hb]
    have := List.count_pos_iff.2 hmem
    omega
  have hmn : al.length = ops.size := by
   by_cases he : al.length = ops.size
   ·exact he
   ·have := htail al.length (Nat.le_refl _) (by omega)
    rw [hall _ (by omega)] at this; cases this
  have := hend σ a hle (hfin listed a σ hh fun i hi => hall i (by omega))
  refine tail_any ho 0 al.length listed a σ.w (Nat.le_refl _) hm (by omega) hsz (fun i hi => by rw [hall i hi]; simp; omega) this
 | succ f ih =>
  intro listed a σ hsz htail hle hh hc
  by_cases hall : ∀ i, i < al.length -> listed.getD i true = true
  ·refine tail_any ho (f + 1) al.length listed a σ.w (Nat.le_refl _) hm ?_ hsz (fun i hi => ?_) (hend σ a hle (hfin listed a σ hh hall))
   ·have hcnt : ops.size - al.length <= listed.toList.count false := by
     have hsplit : listed.toList = listed.toList.take al.length ++ listed.toList.drop al.length := (List.take_append_drop _ _).symm
     rw [hsplit, List.count_append]
     have hd : listed.toList.drop al.length = List.replicate (ops.size - al.length) false := by
      apply List.eq_replicate_iff.2
      refine ⟨by simp [hsz], fun b hb => ?_⟩
      obtain ⟨i, hi⟩ := List.mem_iff_getElem?.1 hb
      rw [List.getElem?_drop] at hi
      have hlt := (List.getElem?_eq_some_iff.1 hi).1
      have := htail (al.length + i) (by omega) (by simpa [hsz] using hlt)
      simp only [Array.getElem?_toList] at hi
      simp only [Array.getD_eq_getD_getElem?, hi, Option.getD_some] at this
      exact this
     rw [hd, List.count_replicate]
     simp
    omega
   ·by_cases him : i < al.length
    ·rw [hall i him]; simp [him]
    ·rw [htail i (by omega) hi]; simp [him]
  ·obtain ⟨i0, hi0, hn0⟩ : ∃ i, i < al.length /\ listed.getD i true = false := by
    false_or_by_contra
    rename_i hcon
    exact hall fun i hi => by
     cases hb : listed.getD i true with
     | true => rfl
     | false => exact absurd ⟨i, hi, hb⟩ hcon
   refine ⟨fun hnil => ?_, fun i hi => ?_⟩
   ·obtain ⟨i, hi⟩ := least_ready (md := md) ho hsz ⟨i0, by omega, hn0⟩
    rw [hnil] at hi; cases hi
   ·obtain ⟨hun, o, hoi, hdeps⟩ := mem_ready'.1 hi
    have hin := (Array.getElem?_eq_some_iff.1 hoi).1
    have him : i < al.length := by
     by_cases h' : i < al.length
     ·exact h'
     ·rcases ho.tail i hin (by omega) with h | ⟨hmi, h⟩ | ⟨hmi, h⟩
      ·exact absurd hi (ahead_not (h i0 (by omega)) hn0)
      ·exact absurd hi (ahead_not h (htail (i - 1) (by omega) (by omega)))
      ·subst hmi; exact absurd hi (ahead_all h hi0 hn0 fun k j hk hj hl hah => hh.closed k j hk hl (ordOf_of hk hj hah))
    obtain ⟨ao, hao, hco⟩ := hget i o (by rw [List.getElem?_take, if_pos him]; simpa using hoi)
    obtain ⟨hop, hd, hdst, hguard⟩ := compOper_some hco
    obtain ⟨hj, hjs, hinv⟩ := hh.inv

    have hahead0 : ∀ k, k ∈ (ordOf ops al.length).getD i [] -> listed.getD k true = true := by
     intro k hk
     have ha := (ordOf_mem hk).2
     cases hb : listed.getD k true with
     | true => rfl
     | false => exact absurd hi (ahead_not ha hb)
    have hahead : ∀ k, k ∈ (clo (ordOf ops al.length)).getD i [] -> listed.getD k true = true := by
     intro k hk
     rcases clo_mem hk with h1 | ⟨j, h1, h2, h3⟩
     ·exact hahead0 k h1
     ·exact clo_listed (L := fun k => listed.getD k true = true) hh.closed (j + 1) j (by omega) (ordOf_mem h1).1 (hahead0 j h1) _ h3
    have hsee : ∀ t, (∀ k, k < al.length -> (ops[k]?).bind (·.dst) = some t -> ahead ops i k = true) -> seen ops al.length listed t := by
     intro t ht k hk hkd
     have ha := ht k hk hkd
     unfold ahead at ha
     rw [hoi] at ha
     simp only [Array.any_eq_true'] at ha
     obtain ⟨e, he, hb⟩ := ha
     simp only [Bool.and_eq_true, beq_iff_eq] at hb
     have := hdeps e he (binds_any hb.1)
     rw [hb.2, getD_any (by omega) false true] at this
     exact this
    have hboth : ∀ t, seen ops al.length listed t -> unwr ops al.length listed t -> get F t = get env t := by
     intro t h1 h2
     refine hF.keep t ?_
     cases hwb : writes t al with
     | false => rfl
     | true =>
      exfalso
      unfold writes at hwb
      rw [List.any_eq_true] at hwb
      obtain ⟨w, hmem, hod⟩ := hwb
      obtain ⟨k, hk⟩ := List.mem_iff_getElem?.1 hmem
      have hkl : k < al.length := (List.getElem?_eq_some_iff.1 hk).1
      have hops : ops[k]? = some ops[k] := Array.getElem?_eq_getElem (by omega)
      obtain ⟨wo, hwo, hwc⟩ := hget k ops[k] (by rw [List.getElem?_take, if_pos hkl]; simpa using hops)
      rw [hk] at hwo; cases hwo
      have hwd := (compOper_some hwc).2.2.1
      have hkd : (ops[k]?).bind (·.dst) = some t := by rw [hops]; simp only [Option.bind_some]; rw [← hwd]; simpa using hod
      have e1 := h1 k hkl hkd
      rw [h2 k hkl hkd] at e1; cases e1
    generalize hE : filt (seen ops al.length listed) F ++ filt (unwr ops al.length listed) env = E
    have hEs : ∀ t, seen ops al.length listed t -> get E t = get F t := by
     intro t ht
     rw [← hE, get_app, get_filt, if_pos ht, get_filt]
     split
     ·rename_i hf
      rw [hboth t ht hf]; simp
     ·simp
    have hEf : ∀ t, unwr ops al.length listed t -> get E t = get env t := by
     intro t ht
     by_cases hs : seen ops al.length listed t
     ·rw [hEs t hs, hboth t hs ht]
     ·rw [← hE, get_app, get_filt, if_neg hs, get_filt, if_pos ht]; simp
    have henvE : EnvRel σ E a.tmps := by
     intro t av hg
     rw [← hE, get_app, Option.or_eq_some_iff] at hg
     rcases hg with hg | ⟨_, hg⟩
     ·exact hh.env t av hg
     ·exact hh.old t av hg
    have hlook : ∀ t ∈ ao.looks, get E t = get (G i) t := by
     intro t ht
     rcases hG i ao hao t ht with ⟨h1, h2⟩ | ⟨h1, h2⟩
     ·rw [h2]; exact hEs t (hsee t h1)
     ·rw [h2]
      refine hEf t fun k hk hkd => ?_
      rcases h1 k hk hkd with rfl | h1
      ·exact hun
      ·cases hb : listed.getD k true with
       | false => rfl
       | true =>
        have := hh.closed k i hk hb (ordOf_of hk him h1)
        rw [hun] at this; cases this
    have hst : St σ hj E N a := ⟨hinv, henvE, hh.size, hh.defers⟩
    have hcount : (listed.setIfInBounds i true).toList.count false <= f := by
     have hget' : listed.toList[i]'(by simp; omega) = false := by
      have : listed[i]? = some listed[i] := Array.getElem?_eq_getElem (by omega)
      simp only [Array.getD_eq_getD_getElem?, this, Option.getD_some] at hun
      simpa using hun
     have := List.count_set (a := true) (b := false) (l := listed.toList) (i := i) (by simp; omega)
     simp only [Array.toList_setIfInBounds]
     rw [this, hget']
     have hp : 0 < listed.toList.count false := List.count_pos_iff.2 (by rw [List.mem_iff_getElem]; exact ⟨i, by simp; omega, hget'⟩)
     show listed.toList.count false - 1 + 0 <= f
     omega
    have hnext : ∀ (a' : Act) (σ' : Sg), Le σ σ' -> HalfS ops al.length env F H N (listed.setIfInBounds i true) σ' a' -> wpAny P md ops Q f (listed.setIfInBounds i true) a' σ'.w := by
     intro a' σ' hl' hh'
     refine ih _ a' σ' (by simp [hsz]) (fun k hk1 hk2 => ?_) (hle.trans hl') hh' hcount
     rw [getD_set (by omega), if_neg (by omega)]
     exact htail k hk1 hk2
    have hseen' : ∀ t, seen ops al.length (listed.setIfInBounds i true) t -> (ops[i]?).bind (·.dst) ≠ some t -> seen ops al.length listed t := by
     intro t ht hne k hk hkd
     have := ht k hk hkd
     rw [getD_set (by omega)] at this
     by_cases hik : i = k
     ·subst hik; exact absurd hkd hne
     ·rwa [if_neg hik] at this
    have hbind : (ops[i]?).bind (·.dst) = o.dst := by rw [hoi]; rfl
    have hclosed : ∀ k l : Nat, k < al.length -> (listed.setIfInBounds i true).getD k true = true -> l ∈ (ordOf ops al.length).getD k [] -> (listed.setIfInBounds i true).getD l true = true := by
     intro k l hk hkl hl
     rw [getD_set (by omega)]
     by_cases hil : i = l
     ·rw [if_pos hil]
     ·rw [if_neg hil]
      by_cases hik : i = k
      ·subst hik; exact hahead0 l hl
      ·rw [getD_set (by omega), if_neg hik] at hkl
       exact hh.closed k l hk hkl hl
    have cong : ∀ K : AV -> AHeap -> Prop, aop P ao.op (G i) hj K -> aop P ao.op E hj K := by
     intro K hk
     rw [aop_congr (e1 := E) (e2 := G i)]
     ·exact hk
     ·intro x hx
      cases x with
      | c a => rfl
      | t n =>
       refine hlook n ?_
       simp only [AOper.looks, List.mem_append, List.mem_filterMap]
       exact .inl ⟨.t n, hx, rfl⟩
    have hunwr' : ∀ t, unwr ops al.length (listed.setIfInBounds i true) t -> o.dst ≠ some t /\ unwr ops al.length listed t := by
     intro t ht
     refine ⟨fun hd => ?_, fun k hk hkd => ?_⟩
     ·have := ht i him (by rw [hbind]; exact hd)
      rw [getD_set (by omega), if_pos rfl] at this; cases this
     ·have := ht k hk hkd
      rw [getD_set (by omega)] at this
      split at this
      ·cases this
      ·exact this
    have envOK : ∀ (σ' : Sg) (a' : Act) (av : AV), EnvRel σ' (putE E o.dst av) a'.tmps -> (∀ d, ao.dst = some d -> get F d = some av) -> EnvRel σ' (filt (seen ops al.length (listed.setIfInBounds i true)) F) a'.tmps := by
     intro σ' a' av he hfd t bv hg
     rw [get_filt] at hg
     split at hg
     ·rename_i hs
      by_cases hdt : o.dst = some t
      ·have := hfd t (by rw [hdst]; exact hdt)
       rw [this] at hg; cases hg
       exact he t av (by rw [get_putE, if_pos hdt])
      ·exact he t bv (by rw [get_putE, if_neg hdt, hEs t (hseen' t hs (by rw [hbind]; exact hdt))]; exact hg)
     ·cases hg
    have oldOK : ∀ (σ' : Sg) (a' : Act) (av : AV), EnvRel σ' (putE E o.dst av) a'.tmps -> EnvRel σ' (filt (unwr ops al.length (listed.setIfInBounds i true)) env) a'.tmps := by
     intro σ' a' av he t bv hg
     rw [get_filt] at hg
     split at hg
     ·rename_i hs
      obtain ⟨h1, h2⟩ := hunwr' t hs
      exact he t bv (by rw [get_putE, if_neg h1, hEf t h2]; exact hg)
     ·cases hg
    have hfact := hF.step (fun k => listed.getD k true) i ao hj hao hun (fun k j hk hkl hj => clo_listed (L := fun k => listed.getD k true = true) hh.closed (k + 1) k (by omega) hk hkl _ hj) hahead hjs
    have hup : H (wbUp (fun k => listed.getD k true) i) = H (fun k => (listed.setIfInBounds i true).getD k true) := by
     refine hF.cong _ _ fun k hk => ?_
     show (if k = i then true else listed.getD k true) = _
     rw [getD_set (by omega)]
     by_cases hki : k = i
     ·subst hki; simp
     ·rw [if_neg hki, if_neg (Ne.symm hki)]
    rw [hup] at hfact
    have does : DoesH P F (G i) hj (H fun k => (listed.setIfInBounds i true).getD k true) ao -> Oper.wp P o a σ.w (wpAny P md ops Q f (listed.setIfInBounds i true)) Q := by
     rintro ⟨av, h2, hH, hdo, hfd⟩
     rcases hdo with ⟨cells, nm, ha, hn, rfl, rfl⟩ | hdo
     ·refine Oper.wp_mono (fun a' w' hb => ?_) (alloc_wp (getD_ne (ha ▸ hop) (by simp)) hst hd hn Q)
      obtain ⟨σ', rfl, l1, s1⟩ := hb
      exact hnext a' σ' l1 ⟨⟨_, hH, s1.inv⟩, envOK σ' a' _ s1.env hfd, oldOK σ' a' _ s1.env, s1.size, s1.defers, hclosed⟩
     ·refine Oper.wp_mono (fun a' w' hb => ?_) (aop_wp' hop hst hd (cong _ hdo) Q)
      obtain ⟨σ', h', av', rfl, l1, s1, rfl, rfl⟩ := hb
      exact hnext a' σ' l1 ⟨⟨_, hH, s1.inv⟩, envOK σ' a' _ s1.env hfd, oldOK σ' a' _ s1.env, s1.size, s1.defers, hclosed⟩
    unfold wpOp
    rw [hoi]
    simp only
    have skip : ((H fun k => (listed.setIfInBounds i true).getD k true) = some hj /\ ∀ d, ao.dst = some d -> get F d = some (.tuple [])) -> wpAny P md ops Q f (listed.setIfInBounds i true) (a.put o.dst undef) σ.w := by
     rintro ⟨hH, hno⟩
     have s1 := hst.skipped o.dst hd
     refine hnext _ σ (Le.refl σ) ⟨⟨_, hH, s1.inv⟩, ?_, ?_, s1.size, s1.defers, hclosed⟩
     ·intro u bv hg
      rw [get_filt] at hg
      split at hg
      ·rename_i hs
       by_cases hdt : o.dst = some u
       ·have := hno u (by rw [hdst]; exact hdt)
        rw [this] at hg; cases hg
        exact s1.env u _ (by rw [get_dropE, if_pos hdt])
       ·exact s1.env u bv (by rw [get_dropE, if_neg hdt, hEs u (hseen' u hs (by rw [hbind]; exact hdt))]; exact hg)
      ·cases hg
     ·intro u bv hg
      rw [get_filt] at hg
      split at hg
      ·rename_i hs
       obtain ⟨h1, h2⟩ := hunwr' u hs
       exact s1.env u bv (by rw [get_dropE, if_neg h1, hEf u h2]; exact hg)
      ·cases hg
    unfold FactH at hfact
    rcases hguard with ⟨hg1, hg2⟩ | ⟨jg, b, t, hg1, hg2, hg3⟩
    ·have hw : Region.wanted o (yielded ops a.tmps) = true := by simp [Region.wanted, hg1]
     rw [if_pos hw]
     rw [hg2] at hfact
     exact .inl (does hfact)
    ·rw [hg2] at hfact
     rcases hfact with ⟨c, hgt, hyes, hno⟩ | ⟨hgt, hno⟩
     ·have hy : yielded ops a.tmps jg = some c := yielded_of (env := E) hg3 henvE (by rw [hlook t (by simp [AOper.looks, hg2])]; exact hgt)
      by_cases hcb : c = b
      ·have hw : Region.wanted o (yielded ops a.tmps) = true := by simp [Region.wanted, hg1, hy, hcb]
       rw [if_pos hw]
       exact .inl (does (hyes hcb))
      ·have hw : Region.wanted o (yielded ops a.tmps) = false := by simp [Region.wanted, hg1, hy, hcb]
       rw [hw]
       simp only [Bool.false_eq_true, if_false]
       exact skip (hno hcb)
     ·have hy : yielded ops a.tmps jg = none := yielded_none (env := E) hg3 henvE (by rw [hlook t (by simp [AOper.looks, hg2])]; exact hgt)
      have hw : Region.wanted o (yielded ops a.tmps) = false := by simp [Region.wanted, hg1, hy]
      rw [hw]
      simp only [Bool.false_eq_true, if_false]
      exact skip hno
theorem web_sound {id : Nat} {ops : Array Oper} {al tl : List AOper} (hq : compOps P N ops (ops.toList.take al.length) = some al) (ht : compOps P N ops (ops.toList.drop al.length) = some tl) (ho : OrderB ops al.length) (h3 : al.length <= ops.size)
  {Q : Exit -> Env -> AHeap -> Prop} (hs : St σ h env N a) {F : Env} {G : Nat -> Env} {h' : AHeap} {n : Nat} {H : (Nat -> Bool) -> Option AHeap} (hn : Web P (clo (ordOf ops al.length)) al env F G h h' n H)
  (hG : ∀ i o, al[i]? = some o -> ∀ t ∈ o.looks, ((∀ k, k < al.length -> (ops[k]?).bind (·.dst) = some t -> ahead ops i k = true) /\ get (G i) t = get F t) ∨ ((∀ k, k < al.length -> (ops[k]?).bind (·.dst) = some t -> k = i ∨ ahead ops k i = true) /\ get (G i) t = get env t)) (hv : vops P tl F h' fun env' h' => Q .normal env' h') : (Code.region id ops true).wp P (Lifted σ N Q) a σ.w := by
 have hd : Past σ.w { σ.w with drawn := σ.w.drawn + 1 } := ⟨Nat.le_refl _, fun _ _ => rfl, rfl, rfl, rfl⟩
 let σ1 : Sg := { σ with w := { σ.w with drawn := σ.w.drawn + 1 } }
 have hle1 : Le σ σ1 := Le.world hd
 have hi1 : Inv h σ1 := hs.inv.world hd
 obtain ⟨hlen, hget⟩ := compOps_get hq
 have hrep : ∀ i, i < ops.size -> (Array.replicate ops.size false).getD i true = false := fun i hi => by simp [Array.getD_eq_getD_getElem?, Array.getElem?_replicate, hi]
 have every : ∀ md : Region.Mode, wpAny P md ops (Lifted σ N Q) ops.size (Array.replicate ops.size false) a { σ.w with drawn := σ.w.drawn + 1 } := by
  intro md
  refine head_anyS (σ₀ := σ1) hq h3 ho hG hn ?_ ops.size _ a σ1 (by simp) (fun i _ hi => hrep i hi) (Le.refl _) ?_ ?_
  ·intro σ2 a2 l2 s2
   have hlen2 : (ops.toList.drop al.length).length = ops.size - al.length := by simp
   rw [← hlen2]
   refine vops_sound (σ₀ := σ1) (K := fun env' h' => Q .normal env' h') (fun σ3 h3 env3 a3 l3 s3 q3 => ⟨trivial, σ3, h3, env3, rfl, hle1.trans l3, s3, q3⟩) _ _ tl σ2 h' F a2 (fun j hj => ?_) ht l2 s2 hv
   rw [List.getElem?_drop, Array.getElem?_toList]
  ·refine ⟨⟨⟨h.blks ++ List.replicate n none, h.bufs, h.globs⟩, ?_, reserve_ok hi1 n⟩, ?_, ?_, hs.size, hs.defers, ?_⟩
   ·rw [← hn.first]
    exact hn.cong _ _ fun i hi => hrep i (by omega)
   ·intro t av hg
    rw [get_filt] at hg
    split at hg
    ·rename_i hsn
     have hw : writes t al = false := by
      cases hwb : writes t al with
      | false => rfl
      | true =>
       exfalso
       unfold writes at hwb
       rw [List.any_eq_true] at hwb
       obtain ⟨o, hmem, hod⟩ := hwb
       obtain ⟨i, hi⟩ := List.mem_iff_getElem?.1 hmem
       have hil : i < al.length := (List.getElem?_eq_some_iff.1 hi).1
       have hops : ops[i]? = some ops[i] := Array.getElem?_eq_getElem (by omega)
       obtain ⟨ao, hao, hco⟩ := hget i ops[i] (by rw [List.getElem?_take, if_pos hil]; simpa using hops)
       rw [hi] at hao; cases hao
       have := (compOper_some hco).2.2.1
       have hf := hsn i hil (by rw [hops]; simp only [Option.bind_some]; rw [← this]; simpa using hod)
       rw [hrep i (by omega)] at hf; cases hf
     rw [hn.keep t hw] at hg
     obtain ⟨x, q1, q2⟩ := hs.env t av hg
     exact ⟨x, q1, q2.mono hle1⟩
    ·cases hg
   ·intro t av hg
    rw [get_filt] at hg
    split at hg
    ·obtain ⟨x, q1, q2⟩ := hs.env t av hg
     exact ⟨x, q1, q2.mono hle1⟩
    ·cases hg
   ·intro k i hil hkl
    rw [hrep k (by omega)] at hkl; cases hkl
  ·simp
 refine wp_region_draw fun t => ?_
 unfold Region.schedule
 split
 ·exact wpAny_sound ops.size t _ a _ (every .any)
 ·exact wpAny_sound ops.size (t / 2) _ a _ (every _)
theorem drawn_soundS {id : Nat} {ops : Array Oper} {al tl : List AOper} (hq : compOps P N ops (ops.toList.take al.length) = some al) (ht : compOps P N ops (ops.toList.drop al.length) = some tl) (hok : drawOK ops al = true)
  {Q : Exit -> Env -> AHeap -> Prop} (hs : St σ h env N a) {F : Env} {h' : AHeap} {n : Nat} {H : (Nat -> Bool) -> Option AHeap} (hn : Web P (clo (ordOf ops al.length)) al env F (fun _ => F) h h' n H) (hv : vops P tl F h' fun env' h' => Q .normal env' h') : (Code.region id ops true).wp P (Lifted σ N Q) a σ.w := by
 simp only [drawOK, Bool.and_eq_true, decide_eq_true_eq] at hok
 obtain ⟨⟨⟨h1, h2⟩, h3⟩, h4⟩ := hok
 have ho := order_of h1
 exact web_sound hq ht ho.toOrderB h3 hs hn (fun i o hi t ht => .inl ⟨fun k hk hkd => ho.head i o (List.getElem?_eq_some_iff.1 hi).1 hi t ht k hk hkd, rfl⟩) hv
def lateT (ord : List (List Nat)) (al : List AOper) (i t : Nat) : Bool := (List.range al.length).any fun k => ((al[k]?).bind (·.dst) == some t) && !(ord.getD i []).contains k
def pick (p : Nat -> Bool) : Env -> Env
 | [] => []
 | (t, v) :: e => if p t = true then (t, v) :: pick p e else pick p e
theorem get_pick (p : Nat -> Bool) : ∀ (e : Env) (t : Nat), get (pick p e) t = if p t = true then get e t else none
 | [], t => by simp [pick, get]
 | (k, v) :: e, t => by
  by_cases hk : p k = true
  ·simp only [pick, if_pos hk, get]
   by_cases hkt : k = t
   ·subst hkt; simp [hk]
   ·rw [if_neg hkt, if_neg hkt]; exact get_pick p e t
  ·simp only [pick, if_neg hk, get]
   rw [get_pick p e t]
   by_cases hkt : k = t
   ·subst hkt; simp [hk]
   ·rw [if_neg hkt]
def lateE (ord : List (List Nat)) (al : List AOper) (env F : Env) (i : Nat) : Env := pick (fun t => !lateT ord al i t) F ++ pick (lateT ord al i) env
theorem get_lateE (ord : List (List Nat)) (al : List AOper) (env F : Env) (i t : Nat) : get (lateE ord al env F i) t = if lateT ord al i t = true then get env t else get F t := by
 unfold lateE
 rw [get_app, get_pick, get_pick]
 cases lateT ord al i t <;> simp
theorem late_sound {id : Nat} {ops : Array Oper} {al tl : List AOper} (hq : compOps P N ops (ops.toList.take al.length) = some al) (ht : compOps P N ops (ops.toList.drop al.length) = some tl) (hok : lateOK ops al = true)
  {Q : Exit -> Env -> AHeap -> Prop} (hs : St σ h env N a) {F : Env} {h' : AHeap} {n : Nat} {H : (Nat -> Bool) -> Option AHeap} (hn : Web P (clo (ordOf ops al.length)) al env F (lateE (ordOf ops al.length) al env F) h h' n H) (hv : vops P tl F h' fun env' h' => Q .normal env' h') : (Code.region id ops true).wp P (Lifted σ N Q) a σ.w := by
 simp only [lateOK, Bool.and_eq_true, decide_eq_true_eq] at hok
 obtain ⟨⟨⟨h1, h2⟩, h3⟩, h4⟩ := hok
 have ho : OrderB ops al.length := by
  refine ⟨fun md => by cases md <;> simp [h1], fun i hi hm => ?_⟩
  have := List.all_eq_true.1 h2 i (List.mem_range.2 hi)
  simp only [Bool.or_eq_true, Bool.and_eq_true, decide_eq_true_eq, List.all_eq_true] at this
  rcases this with ((h | h) | h) | h
  ·omega
  ·exact .inl fun j hj => h j (List.mem_range.2 hj)
  ·exact .inr (.inl h)
  ·exact .inr (.inr h)
 obtain ⟨hlen, hget⟩ := compOps_get hq
 have hdst : ∀ k, k < al.length -> (al[k]?).bind (·.dst) = (ops[k]?).bind (·.dst) := by
  intro k hk
  have hops : ops[k]? = some ops[k] := Array.getElem?_eq_getElem (by omega)
  obtain ⟨wo, hwo, hwc⟩ := hget k ops[k] (by rw [List.getElem?_take, if_pos hk]; simpa using hops)
  rw [hwo, hops]
  exact (compOper_some hwc).2.2.1
 refine web_sound hq ht ho h3 hs hn (fun i o hi t htl => ?_) hv
 have him := (List.getElem?_eq_some_iff.1 hi).1
 have hlk := List.all_eq_true.1 h4 i (List.mem_range.2 him)
 rw [hi] at hlk
 simp only [List.all_eq_true] at hlk
 have := hlk t htl
 simp only [Bool.or_eq_true, List.all_eq_true, List.mem_range, Bool.not_eq_true', beq_eq_false_iff_ne, beq_iff_eq] at this
 rw [get_lateE]
 cases hl : lateT (ordOf ops al.length) al i t with
 | false =>
  refine .inl ⟨fun k hk hkd => ?_, by simp⟩
  have := List.any_eq_false.1 hl k (List.mem_range.2 hk)
  simp only [hdst k hk, hkd, beq_self_eq_true, Bool.true_and, Bool.not_eq_true', Bool.not_eq_false, List.contains_iff_mem] at this
  exact (ordOf_mem this).2
 | true =>
  refine .inr ⟨fun k hk hkd => ?_, by simp⟩
  rcases this with h | h
  ·exfalso
   obtain ⟨j, hj, hb⟩ := List.any_eq_true.1 hl
   simp only [Bool.and_eq_true, beq_iff_eq, Bool.not_eq_true'] at hb
   have hjl := List.mem_range.1 hj
   rw [hdst j hjl] at hb
   rcases h j hjl with h | h
   ·exact h hb.1
   ·have := List.contains_iff_mem.2 (ordOf_of him hjl h)
    rw [this] at hb; cases hb.2
  ·rcases h k hk with (h | h) | h
   ·exact absurd hkd h
   ·exact .inl h
   ·exact .inr h
end
section
variable {P : Program} {N : Nat} {Q : Exit -> Env -> AHeap -> Prop} {env : Env} {h : AHeap}
end
abbrev Callee := FuncId -> List AV -> AHeap -> Option (AV × AHeap)
def stay (h : AHeap) (o : Option AV) : Option (AV × AHeap) := o.map fun a => (a, h)
def makeF (h : AHeap) (size bytes : Nat) (zero : List AV) (x y : AV) : Option (AV × AHeap) :=
 match x, y with
 | .v (.int _ l), .v (.int _ c) => if 0 <= l /\ l <= c /\ c * bytes <= 140737488355328 then some (.row h.blks.length 0 size l.toNat c.toNat, ⟨h.blks ++ [some (zerosOf size c.toNat zero)], h.bufs, h.globs⟩) else none
 | _, _ => none
theorem makeF_ok {h h' : AHeap} {size bytes : Nat} {zero : List AV} {x y a : AV} {K : AV -> AHeap -> Prop} (he : makeF h size bytes zero x y = some (a, h')) (hk : K a h') : made h size bytes zero x y K := by
 unfold makeF at he
 split at he
 ·split at he
  ·rename_i hc; cases he; exact ⟨hc, hk⟩
  ·cases he
 ·cases he
def rangeF (h : AHeap) (x : AV) : Option (AV × AHeap) :=
 match x with
 | .v (.string s) => some (.ptr h.blks.length 0, ⟨h.blks ++ [some [.it s 0]], h.bufs, h.globs⟩)
 | _ => none
theorem rangeF_ok {h h' : AHeap} {x a : AV} {K : AV -> AHeap -> Prop} (he : rangeF h x = some (a, h')) (hk : K a h') : ranged h x K := by
 unfold rangeF at he
 split at he
 ·cases he; exact hk
 ·cases he
def nextF (h : AHeap) (x : AV) : Option (AV × AHeap) :=
 match x with
 | .ptr n 0 => match h.blks[n]? with
  | some (some [.it s p]) => if p < s.data.toList.length then some (.tuple [.v (.bool true), .v (.int .i64 p), .v (.int .i32 (Utf8.decode s p).1)], ⟨h.blks.set n (some [.it s (p + (Utf8.decode s p).2)]), h.bufs, h.globs⟩) else some (.tuple [.v (.bool false)], h)
  | _ => none
 | _ => none
theorem nextF_ok {h h' : AHeap} {x a : AV} {K : AV -> AHeap -> Prop} (he : nextF h x = some (a, h')) (hk : K a h') : nexted h x K := by
 unfold nextF at he
 unfold nexted
 split at he
 ·split at he
  ·rename_i s p hb
   have hs : s.data.toList.length = s.size := Array.length_toList
   rw [hs] at he
   simp only [hb]
   split at he
   ·rename_i hp; cases he; exact ⟨fun _ => hk, fun h => absurd hp h⟩
   ·rename_i hp; cases he; exact ⟨fun h => absurd h hp, fun _ => hk⟩
  ·cases he
 ·cases he
theorem ba_list (s t : ByteArray) : (s == t) = (s.data.toList == t.data.toList) := by
 rw [Bool.eq_iff_iff]
 constructor
 ·intro h; rw [ba_eq h]; simp
 ·intro h
  have h1 : s.data.toList = t.data.toList := by simpa using h
  have h2 : s = t := by
   obtain ⟨⟨a⟩⟩ := s
   obtain ⟨⟨b⟩⟩ := t
   have h3 : a = b := h1
   rw [h3]
  rw [h2]; exact ba_refl t
def findEF (s : List UInt8) : List AV -> Option (Option AV)
 | [] => some none
 | p :: r => match p with
  | .tuple [.v (.string t), v] => if (s == t.data.toList) = true then some (some v) else findEF s r
  | _ => none
def setEF (s : ByteArray) (v : AV) : List AV -> Option (List AV)
 | [] => some [.tuple [.v (.string s), v]]
 | p :: r => match p with
  | .tuple [.v (.string t), w] => if (s.data.toList == t.data.toList) = true then some (.tuple [.v (.string s), v] :: r) else (setEF s v r).map fun l => .tuple [.v (.string t), w] :: l
  | _ => none
theorem findEF_is (s : ByteArray) : ∀ l, findEF s.data.toList l = findE s l
 | [] => rfl
 | p :: r => by
  simp only [findEF, findE, ba_list, findEF_is s r]
  rfl
theorem setEF_is (s : ByteArray) (v : AV) : ∀ l, setEF s v l = setE s v l
 | [] => rfl
 | p :: r => by
  simp only [setEF, setE, ba_list, setEF_is s v r]
  rfl
def lookF (h : AHeap) (ok : Bool) (zero x k : AV) : Option AV :=
 match k with
 | .v (.string s) => match x with
  | .mp n => match h.blks[n]? with
   | some (some [.tuple l]) => (findEF s.data.toList l).map fun r => lookedR ok zero r
   | _ => none
  | .v (.map none) => some (lookedR ok zero none)
  | _ => none
 | _ => none
theorem lookF_ok {h : AHeap} {ok : Bool} {zero x k a : AV} {K : AV -> Prop} (he : lookF h ok zero x k = some a) (hk : K a) : looked h ok zero x k K := by
 unfold lookF at he
 unfold looked
 split at he
 ·split at he
  ·split at he
   ·rename_i hb
    simp only [Option.map_eq_some_iff] at he
    obtain ⟨r, hr, rfl⟩ := he
    rw [findEF_is] at hr
    simp only [hb, hr]; exact hk
   ·cases he
  ·cases he; exact hk
  ·cases he
 ·cases he
def setF (h : AHeap) (m k v : AV) : Option AHeap :=
 match k with
 | .v (.string s) => match m with
  | .mp n => match h.blks[n]? with
   | some (some [.tuple l]) => (setEF s v l).map fun l' => ⟨h.blks.set n (some [.tuple l']), h.bufs, h.globs⟩
   | _ => none
  | _ => none
 | _ => none
theorem setF_ok {h h' : AHeap} {m k v : AV} {K : AHeap -> Prop} (he : setF h m k v = some h') (hk : K h') : mapsetd h m k v K := by
 unfold setF at he
 unfold mapsetd
 split at he
 ·split at he
  ·split at he
   ·rename_i hb
    simp only [Option.map_eq_some_iff] at he
    obtain ⟨r, hr, rfl⟩ := he
    rw [setEF_is] at hr
    simp only [hb, hr]; exact hk
   ·cases he
  ·cases he
 ·cases he
def appBF (h : AHeap) (e : TypeId) (size bytes : Nat) (x y : AV) : Option (AV × AHeap) :=
 match x with
 | .bb .nil [] u => (elsH h 1 y).bind fun ys => if size = 1 /\ sized 1 ys = true /\ u = e /\ ys.length * bytes <= 140737488355328 then some (.bb (.own h.bufs.length) ys u, ⟨h.blks, h.bufs ++ [(ys.length, 1)], h.globs⟩) else none
 | .bb (.own id) els u => (elsH h 1 y).bind fun ys => if size = 1 /\ sized 1 ys = true /\ u = e /\ sized 1 els = true /\ h.bufs[id]? = some (els.length, 1) /\ (els.length + ys.length) * bytes <= 140737488355328 then some (.bb (.own id) (els ++ ys) u, ⟨h.blks, h.bufs.set id (els.length + ys.length, 1), h.globs⟩) else none
 | _ => none
theorem appBF_ok {h h' : AHeap} {e : TypeId} {size bytes : Nat} {x y a : AV} {K : AV -> AHeap -> Prop} (he : appBF h e size bytes x y = some (a, h')) (hk : K a h') : appendedB h e size bytes x y K := by
 unfold appBF at he
 unfold appendedB
 split at he
 ·simp only [Option.bind_eq_some_iff] at he
  obtain ⟨ys, h1, h2⟩ := he
  split at h2
  ·rename_i hc
   cases h2
   simp only [h1]
   exact ⟨⟨hc.1, sized_ok hc.2.1⟩, hc.2.2.1, hc.2.2.2, hk⟩
  ·cases h2
 ·simp only [Option.bind_eq_some_iff] at he
  obtain ⟨ys, h1, h2⟩ := he
  split at h2
  ·rename_i hc
   cases h2
   simp only [h1]
   exact ⟨⟨hc.1, sized_ok hc.2.1⟩, hc.2.2.1, sized_ok hc.2.2.2.1, hc.2.2.2.2.1, hc.2.2.2.2.2, hk⟩
  ·cases h2
 ·cases he
def udataF (x : AV) : Option AV :=
 match x with
 | .bb .nil [] _ => some (.v (.pointer none))
 | .bb (.own id) els u => some (.bb (.data id) els u)
 | _ => none
theorem udataF_ok {x a : AV} {K : AV -> Prop} (he : udataF x = some a) (hk : K a) : udataed x K := by
 unfold udataF at he
 split at he <;> first | (cases he; exact hk) | cases he
def ustrF (h : AHeap) (u : TypeId) (p n : AV) : Option AV :=
 match p, n with
 | .v (.pointer none), .v (.int .i64 m) => if m = 0 then some (.v (.string ⟨⟨[]⟩⟩)) else none
 | .bb (.data id) els t, .v (.int .i64 m) => (elsBytes els).bind fun l => if t = u /\ h.bufs[id]? = some (els.length, 1) /\ m = (l.length : Int) /\ l.length <= 140737488355328 then some (.v (.string ⟨⟨l⟩⟩)) else none
 | _, _ => none
theorem ustrF_ok {h : AHeap} {u : TypeId} {p n a : AV} {K : AV -> Prop} (he : ustrF h u p n = some a) (hk : K a) : ustred h u p n K := by
 unfold ustrF at he
 split at he
 ·split at he
  ·rename_i hm; cases he; exact ⟨hm, hk⟩
  ·cases he
 ·simp only [Option.bind_eq_some_iff] at he
  obtain ⟨l, h1, h2⟩ := he
  split at h2
  ·rename_i hc
   cases h2
   exact ⟨hc.1, hc.2.1, l, elsBytes_ok h1, hc.2.2.1, hc.2.2.2, hk⟩
  ·cases h2
 ·cases he
def seekF (cnt : Bool) (s c : AV) : Option AV :=
 match s, c with
 | .v (.string s), .v (.int .u8 c) => some (.v (.int .i64 ((if cnt then cntB else findB) s c)))
 | _, _ => none
theorem seekF_ok {cnt : Bool} {s c a : AV} {K : AV -> Prop} (he : seekF cnt s c = some a) (hk : K a) : soughtB (if cnt then cntB else findB) s c K := by
 unfold seekF at he
 split at he
 ·cases he; exact hk
 ·cases he
def mknzF (h : AHeap) (u : TypeId) (n : AV) : Option (AV × AHeap) :=
 match n with
 | .v (.int .i64 m) => if 0 < m /\ m <= 140737488355328 then some (.bb (.raw h.bufs.length m.toNat) [] u, ⟨h.blks, h.bufs ++ [(0, 1)], h.globs⟩) else none
 | _ => none
theorem mknzF_ok {h h' : AHeap} {u : TypeId} {n a : AV} {K : AV -> AHeap -> Prop} (he : mknzF h u n = some (a, h')) (hk : K a h') : mknzed h u n K := by
 unfold mknzF at he
 split at he
 ·split at he
  ·rename_i hc; cases he; exact ⟨hc.1, hc.2, hk⟩
  ·cases he
 ·cases he
def cap0F (x : AV) : Option AV :=
 match x with
 | .bb .nil [] _ => some (.v (.int .i64 0))
 | .nil => some (.v (.int .i64 0))
 | _ => none
theorem cap0F_ok {x a : AV} {K : AV -> Prop} (he : cap0F x = some a) (hk : K a) : capped x K := by
 unfold cap0F at he
 split at he <;> first | (cases he; exact hk) | cases he
def copy0F (x y : AV) : Option AV :=
 match x, y with
 | .bb (.own _) [] _, .bb .nil [] _ => some (.v (.int .i64 0))
 | _, _ => none
theorem copy0F_ok {x y a : AV} {K : AV -> Prop} (he : copy0F x y = some a) (hk : K a) : copied0 x y K := by
 unfold copy0F at he
 split at he <;> first | (cases he; exact hk) | cases he
def clearF (h : AHeap) (size : Nat) (zero : List AV) (x : AV) : Option AHeap :=
 match x with
 | .row n off sz len _ => if sz = size then match h.blks[n]? with
   | some (some cells) => if noIt cells = true /\ off + len * size <= cells.length then some ⟨h.blks.set n (some (cells.take off ++ (List.replicate len zero).flatten ++ cells.drop (off + ((List.replicate len zero).flatten).length))), h.bufs, h.globs⟩ else none
   | _ => none
  else none
 | .sl [] _ => some h
 | .nil => some h
 | _ => none
theorem clearF_ok {h h' : AHeap} {size : Nat} {zero : List AV} {x : AV} {K : AHeap -> Prop} (he : clearF h size zero x = some h') (hk : K h') : cleared h size zero x K := by
 unfold clearF at he
 unfold cleared
 split at he
 ·split at he
  ·rename_i hs
   split at he
   ·rename_i hb
    split at he
    ·rename_i hc
     cases he
     simp only [hb]
     exact ⟨hs, hc.1, hc.2, hk⟩
    ·cases he
   ·cases he
  ·cases he
 ·cases he; exact hk
 ·cases he; exact hk
 ·cases he
def callM (call : Callee) (tab l : List AV) (h : AHeap) : Option (AV × AHeap) := match l with
 | .iface t x :: r => (ownMeth tab t).bind fun g => call g (x :: r) h
 | _ => none
theorem callM_some {call : Callee} {tab l : List AV} {h h' : AHeap} {a : AV} (he : callM call tab l h = some (a, h')) : ∃ t x r g, l = .iface t x :: r /\ ownMeth tab t = some g /\ call g (x :: r) h = some (a, h') := by
 unfold callM at he
 split at he
 ·rename_i t x r
  simp only [Option.bind_eq_some_iff] at he
  obtain ⟨g, h1, h2⟩ := he
  exact ⟨t, x, r, g, rfl, h1, h2⟩
 ·cases he
def aopF (md : Bool) (call : Callee) (o : AOp) (env : Env) (h : AHeap) : Option (AV × AHeap) :=
 match o with
 | .mv x => stay h (x.ev env)
 | .pick c a b => (c.ev env).bind fun c => match c with
  | .v (.bool true) => stay h (a.ev env)
  | .v (.bool false) => stay h (b.ev env)
  | _ => none
 | .alloc cells => some (.ptr h.blks.length 0, ⟨h.blks ++ [some cells], h.bufs, h.globs⟩)
 | .box x => (x.ev env).bind fun a => if a.isTuple = false then some (.ptr h.blks.length 0, ⟨h.blks ++ [some a.cells], h.bufs, h.globs⟩) else none
 | .build zero parts => (evp env parts).bind fun ps => (fills zero ps).map fun cells => (.agg cells, h)
 | .sliceLit size len zeros parts => (evp env parts).bind fun ps => (fills zeros ps).bind fun cells => if cells.length = len * size then some (.sl (chunk size len (cells.map wk1)) .full, h) else none
 | .load n x => (x.ev env).bind fun p => stay h (loadedF h n p)
 | .store size p x => (p.ev env).bind fun p => (x.ev env).bind fun x => (storedF h size p x).map fun h' => (.tuple [], h')
 | .nilCheck x => (x.ev env).bind fun a => match a with
  | .ptr n o => some (.ptr n o, h)
  | .elt l o => some (.elt l o, h)
  | .clo (.func f) l r => some (.clo (.func f) l r, h)
  | _ => none
 | .bin op x y => (x.ev env).bind fun x => (y.ev env).bind fun y => stay h (binnedF op x y)
 | .eq c yes x y => (x.ev env).bind fun x => (y.ev env).bind fun y => (eqF c x y).map fun b => (.v (.bool (if yes then b else !b)), h)
 | .un op x => (x.ev env).bind fun x => stay h (unF op x)
 | .conv c x => (x.ev env).bind fun x => stay h (convF c x)
 | .iface t x => (x.ev env).map fun a => (.iface t a, h)
 | .func fn first captured => (evs env first).bind fun f => (evs env captured).map fun c => (.clo fn f c, h)
 | .sliceS x lo hi => (x.ev env).bind fun x => (evo env lo).bind fun lo => (evo env hi).bind fun hi => stay h (cutS x lo hi)
 | .sliceV size x lo hi mx => (x.ev env).bind fun x => (evo env lo).bind fun lo => (evo env hi).bind fun hi => (evo env mx).bind fun mx => stay h (cutV size x lo hi mx)
 | .fieldAddr off x => (x.ev env).bind fun x => stay h (moveF off x)
 | .field n off x => (x.ev env).bind fun x => stay h (partF n off x)
 | .idxS x i => (x.ev env).bind fun x => (i.ev env).bind fun i => stay h (idxSF x i)
 | .idxV len size n x i => (x.ev env).bind fun x => (i.ev env).bind fun i => stay h (idxVF len size n x i)
 | .idxSl size x i => (x.ev env).bind fun x => (i.ev env).bind fun i => stay h (idxF size x i)
 | .idxA len size x i => (x.ev env).bind fun x => (i.ev env).bind fun i => stay h (idxAF len size (deglob h x) i)
 | .assertT t ok zero x => (x.ev env).bind fun x => stay h (assertF t ok zero x)
 | .extract i x => (x.ev env).bind fun x => stay h (extractF i x)
 | .len str x => (x.ev env).bind fun x => stay h (lenF str x)
 | .append e size bytes x y => (x.ev env).bind fun x => (y.ev env).bind fun y => match appBF h e size bytes x y with | some r => some r | none => if md = true /\ size ≠ 1 then (match appRF h size bytes x y with | some r => some r | none => appF h size bytes x y) else appF h size bytes x y
 | .call f args => (f.ev env).bind fun f => (evs env args).bind fun l => match f with
  | .clo (.func g) first captured => call g (first ++ l ++ captured) h
  | .agg [.tuple tab] => callM call tab l h
  | _ => none
 | .bytes x => (x.ev env).bind fun x => match x with
  | .v (.string s) => some (.sl (byteEls s.data.toList) .no, h)
  | _ => none
 | .minmax mx args => (evs env args).bind fun l => (mmx mx l).map fun v => (.v v, h)
 | .make size bytes zero x y => (x.ev env).bind fun x => (y.ev env).bind fun y => makeF h size bytes zero x y
 | .range x => (x.ev env).bind fun x => rangeF h x
 | .next x => (x.ev env).bind fun x => nextF h x
 | .bad => none
 | .mkmap => some (.mp h.blks.length, ⟨h.blks ++ [some [.tuple []]], h.bufs, h.globs⟩)
 | .lookup ok zero x k => (x.ev env).bind fun x => (k.ev env).bind fun k => stay h (lookF h ok zero x k)
 | .mapset m k v => (m.ev env).bind fun m => (k.ev env).bind fun k => (v.ev env).bind fun v => (setF h m k v).map fun h' => (.tuple [], h')
 | .allocB e u => some (.ptr h.blks.length 0, ⟨h.blks ++ [some [.ps h.blks.length e, .bb .nil [] u]], h.bufs, h.globs⟩)
 | .udata x => (x.ev env).bind fun x => stay h (udataF x)
 | .ustr u p n => (p.ev env).bind fun p => (n.ev env).bind fun n => stay h (ustrF h u p n)
 | .seek cnt s c => (s.ev env).bind fun s => (c.ev env).bind fun c => stay h (seekF cnt s c)
 | .mknz u n => (n.ev env).bind fun n => mknzF h u n
 | .cap0 x => (x.ev env).bind fun x => stay h (cap0F x)
 | .copy0 x y => (x.ev env).bind fun x => (y.ev env).bind fun y => stay h (copy0F x y)
 | .clear size zero x => (x.ev env).bind fun x => (clearF h size zero x).map fun h' => (.tuple [], h')
def CallOK (P : Program) (call : Callee) : Prop := ∀ f args h a h', call f args h = some (a, h') -> ∀ K : AV -> AHeap -> Prop, K a h' -> ACall P f args h K
theorem stay_some {h h' : AHeap} {o : Option AV} {a : AV} (he : stay h o = some (a, h')) : o = some a /\ h' = h := by
 unfold stay at he
 simp only [Option.map_eq_some_iff, Prod.mk.injEq] at he
 obtain ⟨b, h1, rfl, rfl⟩ := he
 exact ⟨h1, rfl⟩
theorem aopF_ok {P : Program} {md : Bool} {call : Callee} (hc : CallOK P call) {o : AOp} {env : Env} {h h' : AHeap} {a : AV} {K : AV -> AHeap -> Prop} (he : aopF md call o env h = some (a, h')) (hk : K a h') : aop P o env h K := by
 cases o <;> simp only [aopF, Option.bind_eq_some_iff, Option.map_eq_some_iff] at he <;> simp only [aop]
 case mv x => obtain ⟨h1, rfl⟩ := stay_some he; simp only [h1, wv]; exact hk
 case pick c x y =>
  obtain ⟨cv, h1, h2⟩ := he
  simp only [h1, wv]
  split at h2
  ·obtain ⟨h3, rfl⟩ := stay_some h2; simp only [pickOn, h3]; exact ⟨fun _ => hk, fun h => by cases h⟩
  ·obtain ⟨h3, rfl⟩ := stay_some h2; simp only [pickOn, h3]; exact ⟨(fun h => by cases h), fun _ => hk⟩
  ·cases h2
 case alloc cells => cases he; exact hk
 case box x =>
  obtain ⟨b, h1, h2⟩ := he
  split at h2
  ·rename_i ht; cases h2; simp only [h1, wv]; exact ⟨ht, hk⟩
  ·cases h2
 case build z ps =>
  obtain ⟨q, h1, cells, h2, h3⟩ := he
  cases h3
  simp only [h1, h2]; exact hk
 case sliceLit s l z ps =>
  obtain ⟨q, h1, cells, h2, h3⟩ := he
  split at h3
  ·rename_i hl; cases h3; simp only [h1, h2]; exact ⟨hl, hk⟩
  ·cases h3
 case load n x => obtain ⟨p, h1, h2⟩ := he; obtain ⟨h3, rfl⟩ := stay_some h2; simp only [h1, wv]; exact loadedF_ok h3 hk
 case store n p x => obtain ⟨p, h1, x, h2, h3, h4, h5⟩ := he; cases h5; simp only [h1, h2, wv]; exact storedF_ok h4 hk
 case nilCheck x =>
  obtain ⟨b, h1, h2⟩ := he
  simp only [h1, wv, nilOn]
  split at h2 <;> first | (cases h2; exact hk) | (cases h2; done)
 case bin op x y => obtain ⟨x, h1, y, h2, h3⟩ := he; obtain ⟨h4, rfl⟩ := stay_some h3; simp only [h1, h2, wv]; exact binnedF_ok h4 hk
 case eq c yes x y => obtain ⟨x, h1, y, h2, b, h3, h4⟩ := he; cases h4; simp only [h1, h2, wv]; exact eqF_ok h3 hk
 case un op x => obtain ⟨x, h1, h3⟩ := he; obtain ⟨h4, rfl⟩ := stay_some h3; simp only [h1, wv]; exact unF_ok h4 hk
 case conv c x => obtain ⟨x, h1, h3⟩ := he; obtain ⟨h4, rfl⟩ := stay_some h3; simp only [h1, wv]; exact convF_ok h4 hk
 case iface t x => obtain ⟨x, h1, h3⟩ := he; cases h3; simp only [h1, wv]; exact hk
 case func fn f c => obtain ⟨x, h1, y, h2, h3⟩ := he; cases h3; simp only [h1, h2]; exact hk
 case sliceS x lo hi => obtain ⟨x, h1, lo, h2, hi, h3, h4⟩ := he; obtain ⟨h5, rfl⟩ := stay_some h4; simp only [h1, h2, h3, wv]; exact cutS_ok h5 hk
 case sliceV s x lo hi mx => obtain ⟨x, h1, lo, h2, hi, h3, mx, h4, h5⟩ := he; obtain ⟨h6, rfl⟩ := stay_some h5; simp only [h1, h2, h3, h4, wv]; exact cutV_ok h6 hk
 case fieldAddr off x => obtain ⟨x, h1, h3⟩ := he; obtain ⟨h4, rfl⟩ := stay_some h3; simp only [h1, wv]; exact moveF_ok h4 hk
 case field n off x => obtain ⟨x, h1, h3⟩ := he; obtain ⟨h4, rfl⟩ := stay_some h3; simp only [h1, wv]; exact partF_ok h4 hk
 case idxS x y => obtain ⟨x, h1, y, h2, h3⟩ := he; obtain ⟨h4, rfl⟩ := stay_some h3; simp only [h1, h2, wv]; exact idxSF_ok h4 hk
 case idxV l s n x y => obtain ⟨x, h1, y, h2, h3⟩ := he; obtain ⟨h4, rfl⟩ := stay_some h3; simp only [h1, h2, wv]; exact idxVF_ok h4 hk
 case idxSl s x y => obtain ⟨x, h1, y, h2, h3⟩ := he; obtain ⟨h4, rfl⟩ := stay_some h3; simp only [h1, h2, wv]; exact idxF_ok h4 hk
 case idxA l s x y => obtain ⟨x, h1, y, h2, h3⟩ := he; obtain ⟨h4, rfl⟩ := stay_some h3; simp only [h1, h2, wv]; exact idxAF_ok h4 hk
 case assertT t ok z x => obtain ⟨x, h1, h3⟩ := he; obtain ⟨h4, rfl⟩ := stay_some h3; simp only [h1, wv]; exact assertF_ok h4 hk
 case extract i x => obtain ⟨x, h1, h3⟩ := he; obtain ⟨h4, rfl⟩ := stay_some h3; simp only [h1, wv]; exact extractF_ok h4 hk
 case len s x => obtain ⟨x, h1, h3⟩ := he; obtain ⟨h4, rfl⟩ := stay_some h3; simp only [h1, wv]; exact lenF_ok h4 hk
 case append e s t x y =>
  obtain ⟨x, h1, y, h2, h3⟩ := he
  simp only [h1, h2, wv]
  split at h3
  ·rename_i r hr; cases h3; exact .inr (.inr (appBF_ok hr hk))
  split at h3
  ·split at h3
   ·rename_i r hr; cases h3; exact .inr (.inl (appRF_ok hr hk))
   ·exact .inl (appF_ok h3 hk)
  ·exact .inl (appF_ok h3 hk)
 case call f args =>
  obtain ⟨fv, h1, l, h2, h3⟩ := he
  simp only [h1, h2, wv]
  split at h3
  ·exact hc _ _ _ _ _ h3 K hk
  ·obtain ⟨t, x, r, g, rfl, h5, h6⟩ := callM_some h3
   unfold callOn
   simp only [h5]
   exact hc _ _ _ _ _ h6 K hk
  ·cases h3
 case bytes x =>
  obtain ⟨x, h1, h2⟩ := he
  simp only [h1, wv]
  split at h2
  ·cases h2; exact hk
  ·cases h2
 case minmax mx l => obtain ⟨x, h1, v, h2, h3⟩ := he; cases h3; simp only [h1, h2, picked]; exact hk
 case make s t z x y => obtain ⟨x, h1, y, h2, h3⟩ := he; simp only [h1, h2, wv]; exact .inl (makeF_ok h3 hk)
 case range x => obtain ⟨x, h1, h2⟩ := he; simp only [h1, wv]; exact rangeF_ok h2 hk
 case next x => obtain ⟨x, h1, h2⟩ := he; simp only [h1, wv]; exact nextF_ok h2 hk
 case bad => cases he
 case mkmap => cases he; exact hk
 case lookup ok z x k => obtain ⟨x, h1, k, h2, h3⟩ := he; obtain ⟨h4, rfl⟩ := stay_some h3; simp only [h1, h2, wv]; exact lookF_ok h4 hk
 case mapset m k v => obtain ⟨m, h1, k, h2, v, h3, h4, h5, h6⟩ := he; cases h6; simp only [h1, h2, h3, wv]; exact setF_ok h5 hk
 case allocB e u => cases he; exact hk
 case udata x => obtain ⟨x, h1, h3⟩ := he; obtain ⟨h4, rfl⟩ := stay_some h3; simp only [h1, wv]; exact udataF_ok h4 hk
 case ustr u p n => obtain ⟨x, h1, k, h2, h3⟩ := he; obtain ⟨h4, rfl⟩ := stay_some h3; simp only [h1, h2, wv]; exact ustrF_ok h4 hk
 case seek c p n => obtain ⟨x, h1, k, h2, h3⟩ := he; obtain ⟨h4, rfl⟩ := stay_some h3; simp only [h1, h2, wv]; exact seekF_ok h4 hk
 case mknz u n => obtain ⟨x, h1, h3⟩ := he; simp only [h1, wv]; exact mknzF_ok h3 hk
 case cap0 x => obtain ⟨x, h1, h3⟩ := he; obtain ⟨h4, rfl⟩ := stay_some h3; simp only [h1, wv]; exact cap0F_ok h4 hk
 case copy0 p n => obtain ⟨x, h1, k, h2, h3⟩ := he; obtain ⟨h4, rfl⟩ := stay_some h3; simp only [h1, h2, wv]; exact copy0F_ok h4 hk
 case clear s z x => obtain ⟨m, h1, h4, h5, h6⟩ := he; cases h6; simp only [h1, wv]; exact clearF_ok h5 hk
def guardF (env : Env) (g : Option (Nat × Bool)) : Option Bool :=
 match g with
 | none => some true
 | some (t, want) => (get env t).bind fun v => match v with
  | .v (.bool b) => some (b == want)
  | .tuple [] => some false
  | _ => none
theorem guardF_ok {env : Env} {g : Option (Nat × Bool)} {b : Bool} {y n : Prop} (he : guardF env g = some b) (hk : if b = true then y else n) : guarded env g y n := by
 cases g with
 | none => cases he; exact hk
 | some p =>
  obtain ⟨t, want⟩ := p
  simp only [guardF, Option.bind_eq_some_iff] at he
  obtain ⟨v, h1, h2⟩ := he
  simp only [guarded, h1, wv]
  split at h2
  ·rename_i c
   cases h2
   simp only
   cases c <;> cases want
   ·exact ⟨fun _ => hk, fun h => by cases h⟩
   ·exact ⟨(fun h => by cases h), fun _ => hk⟩
   ·exact ⟨(fun h => by cases h), fun _ => hk⟩
   ·exact ⟨fun _ => hk, fun h => by cases h⟩
  ·cases h2; exact hk
  ·cases h2
def vopsF (md : Bool) (call : Callee) : List AOper -> Env -> AHeap -> Option (Env × AHeap)
 | [], env, h => some (env, h)
 | o :: r, env, h => (guardF env o.guard).bind fun b => match b with
  | true => (aopF md call o.op env h).bind fun p => vopsF md call r (putE env o.dst p.1) p.2
  | false => vopsF md call r (dropE env o.dst) h
theorem vopsF_ok {P : Program} {md : Bool} {call : Callee} (hc : CallOK P call) : ∀ {l : List AOper} {env : Env} {h : AHeap} {r : Env × AHeap} {K : Env -> AHeap -> Prop}, vopsF md call l env h = some r -> K r.1 r.2 -> vops P l env h K
 | [], env, h, r, K, he, hk => by cases he; exact hk
 | o :: l, env, h, r, K, he, hk => by
  simp only [vopsF, Option.bind_eq_some_iff] at he
  obtain ⟨b, h1, h2⟩ := he
  refine guardF_ok h1 ?_
  cases b with
  | true =>
   simp only [Option.bind_eq_some_iff] at h2
   obtain ⟨⟨a, h'⟩, h3, h4⟩ := h2
   exact aopF_ok (K := fun av h' => vops P l (putE env o.dst av) h' K) hc h3 (vopsF_ok hc h4 hk)
  | false => exact vopsF_ok hc h2 hk
def quietOp : AOp -> Bool
 | .alloc _ | .box _ | .store _ _ _ | .append _ _ _ _ _ | .make _ _ _ _ _ | .range _ | .next _ | .bad | .mkmap | .mapset _ _ _ | .allocB _ _ | .ustr _ _ _ | .mknz _ _ | .clear _ _ _ => false
 | _ => true
def vqF (md : Bool) (call : Callee) : List AOper -> Env -> AHeap -> Option Env
 | [], env, h => some env
 | o :: r, env, h => (guardF env o.guard).bind fun b => match b with
  | true => if quietOp o.op = true then (aopF md call o.op env h).bind fun p => vqF md call r (putE env o.dst p.1) h else none
  | false => vqF md call r (dropE env o.dst) h
theorem aopF_quiet {md : Bool} {call : Callee} (hq : ∀ f args h a h', call f args h = some (a, h') -> h' = h) {o : AOp} {env : Env} {h h' : AHeap} {a : AV} (ho : quietOp o = true) (he : aopF md call o env h = some (a, h')) : h' = h := by
 cases o <;> simp only [aopF, Option.bind_eq_some_iff, Option.map_eq_some_iff] at he <;> (try (cases ho; done))
 case mv x => exact (stay_some he).2
 case pick c x y => obtain ⟨cv, h1, h2⟩ := he; split at h2 <;> first | exact (stay_some h2).2 | cases h2
 case build z ps => obtain ⟨q, h1, cells, h2, h3⟩ := he; cases h3; rfl
 case sliceLit s l z ps =>
  obtain ⟨q, h1, cells, h2, h3⟩ := he
  split at h3 <;> cases h3; rfl
 case load n x => obtain ⟨p, h1, h2⟩ := he; exact (stay_some h2).2
 case nilCheck x => obtain ⟨b, h1, h2⟩ := he; split at h2 <;> cases h2 <;> rfl
 case bin op x y => obtain ⟨x, h1, y, h2, h3⟩ := he; exact (stay_some h3).2
 case eq c yes x y => obtain ⟨x, h1, y, h2, b, h3, h4⟩ := he; cases h4; rfl
 case un op x => obtain ⟨x, h1, h3⟩ := he; exact (stay_some h3).2
 case conv c x => obtain ⟨x, h1, h3⟩ := he; exact (stay_some h3).2
 case iface t x => obtain ⟨x, h1, h3⟩ := he; cases h3; rfl
 case func fn f c => obtain ⟨x, h1, y, h2, h3⟩ := he; cases h3; rfl
 case sliceS x lo hi => obtain ⟨x, h1, lo, h2, hi, h3, h4⟩ := he; exact (stay_some h4).2
 case sliceV s x lo hi mx => obtain ⟨x, h1, lo, h2, hi, h3, mx, h4, h5⟩ := he; exact (stay_some h5).2
 case fieldAddr off x => obtain ⟨x, h1, h3⟩ := he; exact (stay_some h3).2
 case field n off x => obtain ⟨x, h1, h3⟩ := he; exact (stay_some h3).2
 case idxS x y => obtain ⟨x, h1, y, h2, h3⟩ := he; exact (stay_some h3).2
 case idxV l s n x y => obtain ⟨x, h1, y, h2, h3⟩ := he; exact (stay_some h3).2
 case idxSl s x y => obtain ⟨x, h1, y, h2, h3⟩ := he; exact (stay_some h3).2
 case idxA l s x y => obtain ⟨x, h1, y, h2, h3⟩ := he; exact (stay_some h3).2
 case assertT t ok z x => obtain ⟨x, h1, h3⟩ := he; exact (stay_some h3).2
 case extract i x => obtain ⟨x, h1, h3⟩ := he; exact (stay_some h3).2
 case len s x => obtain ⟨x, h1, h3⟩ := he; exact (stay_some h3).2
 case call f args =>
  obtain ⟨fv, h1, l, h2, h3⟩ := he
  split at h3
  ·exact hq _ _ _ _ _ h3
  ·obtain ⟨t, x, r, g, _, _, h4⟩ := callM_some h3; exact hq _ _ _ _ _ h4
  ·cases h3
 case minmax mx l => obtain ⟨x, h1, v, h2, h3⟩ := he; cases h3; rfl
 case lookup ok z x k => obtain ⟨x, h1, k, h2, h3⟩ := he; exact (stay_some h3).2
 case bytes x => obtain ⟨x, h1, h2⟩ := he; split at h2 <;> cases h2; rfl
 case udata x => obtain ⟨x, h1, h3⟩ := he; exact (stay_some h3).2
 case seek c x y => obtain ⟨x, h1, y, h2, h3⟩ := he; exact (stay_some h3).2
 case cap0 x => obtain ⟨x, h1, h3⟩ := he; exact (stay_some h3).2
 case copy0 x y => obtain ⟨x, h1, y, h2, h3⟩ := he; exact (stay_some h3).2
theorem vqF_ok {P : Program} {md : Bool} {call : Callee} (hc : CallOK P call) (hq : ∀ f args h a h', call f args h = some (a, h') -> h' = h) : ∀ {l : List AOper} {env r : Env} {h : AHeap} {K : Env -> Prop}, vqF md call l env h = some r -> K r -> vq P l env h K
 | [], env, r, h, K, he, hk => by cases he; exact hk
 | o :: l, env, r, h, K, he, hk => by
  simp only [vqF, Option.bind_eq_some_iff] at he
  obtain ⟨b, h1, h2⟩ := he
  refine guardF_ok h1 ?_
  cases b with
  | true =>
   simp only at h2
   split at h2
   ·rename_i ho
    simp only [Option.bind_eq_some_iff] at h2
    obtain ⟨⟨a, h'⟩, h3, h4⟩ := h2
    have := aopF_quiet hq ho h3
    subst this
    exact ⟨a, aopF_ok hc h3 ⟨rfl, rfl⟩, vqF_ok hc hq h4 hk⟩
   ·cases h2
  | false => exact vqF_ok hc hq h2 hk
def beqV : Value -> Value -> Bool
 | .bool a, .bool b => a == b
 | .int k a, .int l b => decide (k = l) && decide (a = b)
 | .string a, .string b => a.data.toList == b.data.toList
 | .pointer none, .pointer none => true
 | .nilFunc, .nilFunc => true
 | .nilIface, .nilIface => true
 | _, _ => false
theorem beqV_eq {x y : Value} (h : beqV x y = true) : x = y := by
 unfold beqV at h
 split at h <;> (try (cases h; done)) <;> (try rfl)
 ·simp at h; rw [h]
 ·simp at h; rw [h.1, h.2]
 ·rename_i a b
  have := eq_of_beq h
  congr 1
  apply ByteArray.ext
  exact Array.ext' this
mutual
def beqA : AV -> AV -> Bool
 | .v x, .v y => beqV x y
 | .ptr a b, .ptr c d => a == c && b == d
 | .elt l o, .elt m p => beqL l m && o == p
 | .nil, .nil => true
 | .sl e t, .sl f u => beqLL e f && decide (t = u)
 | .agg l, .agg m => beqL l m
 | .tuple l, .tuple m => beqL l m
 | .iface t x, .iface u y => t == u && beqA x y
 | .clo (.func f) a b, .clo (.func g) c d => f == g && beqL a c && beqL b d
 | .glob a, .glob b => a == b
 | .row a b c d e, .row a' b' c' d' e' => a == a' && b == b' && c == c' && d == d' && e == e'
 | .bb k e u, .bb l f v => decide (k = l) && beqLL e f && u == v
 | .ps n t, .ps m u => n == m && t == u
 | .it s p, .it t q => s.data.toList == t.data.toList && p == q
 | .mp n, .mp m => n == m
 | _, _ => false
def beqL : List AV -> List AV -> Bool
 | [], [] => true
 | a :: l, b :: m => beqA a b && beqL l m
 | _, _ => false
def beqLL : List (List AV) -> List (List AV) -> Bool
 | [], [] => true
 | a :: l, b :: m => beqL a b && beqLL l m
 | _, _ => false
end
mutual
theorem beqA_eq : ∀ (a b : AV), beqA a b = true -> a = b
 | .v x, b, h => by cases b <;> simp only [beqA, Bool.false_eq_true] at h; rw [beqV_eq h]
 | .ptr n o, b, h => by cases b <;> simp only [beqA, Bool.false_eq_true, Bool.and_eq_true, beq_iff_eq] at h; rw [h.1, h.2]
 | .elt l o, b, h => by cases b <;> simp only [beqA, Bool.false_eq_true, Bool.and_eq_true, beq_iff_eq] at h; rw [beqL_eq _ _ h.1, h.2]
 | .nil, b, h => by cases b <;> simp only [beqA, Bool.false_eq_true] at h; rfl
 | .sl e t, b, h => by cases b <;> simp only [beqA, Bool.false_eq_true, Bool.and_eq_true, decide_eq_true_eq] at h; rw [beqLL_eq _ _ h.1, h.2]
 | .agg l, b, h => by cases b <;> simp only [beqA, Bool.false_eq_true] at h; rw [beqL_eq _ _ h]
 | .tuple l, b, h => by cases b <;> simp only [beqA, Bool.false_eq_true] at h; rw [beqL_eq _ _ h]
 | .iface t x, b, h => by cases b <;> simp only [beqA, Bool.false_eq_true, Bool.and_eq_true, beq_iff_eq] at h; rw [h.1, beqA_eq _ _ h.2]
 | .clo f l r, b, h => by
  cases b with
  | clo g l' r' =>
   cases f with
   | func f =>
    cases g with
    | func g =>
     simp only [beqA, Bool.and_eq_true, beq_iff_eq] at h
     rw [h.1.1, beqL_eq _ _ h.1.2, beqL_eq _ _ h.2]
    | _ => simp [beqA] at h
   | _ => simp [beqA] at h
  | _ => simp [beqA] at h
 | .glob n, b, h => by cases b <;> simp only [beqA, Bool.false_eq_true, beq_iff_eq] at h; rw [h]
 | .row a1 a2 a3 a4 a5, b, h => by
  cases b <;> simp only [beqA, Bool.false_eq_true, Bool.and_eq_true, beq_iff_eq] at h
  rw [h.1.1.1.1, h.1.1.1.2, h.1.1.2, h.1.2, h.2]
 | .it s p, b, h => by
  cases b <;> simp only [beqA, Bool.false_eq_true, Bool.and_eq_true, beq_iff_eq] at h
  rw [ByteArray.ext (Array.ext' h.1), h.2]
 | .mp n, b, h => by cases b <;> simp only [beqA, Bool.false_eq_true, beq_iff_eq] at h; rw [h]
 | .bb k e u, b, h => by
  cases b <;> simp only [beqA, Bool.false_eq_true, Bool.and_eq_true, decide_eq_true_eq, beq_iff_eq] at h
  rw [h.1.1, beqLL_eq _ _ h.1.2, h.2]
 | .ps n t, b, h => by cases b <;> simp only [beqA, Bool.false_eq_true, Bool.and_eq_true, beq_iff_eq] at h; rw [h.1, h.2]
theorem beqL_eq : ∀ (a b : List AV), beqL a b = true -> a = b
 | [], b, h => by cases b <;> simp only [beqL, Bool.false_eq_true] at h; rfl
 | a :: l, b, h => by
  cases b <;> simp only [beqL, Bool.false_eq_true, Bool.and_eq_true] at h
  rw [beqA_eq _ _ h.1, beqL_eq _ _ h.2]
theorem beqLL_eq : ∀ (a b : List (List AV)), beqLL a b = true -> a = b
 | [], b, h => by cases b <;> simp only [beqLL, Bool.false_eq_true] at h; rfl
 | a :: l, b, h => by
  cases b <;> simp only [beqLL, Bool.false_eq_true, Bool.and_eq_true] at h
  rw [beqL_eq _ _ h.1, beqLL_eq _ _ h.2]
end
def pureOp : AOp -> Bool
 | .alloc _ | .box _ | .store _ _ _ | .append _ _ _ _ _ | .make _ _ _ _ _ | .range _ | .next _ | .load _ _ | .call _ _ | .bad | .mkmap | .mapset _ _ _ | .lookup _ _ _ _ | .idxA _ _ _ _ | .allocB _ _ | .ustr _ _ _ | .mknz _ _ | .clear _ _ _ => false
 | _ => true
theorem aop_pure {P : Program} {o : AOp} (hp : pureOp o = true) {env : Env} {h h' : AHeap} {K : AV -> AHeap -> Prop} : aop P o env h K = aop P o env h' fun a _ => K a h := by
 cases o <;> first | rfl | (cases hp; done)
theorem aopQ_pure {P : Program} {o : AOp} (hp : pureOp o = true) {env : Env} {h h' : AHeap} {av : AV} (hq : aopQ P o env h av) : aopQ P o env h' av := by
 unfold aopQ at hq ⊢
 rw [aop_pure (h' := h') hp] at hq
 rw [aop_pure (h' := h') hp]
 have : (fun (a : AV) (_ : AHeap) => a = av /\ h = h) = fun (a : AV) (_ : AHeap) => a = av /\ h' = h' := by funext a b; simp
 rw [this] at hq
 exact hq
def CallExt (P : Program) (call : Callee) : Prop := ∀ f args h a h', call f args h = some (a, h') -> h' = h /\ ∀ h2 : AHeap, h2.globs = h.globs -> ∀ K : AV -> AHeap -> Prop, K a h2 -> ACall P f args h2 K
theorem guardF_cases {F : Env} {t : Nat} {want b : Bool} (h : guardF F (some (t, want)) = some b) : (∃ c, get F t = some (.v (.bool c)) /\ b = (c == want)) ∨ (get F t = some (.tuple []) /\ b = false) := by
 simp only [guardF, Option.bind_eq_some_iff] at h
 obtain ⟨v, h1, h2⟩ := h
 split at h2
 ·rename_i c; cases h2; exact .inl ⟨c, h1, rfl⟩
 ·cases h2; exact .inr ⟨h1, rfl⟩
 ·cases h2
theorem deglob_globs {h h2 : AHeap} (hg : h2.globs = h.globs) (x : AV) : deglob h2 x = deglob h x := by
 unfold deglob
 rw [hg]
theorem look_ext {h h2 : AHeap} {ok : Bool} {zero x k a : AV} (he : ∀ (n : Nat) (c : List AV), h.blks[n]? = some (some c) -> h2.blks[n]? = some (some c)) (hl : lookF h ok zero x k = some a) : lookF h2 ok zero x k = some a := by
 unfold lookF at hl ⊢
 split at hl
 ·split at hl
  ·split at hl
   ·rename_i hb; simp only [he _ _ hb]; exact hl
   ·cases hl
  ·exact hl
  ·cases hl
 ·cases hl
def wbCall : AOp -> Bool
 | .call _ _ => true
 | _ => false
theorem any_heap {P : Program} {md : Bool} {call : Callee} (hc : CallExt P call) {o : AOp} {env : Env} {h h' : AHeap} {a : AV} (ho : quietOp o = true) (hp : (pureOp o || wbCall o) = true) (he : aopF md call o env h = some (a, h')) {h2 : AHeap} (hg : h2.globs = h.globs) : aopQ P o env h2 a := by
 have hcok : CallOK P call := fun f args h a h' he K hk => by
  obtain ⟨e1, e2⟩ := hc f args h a h' he
  subst e1
  exact e2 _ rfl K hk
 have hsame : h' = h := aopF_quiet (fun f args h a h' he => (hc f args h a h' he).1) ho he
 subst hsame
 by_cases hp' : pureOp o = true
 ·exact aopQ_pure hp' (aopF_ok (K := fun x y => x = a /\ y = h') hcok he ⟨rfl, rfl⟩)
 ·cases o <;> first | (exact absurd rfl hp') | (cases ho; done) | (simp [pureOp, wbCall] at hp; done) | skip
  case call f args =>
   simp only [aopF, Option.bind_eq_some_iff] at he
   obtain ⟨fv, h1, l, h3, h4⟩ := he
   show wv (f.ev env) _
   rw [h1]
   split at h4
   ·rename_i g first captured
    show callOn P _ (evs env args) h2 _
    rw [h3]
    exact (hc _ _ _ _ _ h4).2 h2 hg _ ⟨rfl, rfl⟩
   ·obtain ⟨t, x, r, g, rfl, h5, h6⟩ := callM_some h4
    show callOn P _ (evs env args) h2 _
    rw [h3]
    unfold callOn
    simp only [h5]
    exact (hc _ _ _ _ _ h6).2 h2 hg _ ⟨rfl, rfl⟩
   ·cases h4
def beqB : List (Option (List AV)) -> List (Option (List AV)) -> Bool
 | [], [] => true
 | none :: l, none :: m => beqB l m
 | some a :: l, some b :: m => beqL a b && beqB l m
 | _, _ => false
theorem beqB_eq : ∀ {a b : List (Option (List AV))}, beqB a b = true -> a = b
 | [], b, h => by cases b <;> simp only [beqB, Bool.false_eq_true] at h; rfl
 | none :: l, b, h => by
  cases b with
  | nil => simp [beqB] at h
  | cons x m => cases x <;> simp only [beqB, Bool.false_eq_true] at h; rw [beqB_eq h]
 | some c :: l, b, h => by
  cases b with
  | nil => simp [beqB] at h
  | cons x m => cases x <;> simp only [beqB, Bool.false_eq_true, Bool.and_eq_true] at h; rw [beqL_eq _ _ h.1, beqB_eq h.2]
def beqG : List (Nat × List AV) -> List (Nat × List AV) -> Bool
 | [], [] => true
 | (i, a) :: l, (j, b) :: m => i == j && beqL a b && beqG l m
 | _, _ => false
theorem beqG_eq : ∀ {a b : List (Nat × List AV)}, beqG a b = true -> a = b
 | [], b, h => by cases b <;> simp only [beqG, Bool.false_eq_true] at h; rfl
 | (i, c) :: l, b, h => by
  cases b with
  | nil => simp [beqG] at h
  | cons x m =>
   obtain ⟨j, d⟩ := x
   simp only [beqG, Bool.and_eq_true, beq_iff_eq] at h
   rw [h.1.1, beqL_eq _ _ h.1.2, beqG_eq h.2]
def beqH (h k : AHeap) : Bool := beqB h.blks k.blks && decide (h.bufs = k.bufs) && beqG h.globs k.globs
theorem beqH_eq {h k : AHeap} (he : beqH h k = true) : h = k := by
 simp only [beqH, Bool.and_eq_true, decide_eq_true_eq] at he
 obtain ⟨⟨h1, h2⟩, h3⟩ := he
 cases h; cases k
 simp only at h1 h2 h3
 rw [beqB_eq h1, h2, beqG_eq h3]
def wbIs (F : Env) (d : Option Nat) (a : AV) : Bool := match d with
 | none => true
 | some d => match get F d with
  | some b => beqA b a
  | none => false
theorem wbIs_is {F : Env} {o : Option Nat} {a : AV} (h : wbIs F o a = true) : ∀ d, o = some d -> get F d = some a := by
 rintro d rfl
 simp only [wbIs] at h
 split at h
 ·rename_i b hb; rw [hb, beqA_eq _ _ h]
 ·cases h
def wbLays : Nat -> List AOper -> List (Option Nat)
 | _, [] => []
 | b, o :: r => match o.op, o.guard with
  | .alloc _, none => some b :: wbLays (b + 1) r
  | _, _ => none :: wbLays b r
def wbOp (md : Bool) (call : Callee) (nm : Option Nat) (o : AOper) (F : Env) (h : AHeap) : Option (AV × AHeap) :=
 match nm, o.op with
 | some n, .alloc cells => match h.blks[n]? with
  | some none => some (.ptr n 0, ⟨h.blks.set n (some cells), h.bufs, h.globs⟩)
  | _ => none
 | _, _ => aopF md call o.op F h
def wbSeq (md : Bool) (call : Callee) : List AOper -> List (Option Nat) -> Nat -> Env -> AHeap -> Option (Env × List Nat)
 | [], _, _, env, _ => some (env, [])
 | o :: r, nms, i, env, h => (guardF env o.guard).bind fun b => match b with
  | false => wbSeq md call r nms.tail (i + 1) (dropE env o.dst) h
  | true => (wbOp md call (nms.headD none) o env h).bind fun p => (wbSeq md call r nms.tail (i + 1) (putE env o.dst p.1) p.2).map fun x => (x.1, if (if quietOp o.op = true then (!wbCall o.op || beqH h p.2) else false) = true then x.2 else i :: x.2)
abbrev WbTab := List (List Nat × AHeap)
def wbAt (T : WbTab) (S : List Nat) : Option AHeap := (T.find? fun p => p.1 == S).map (·.2)
def wbIns (E : List Nat) (i : Nat) (S : List Nat) : List Nat := E.filter fun k => k == i || S.contains k
def wbFree (ord : List (List Nat)) (E S : List Nat) (i : Nat) : Bool := !S.contains i && ((ord.getD i []).all fun k => !E.contains k || S.contains k) && (E.contains i || !S.any fun w => (ord.getD w []).contains i)
def wbNext (md : Bool) (call : Callee) (ord : List (List Nat)) (nms : List (Option Nat)) (al : List AOper) (G : Nat -> Env) (E : List Nat) (p : List Nat × AHeap) : WbTab :=
 E.filterMap fun i => if wbFree ord E p.1 i = true then match al[i]? with
  | some o => (wbOp md call (nms.getD i none) o (G i) p.2).map fun r => (wbIns E i p.1, r.2)
  | none => none else none
def wbOnce : WbTab -> WbTab -> WbTab
 | acc, [] => acc
 | acc, p :: r => if acc.any (fun q => q.1 == p.1) = true then wbOnce acc r else wbOnce (acc ++ [p]) r
def wbGrow (nx : List Nat × AHeap -> WbTab) : Nat -> WbTab -> WbTab
 | 0, fr => fr
 | n + 1, fr => fr ++ wbGrow nx n (wbOnce [] (fr.flatMap nx))
def wbAny (md : Bool) (callX : Callee) (F G : Env) (hb : AHeap) (o : AOper) : Bool :=
 (pureOp o.op || wbCall o.op) && quietOp o.op && match aopF md callX o.op G hb with
  | some r => wbIs F o.dst r.1
  | none => false
def wbWr (md : Bool) (callG : Callee) (ord : List (List Nat)) (nms : List (Option Nat)) (F G : Env) (E : List Nat) (T : WbTab) (i : Nat) (o : AOper) : Bool :=
 T.all fun p => !wbFree ord E p.1 i || match wbOp md callG (nms.getD i none) o G p.2, wbAt T (wbIns E i p.1) with
  | some r, some h2 => beqH r.2 h2 && wbIs F o.dst r.1
  | _, _ => false
def wbQu (md : Bool) (callP callG : Callee) (ord : List (List Nat)) (F G : Env) (E : List Nat) (T : WbTab) (i : Nat) (o : AOper) : Bool :=
 T.all fun p => !wbFree ord E p.1 i || (if wbCall o.op = true then match aopF md callG o.op G p.2 with
   | some r => beqH r.2 p.2 && wbIs F o.dst r.1
   | none => false
  else quietOp o.op && match aopF md callP o.op G p.2 with
   | some r => wbIs F o.dst r.1
   | none => false)
def webOK (md : Bool) (callX callP callG : Callee) (ord : List (List Nat)) (nms : List (Option Nat)) (al : List AOper) (F : Env) (G : Nat -> Env) (E : List Nat) (T : WbTab) (hb : AHeap) : Bool :=
 (E.all fun i => decide (i < al.length)) && (T.all fun p => beqG p.2.globs hb.globs) && (List.range al.length).all fun i => match al[i]? with
  | none => true
  | some o => match guardF (G i) o.guard with
   | none => false
   | some false => !E.contains i && wbIs F o.dst (.tuple [])
   | some true => if E.contains i = true then wbWr md callG ord nms F (G i) E T i o else wbAny md callX F (G i) hb o || wbQu md callP callG ord F (G i) E T i o
def webT (md : Bool) (callX callP callG : Callee) (ord : List (List Nat)) (nms : List (Option Nat)) (al : List AOper) (F : Env) (G : Nat -> Env) (E : List Nat) (hb : AHeap) (T : WbTab) : Option (Env × AHeap) :=
 if webOK md callX callP callG ord nms al F G E T hb = true then (wbAt T E).map fun h' => (F, h') else none
def webF (md : Bool) (callX callP callG : Callee) (ord : List (List Nat)) (GE : Env -> Nat -> Env) (al : List AOper) (env : Env) (h : AHeap) : Option (Env × AHeap) :=
 let nms := wbLays h.blks.length al
 let hb : AHeap := ⟨h.blks ++ List.replicate (nms.countP (·.isSome)) none, h.bufs, h.globs⟩
 (wbSeq md callG al nms 0 env hb).bind fun x => webT md callX callP callG ord nms al x.1 (GE x.1) x.2 hb (wbGrow (wbNext md callG ord nms al (GE x.1) x.2) x.2.length [([], hb)])
theorem asem_drawnS {P : Program} {N : Nat} {Q : Exit -> Env -> AHeap -> Prop} {env : Env} {h : AHeap} {ord : List (List Nat)} {al tl : List AOper} {F : Env} {h' : AHeap} {n : Nat} {H : (Nat -> Bool) -> Option AHeap} (hn : Web P (clo ord) al env F (fun _ => F) h h' n H) (hv : vops P tl F h' fun env' h' => Q .normal env' h') : asem P N (.drawn ord al tl) Q env h := by
 intro c hc σ a hs
 cases c <;> (try simp only [compCode, Option.bind_eq_some_iff, Option.map_eq_some_iff] at hc)
 case region id ops' d =>
  cases d <;> simp only [compCode, Option.bind_eq_some_iff, Option.map_eq_some_iff] at hc
  ·obtain ⟨_, _, hx⟩ := hc; cases hx
  ·obtain ⟨al', hal, tl', htl, hx⟩ := hc
   split at hx
   ·rename_i hcond
    cases hx
    obtain ⟨c2, c3⟩ := hcond
    rw [← c3] at hal htl
    exact drawn_soundS hal htl c2 hs hn hv
   ·split at hx <;> cases hx
 all_goals first
  | (cases hc; done)
  | (obtain ⟨_, _, hx⟩ := hc; cases hx; done)
  | (obtain ⟨_, _, _, _, hx⟩ := hc; cases hx; done)
  | (obtain ⟨_, _, _, _, _, _, hx⟩ := hc; cases hx; done)
theorem asem_late {P : Program} {N : Nat} {Q : Exit -> Env -> AHeap -> Prop} {env : Env} {h : AHeap} {ord : List (List Nat)} {al tl : List AOper} {F : Env} {h' : AHeap} {n : Nat} {H : (Nat -> Bool) -> Option AHeap} (hn : Web P (clo ord) al env F (lateE ord al env F) h h' n H) (hv : vops P tl F h' fun env' h' => Q .normal env' h') : asem P N (.late ord al tl) Q env h := by
 intro c hc σ a hs
 cases c <;> (try simp only [compCode, Option.bind_eq_some_iff, Option.map_eq_some_iff] at hc)
 case region id ops' d =>
  cases d <;> simp only [compCode, Option.bind_eq_some_iff, Option.map_eq_some_iff] at hc
  ·obtain ⟨_, _, hx⟩ := hc; cases hx
  ·obtain ⟨al', hal, tl', htl, hx⟩ := hc
   split at hx
   ·cases hx
   ·split at hx
    ·rename_i hcond
     cases hx
     obtain ⟨c2, c3⟩ := hcond
     rw [← c3] at hal htl
     exact late_sound hal htl c2 hs hn hv
    ·cases hx
 all_goals first
  | (cases hc; done)
  | (obtain ⟨_, _, hx⟩ := hc; cases hx; done)
  | (obtain ⟨_, _, _, _, hx⟩ := hc; cases hx; done)
  | (obtain ⟨_, _, _, _, _, _, hx⟩ := hc; cases hx; done)
theorem wbSeq_keep {md : Bool} {call : Callee} : ∀ {l : List AOper} {nms : List (Option Nat)} {i : Nat} {env : Env} {h : AHeap} {x : Env × List Nat}, wbSeq md call l nms i env h = some x -> ∀ t, writes t l = false -> get x.1 t = get env t
 | [], nms, i, env, h, x, he, t, ht => by simp [wbSeq] at he; subst he; rfl
 | o :: r, nms, i, env, h, x, he, t, ht => by
  have hw : writes t r = false /\ o.dst ≠ some t := by
   simp only [writes, List.any_cons, Bool.or_eq_false_iff] at ht
   exact ⟨ht.2, by simpa using ht.1⟩
  simp only [wbSeq, Option.bind_eq_some_iff] at he
  obtain ⟨b, h1, h2⟩ := he
  cases b with
  | false =>
   simp only at h2
   rw [wbSeq_keep h2 t hw.1, get_dropE, if_neg hw.2]
  | true =>
   simp only [Option.bind_eq_some_iff, Option.map_eq_some_iff] at h2
   obtain ⟨p, h3, y, h4, rfl⟩ := h2
   show get y.1 t = _
   rw [wbSeq_keep h4 t hw.1, get_putE, if_neg hw.2]
theorem wbOp_does {P : Program} {md : Bool} {call : Callee} (hc : CallOK P call) {nm : Option Nat} {o : AOper} {F G : Env} {h h2 : AHeap} {a : AV} (he : wbOp md call nm o G h = some (a, h2)) (hd : wbIs F o.dst a = true) : DoesH P F G h (some h2) o := by
 refine ⟨a, h2, rfl, ?_, wbIs_is hd⟩
 unfold wbOp at he
 split at he
 ·rename_i n cells ho
  split at he
  ·rename_i hn
   cases he
   exact .inl ⟨cells, n, ho, hn, rfl, rfl⟩
  ·cases he
 ·exact .inr (aopF_ok (K := fun x y => x = a /\ y = h2) hc he ⟨rfl, rfl⟩)
theorem wbGrow_first (nx : List Nat × AHeap -> WbTab) (n : Nat) (hb : AHeap) : wbAt (wbGrow nx n [([], hb)]) [] = some hb := by
 cases n <;> simp [wbGrow, wbAt]
theorem web_ok {P : Program} {md : Bool} {callX callP callG : Callee} (hcX : CallExt P callX) (hcP : CallOK P callP) (hcG : CallOK P callG) (hq : ∀ f args h a h', callP f args h = some (a, h') -> h' = h) {ord : List (List Nat)} {GE : Env -> Nat -> Env} {al : List AOper} {env : Env} {h : AHeap} {x : Env × AHeap} (he : webF md callX callP callG ord GE al env h = some x) :
  ∃ n H, Web P ord al env x.1 (GE x.1) h x.2 n H := by
 unfold webF at he
 simp only [Option.bind_eq_some_iff] at he
 obtain ⟨⟨F, E⟩, h1, h2⟩ := he
 generalize hT : wbGrow _ _ _ = T at h2
 have hT0 : wbAt T [] = some ⟨h.blks ++ List.replicate ((wbLays h.blks.length al).countP (·.isSome)) none, h.bufs, h.globs⟩ := by rw [← hT]; exact wbGrow_first _ _ _
 clear hT
 unfold webT at h2
 split at h2
 ·rename_i hok
  simp only [Option.map_eq_some_iff] at h2
  obtain ⟨h', h3, rfl⟩ := h2
  simp only [webOK, Bool.and_eq_true, List.all_eq_true, decide_eq_true_eq, List.mem_range] at hok
  obtain ⟨⟨hE, hG⟩, hok⟩ := hok
  refine ⟨(wbLays h.blks.length al).countP (·.isSome), fun L => wbAt T (E.filter L), ?_⟩
  have hin : ∀ (L : Nat -> Bool) k, k ∈ E -> (E.filter L).contains k = L k := by
   intro L k hk
   cases hl : L k with
   | true => simpa [List.contains_iff_mem, List.mem_filter] using ⟨hk, hl⟩
   | false =>
    cases hb : (E.filter L).contains k with
    | false => rfl
    | true =>
     have := List.mem_filter.1 (List.contains_iff_mem.1 hb)
     rw [hl] at this; cases this.2
  exact {
   cong := fun L L' hl => by
    show wbAt T (E.filter L) = wbAt T (E.filter L')
    rw [List.filter_congr fun i hi => hl i (hE i hi)]
   first := by
    show wbAt T (E.filter fun _ => false) = _
    rw [show E.filter (fun _ => false) = [] from List.filter_eq_nil_iff.2 (by simp)]; exact hT0
   last := fun hL hh => by
    have hh' : wbAt T (E.filter fun _ => true) = some hL := hh
    rw [show E.filter (fun _ => true) = E from List.filter_eq_self.2 (by simp), h3] at hh'
    exact (Option.some.inj hh').symm
   keep := fun t ht => wbSeq_keep h1 t ht
   step := fun L i o hL hi hun hcl hah hH => by
    have him := (List.getElem?_eq_some_iff.1 hi).1
    have hck := hok i him
    rw [hi] at hck
    simp only at hck

    have hH' : (T.find? fun p => p.1 == E.filter L).map (·.2) = some hL := hH
    simp only [Option.map_eq_some_iff] at hH'
    obtain ⟨⟨S, hS⟩, hf, rfl⟩ := hH'
    have hmem := List.mem_of_find?_eq_some hf
    have hSe : S = E.filter L := by simpa using List.find?_some hf
    subst hSe
    have hfree : wbFree ord E (E.filter L) i = true := by
     simp only [wbFree, Bool.and_eq_true, Bool.not_eq_true', List.all_eq_true, Bool.or_eq_true]
     refine ⟨⟨?_, ?_⟩, ?_⟩
     ·cases hb : (E.filter L).contains i with
      | false => rfl
      | true =>
       have := List.mem_filter.1 (List.contains_iff_mem.1 hb)
       rw [hun] at this; cases this.2
     ·intro k hk
      cases hb : E.contains k with
      | false => exact .inl rfl
      | true => right; rw [hin L k (List.contains_iff_mem.1 hb)]; exact hah k hk
     ·right
      cases hb : (E.filter L).any fun w => (ord.getD w []).contains i with
      | false => rfl
      | true =>
       obtain ⟨w, hw, hwi⟩ := List.any_eq_true.1 hb
       obtain ⟨hw1, hw2⟩ := List.mem_filter.1 hw
       have := hcl w i (hE w hw1) hw2 (List.contains_iff_mem.1 hwi)
       rw [hun] at this; cases this
    have hup : E.filter (wbUp L i) = wbIns E i (E.filter L) := by
     unfold wbIns
     apply List.filter_congr
     intro k hk
     rw [hin L k hk]
     show (if k = i then true else L k) = _
     by_cases hki : k = i
     ·simp [hki]
     ·rw [if_neg hki]; simp [hki]
    have hsame : E.contains i = false -> wbIns E i (E.filter L) = E.filter L := by
     intro hni
     unfold wbIns
     apply List.filter_congr
     intro k hk
     have hki : k ≠ i := by
      rintro rfl
      rw [List.contains_iff_mem.2 hk] at hni; cases hni
     rw [hin L k hk]; simp [hki]
    show FactH P F (GE F i) hS (wbAt T (E.filter (wbUp L i))) o
    rw [hup]
    have hcur : wbAt T (E.filter L) = some hS := hH
    have does : guardF (GE F i) o.guard = some true -> DoesH P F (GE F i) hS (wbAt T (wbIns E i (E.filter L))) o := by
     intro hg
     rw [hg] at hck
     simp only at hck
     split at hck
     ·have := List.all_eq_true.1 hck _ hmem
      simp only [hfree, Bool.not_true, Bool.false_or] at this
      split at this
      ·rename_i r h2 e1 e2
       simp only [Bool.and_eq_true] at this
       rw [e2]
       have heq := beqH_eq this.1
       exact wbOp_does hcG (a := r.1) (by rw [e1, ← heq]) this.2
      ·cases this
     ·rename_i hni
      have hni' : E.contains i = false := by simpa using hni
      rw [hsame hni', hcur]
      simp only [Bool.or_eq_true] at hck
      rcases hck with hck | hck
      ·simp only [wbAny, Bool.and_eq_true] at hck
       obtain ⟨⟨c1, c2⟩, c3⟩ := hck
       split at c3
       ·rename_i r e1
        exact ⟨r.1, hS, rfl, .inr (any_heap hcX (h' := r.2) c2 c1 e1 (beqG_eq (hG _ hmem))), wbIs_is c3⟩
       ·cases c3
      ·have := List.all_eq_true.1 hck _ hmem
       simp only [hfree, Bool.not_true, Bool.false_or] at this
       split at this
       ·split at this
        ·rename_i r e1
         simp only [Bool.and_eq_true] at this
         have heq := beqH_eq this.1
         exact ⟨r.1, hS, rfl, .inr (aopF_ok (K := fun x y => x = r.1 /\ y = hS) hcG (h' := r.2) e1 ⟨rfl, heq⟩), wbIs_is this.2⟩
        ·cases this
       ·simp only [Bool.and_eq_true] at this
        obtain ⟨c1, c2⟩ := this
        split at c2
        ·rename_i r e1
         have heq : r.2 = hS := aopF_quiet (a := r.1) hq c1 e1
         exact ⟨r.1, hS, rfl, .inr (aopF_ok (K := fun x y => x = r.1 /\ y = hS) hcP (h' := r.2) e1 ⟨rfl, heq⟩), wbIs_is c2⟩
        ·cases c2
    have skips : guardF (GE F i) o.guard = some false -> wbAt T (wbIns E i (E.filter L)) = some hS /\ ∀ d, o.dst = some d -> get F d = some (.tuple []) := by
     intro hg
     rw [hg] at hck
     simp only [Bool.and_eq_true, Bool.not_eq_true'] at hck
     exact ⟨by rw [hsame hck.1]; exact hcur, wbIs_is hck.2⟩
    unfold FactH
    cases hgd : o.guard with
    | none => exact does (by rw [hgd]; rfl)
    | some g =>
     obtain ⟨t, want⟩ := g
     simp only
     have hgs : ∃ b, guardF (GE F i) (some (t, want)) = some b := by
      rw [hgd] at hck
      cases hb : guardF (GE F i) (some (t, want)) with
      | none => rw [hb] at hck; cases hck
      | some b => exact ⟨b, rfl⟩
     obtain ⟨b, hb⟩ := hgs
     have := guardF_cases hb
     rcases this with ⟨c, hc, hbe⟩ | ⟨hc, rfl⟩
     ·refine .inl ⟨c, hc, fun hw => does ?_, fun hw => skips ?_⟩
      ·rw [hgd, hb, hbe, hw]; simp
      ·rw [hgd, hb, hbe]
       congr 1
       simpa using hw
     ·exact .inr ⟨hc, skips (by rw [hgd, hb])⟩ }
 ·cases h2
abbrev Tbl := List (Nat × (Nat × ACode × List ARes))
def isCC : ACode -> Bool
 | .from_ .skip 0 => true
 | _ => false
def CCOK (P : Program) (f : FuncId) (t : TypeId) : Prop := ∀ (h : AHeap) (n : Nat) (r : List AV), h.blks[n]? = some (some (.ps n t :: r)) -> ∀ K : AV -> AHeap -> Prop, K (.tuple []) h -> ACall P f [.ptr n 0] h K
def ccF (t : Nat) (args : List AV) (h : AHeap) : Option (AV × AHeap) :=
 match args with
 | [.ptr n 0] => match h.blks[n]? with
  | some (some (.ps m u :: _)) => if m = n /\ u = t then some (.tuple [], h) else none
  | _ => none
 | _ => none
theorem ccF_ok {P : Program} {f : FuncId} {t : Nat} (hc : CCOK P f t) {args : List AV} {h h' : AHeap} {a : AV} (he : ccF t args h = some (a, h')) : h.blks ≠ [] /\ ∀ K : AV -> AHeap -> Prop, K a h' -> ACall P f args h K := by
 unfold ccF at he
 split at he
 ·split at he
  ·rename_i hb
   split at he
   ·rename_i hm
    cases he
    obtain ⟨rfl, rfl⟩ := hm
    exact ⟨by rintro hn; rw [hn] at hb; simp at hb, fun K hk => hc h _ _ hb K hk⟩
   ·cases he
  ·cases he
 ·cases he
def knC (l : List AV) : ACode := .from_ (.cond (.c (.tuple l)) .skip .skip) 1
def isKn : ACode -> Option (List AV)
 | .from_ (.cond (.c (.tuple l)) .skip .skip) 1 => some l
 | _ => none
def knR : AV -> AV × List (Nat × List AV)
 | .agg [.glob g, .tuple cells, r] => (r, [(g, cells)])
 | r => (r, [])
def subG (need gl : List (Nat × List AV)) : Bool := need.all fun e => gl.any fun q => q.1 == e.1 && beqL q.2 e.2
def KnOK (P : Program) (f : FuncId) : List AV -> Prop
 | [] => False
 | r :: l => plain (knR r).1 = true /\ PureC P (knR r).2 f l fun b => b = (knR r).1
theorem PureC.more {P : Program} {need gl : List (Nat × List AV)} {f : FuncId} {l : List AV} {R : AV -> Prop} (h : PureC P need f l R) (hs : subG need gl = true) : PureC P gl f l R := by
 refine ⟨h.1, fun w outer cargs ho hg hr => h.2 w outer cargs ho (fun g cells hm => ?_) hr⟩
 have := List.all_eq_true.1 hs _ hm
 obtain ⟨q, hq, h2⟩ := List.any_eq_true.1 this
 simp only [Bool.and_eq_true, beq_iff_eq] at h2
 obtain ⟨q1, q2⟩ := q
 have e := beqL_eq _ _ h2.2
 simp only at h2 e
 rw [← e, ← h2.1]
 exact hg _ _ hq
def EntOK (P : Program) (g : FuncId) (x : Nat × ACode × List ARes) : Prop := match isKn x.2.1 with
 | some l => KnOK P g l
 | none => if isCC x.2.1 = true then CCOK P g x.1 else getFn P g = some x
def TblOK (P : Program) (T : Tbl) : Prop := ∀ g x, (g, x) ∈ T -> EntOK P g x
def known : Tbl -> Nat -> List (Nat × List AV) -> List AV -> Option AV
 | [], _, _, _ => none
 | (g, x) :: T, f, gl, args => match isKn x.2.1 with
  | none => none
  | some l => if g = f then (match l with
   | r :: l => if (beqL l args && subG (knR r).2 gl) = true then some (knR r).1 else known T f gl args
   | [] => known T f gl args) else known T f gl args
theorem known_ok {P : Program} : ∀ {T : Tbl} {f : Nat} {gl : List (Nat × List AV)} {args : List AV} {r : AV}, TblOK P T -> known T f gl args = some r -> PureC P gl f args fun b => b = r
 | [], f, gl, args, r, hT, h => by cases h
 | (g, x) :: T, f, gl, args, r, hT, h => by
  have hr : TblOK P T := fun g x hm => hT g x (by simp [hm])
  have h0 := hT g x (by simp)
  unfold known at h
  unfold EntOK at h0
  split at h
  ·cases h
  ·rename_i l hl
   rw [hl] at h0
   split at h
   ·rename_i hg
    subst hg
    split at h
    ·split at h
     ·rename_i hb
      cases h
      simp only [Bool.and_eq_true] at hb
      rw [beqL_eq _ _ hb.1] at h0
      exact h0.2.more hb.2
     ·exact known_ok hr h
    ·exact known_ok hr h
   ·exact known_ok hr h
def look : Tbl -> Nat -> Option (Nat × ACode × List ARes)
 | [], _ => none
 | (g, x) :: r, f => if g = f then (match isKn x.2.1 with | none => some x | some _ => look r f) else look r f
theorem look_mem : ∀ {T : Tbl} {f : Nat} {x : Nat × ACode × List ARes}, look T f = some x -> (f, x) ∈ T /\ isKn x.2.1 = none
 | [], f, x, h => by cases h
 | (g, y) :: r, f, x, h => by
  unfold look at h
  split at h
  ·rename_i hg
   subst hg
   split at h
   ·rename_i hn; cases h; exact ⟨by simp, hn⟩
   ·exact ⟨by simp [(look_mem h).1], (look_mem h).2⟩
  ·exact ⟨by simp [(look_mem h).1], (look_mem h).2⟩
def dedup : Env -> Env
 | [] => []
 | (t, a) :: e => (t, a) :: drop t (dedup e)
theorem drop_mem : ∀ {e : Env} {t u : Nat} {b : AV}, (u, b) ∈ drop t e -> u ≠ t /\ (u, b) ∈ e
 | [], t, u, b, h => by simp [drop] at h
 | (k, a) :: e, t, u, b, h => by
  simp only [drop] at h
  split at h
  ·obtain ⟨h1, h2⟩ := drop_mem h; exact ⟨h1, by simp [h2]⟩
  ·rename_i hk
   rcases List.mem_cons.1 h with h | h
   ·cases h; exact ⟨hk, by simp⟩
   ·obtain ⟨h1, h2⟩ := drop_mem h; exact ⟨h1, by simp [h2]⟩
theorem dedup_mem : ∀ {e : Env} {u : Nat} {b : AV}, (u, b) ∈ dedup e -> get e u = some b
 | [], u, b, h => by simp [dedup] at h
 | (t, a) :: e, u, b, h => by
  simp only [dedup, List.mem_cons] at h
  rcases h with h | h
  ·cases h; simp [get]
  ·obtain ⟨h1, h2⟩ := drop_mem h
   simp only [get]
   rw [if_neg (fun x => h1 x.symm)]
   exact dedup_mem h2
theorem envLe_of : ∀ {e env : Env}, (∀ u b, (u, b) ∈ e -> get env u = some b) -> EnvLe e env
 | [], _, _ => trivial
 | (t, a) :: e, env, h => ⟨h t a (by simp), envLe_of fun u b hu => h u b (by simp [hu])⟩
theorem dedup_le (e : Env) : EnvLe (dedup e) e := envLe_of fun _ _ h => dedup_mem h
def outsF (env : Env) (h : AHeap) : List ARes -> Option (List AV)
 | [] => some []
 | .tmp t :: r => (get env t).bind fun a => (outsF env h r).map fun l => a :: l
 | .cell t n :: r => (get env t).bind fun p => (loadedF h n p).bind fun a => (outsF env h r).map fun l => a :: l
theorem outsF_ok {env : Env} {h : AHeap} : ∀ {rs : List ARes} {l : List AV} {K : List AV -> Prop}, outsF env h rs = some l -> K l -> outs env h rs K
 | [], l, K, he, hk => by cases he; exact hk
 | .tmp t :: r, l, K, he, hk => by
  simp only [outsF, Option.bind_eq_some_iff, Option.map_eq_some_iff] at he
  obtain ⟨a, h1, l', h2, rfl⟩ := he
  simp only [outs, h1, wv]
  exact outsF_ok (K := fun l => K (a :: l)) h2 hk
 | .cell t n :: r, l, K, he, hk => by
  simp only [outsF, Option.bind_eq_some_iff, Option.map_eq_some_iff] at he
  obtain ⟨p, h1, a, h2, l', h3, rfl⟩ := he
  simp only [outs, h1, wv]
  exact loadedF_ok (K := fun a => outs env h r fun l => K (a :: l)) h2 (outsF_ok (K := fun l => K (a :: l)) h3 hk)
abbrev Runner := Bool -> ACode -> Env -> AHeap -> Option (Exit × Env × AHeap)
def ended : Exit -> Bool
 | .normal | .ret => true
 | _ => false
def fnAt (T : Tbl) (M : Nat -> Bool -> Bool) (md : Bool) (ih : Runner) : Callee := fun f args h => (look T f).bind fun x =>
 if isCC x.2.1 = true then ccF x.1 args h else
 if args.length <= x.1 then (ih (M f md) x.2.1 (envOf 0 args) h).bind fun r => if ended r.1 = true then (outsF r.2.1 r.2.2 x.2.2).map fun l => (retv l, r.2.2) else none else none
def outV (h : AHeap) (a : AV) : AV := if plain (wk a) = true then wk a else thawN 8 h (wk a)
def thawL (h : AHeap) (l : List AV) : List AV := l.map fun a => thawN 8 h (wk a)
def fnP (T : Tbl) (M : Nat -> Bool -> Bool) (md : Bool) (ih : Runner) : Callee := fun f args h =>
 if (plainG h.globs && !(M f md && !M f false)) = true then
  if plainL (args.map wk) = true then match known T f h.globs (args.map wk) with
   | some r => some (r, h)
   | none => (fnAt T M md ih f (args.map wk) ⟨[], [], h.globs⟩).bind fun r => if plain (outV r.2 r.1) = true then some (outV r.2 r.1, h) else none
  else if plainL (thawL h args) = true then (fnAt T M md ih f (thawL h args) ⟨[], [], h.globs⟩).bind fun r => if plain (outV r.2 r.1) = true /\ bareV (outV r.2 r.1) = true then some (outV r.2 r.1, h) else none
  else none
 else none
def fnX (T : Tbl) (M : Nat -> Bool -> Bool) (md : Bool) (ih : Runner) : Callee := fun f args h =>
 if (plainG h.globs && !(M f md && !M f false)) = true /\ plainL (args.map wk) = true then match known T f h.globs (args.map wk) with
  | some r => some (r, h)
  | none => (fnAt T M md ih f (args.map wk) ⟨[], [], h.globs⟩).bind fun r => if plain (outV r.2 r.1) = true then some (outV r.2 r.1, h) else none
 else none
def fnG (T : Tbl) (M : Nat -> Bool -> Bool) (md : Bool) (ih : Runner) : Callee := fun f args h => if plainL args = true then (match fnP T M md ih f args h with | some r => some r | none => fnAt T M md ih f args h) else fnAt T M md ih f args h
def stepC (T : Tbl) (M : Nat -> Bool -> Bool) (ih : Runner) : Runner := fun md ac env h =>
 match ac with
 | .skip => some (.normal, env, h)
 | .region ops => (vopsF md (fnG T M md ih) ops env h).map fun r => (.normal, r.1, r.2)
 | .drawn ord al tl => match (if (al.all fun o => quietOp o.op) = true then vqF md (fnP T M md ih) al env h else none) with
  | some F => (vopsF md (fnG T M md ih) tl F h).map fun r => (.normal, r.1, r.2)
  | none => (webF md (fnX T M md ih) (fnP T M md ih) (fnG T M md ih) (Lift.clo ord) (fun F _ => F) al env h).bind fun x => (vopsF md (fnG T M md ih) tl x.1 x.2).map fun r => (.normal, r.1, r.2)
 | .late ord al tl => (webF md (fnX T M md ih) (fnP T M md ih) (fnG T M md ih) (Lift.clo ord) (lateE ord al env) al env h).bind fun x => (vopsF md (fnG T M md ih) tl x.1 x.2).map fun r => (.normal, r.1, r.2)
 | .seq a b => (ih md a env h).bind fun r => match r.1 with
  | .normal => ih md b r.2.1 r.2.2
  | _ => some r
 | .cond c a b => (c.ev env).bind fun v => match v with
  | .v (.bool true) => ih md a env h
  | .v (.bool false) => ih md b env h
  | _ => none
 | .block id a => (ih md a env h).map fun r => match r.1 with
  | .exit i => (if i = id then .normal else .exit i, r.2)
  | _ => r
 | .loop a => (ih md a (dedup env) h).bind fun r => match r.1 with
  | .normal => ih md (.loop a) r.2.1 r.2.2
  | _ => some r
 | .exit id => some (.exit id, env, h)
 | .ret => some (.ret, env, h)
 | .label _ => some (.normal, env, h)
 | .goto l => some (.goto l, env, h)
 | .scope a => (ih md a env h).bind fun r => match r.1 with
  | .goto l => ih md (.from_ a l) r.2.1 r.2.2
  | _ => some r
 | .from_ a l => (aFind a l).bind fun rest => (ih md rest (dedup env) h).bind fun r => match r.1 with
  | .goto l' => if l' = l then ih md (.from_ a l) r.2.1 r.2.2 else none
  | _ => some r
noncomputable def evC (T : Tbl) (M : Nat -> Bool -> Bool) (n : Nat) : Runner := Nat.rec (fun _ _ _ _ => none) (fun _ ih => stepC T M ih) n
def RunOK (P : Program) (ih : Runner) : Prop := ∀ md ac env h r, ih md ac env h = some r -> ∀ (N : Nat) (Q : Exit -> Env -> AHeap -> Prop), Q r.1 r.2.1 r.2.2 -> asem P N ac Q env h
theorem fnAt_body {P : Program} {T : Tbl} {M : Nat -> Bool -> Bool} {md : Bool} (hT : TblOK P T) {ih : Runner} (hi : RunOK P ih) {f : FuncId} {args : List AV} {h h' : AHeap} {a : AV} (he : fnAt T M md ih f args h = some (a, h')) :
  (h.blks ≠ [] /\ ∀ K : AV -> AHeap -> Prop, K a h' -> ACall P f args h K) ∨ ∃ N ac rs, getFn P f = some (N, ac, rs) /\ args.length <= N /\ ∀ K : AV -> AHeap -> Prop, K a h' -> asem P N ac (fnPost rs K) (envOf 0 args) h := by
 simp only [fnAt, Option.bind_eq_some_iff] at he
 obtain ⟨⟨N, ac, rs⟩, h1, h2⟩ := he
 simp only at h2
 have hok := hT _ _ (look_mem h1).1
 unfold EntOK at hok
 rw [(look_mem h1).2] at hok
 split at h2
 ·rename_i hcc
  rw [if_pos hcc] at hok
  exact .inl (ccF_ok hok h2)
 rename_i hcc
 rw [if_neg hcc] at hok
 refine .inr ?_
 split at h2
 ·rename_i hn
  simp only [Option.bind_eq_some_iff] at h2
  obtain ⟨⟨e, env, h2'⟩, h3, h4⟩ := h2
  simp only at h4
  split at h4
  ·rename_i hend
   simp only [Option.map_eq_some_iff, Prod.mk.injEq] at h4
   obtain ⟨l, h5, rfl, rfl⟩ := h4
   refine ⟨N, ac, rs, hok, hn, fun K hk => hi _ _ _ _ _ h3 N _ ?_⟩
   cases e <;> simp [ended] at hend
   ·exact outsF_ok (K := fun l => K (retv l) h2') h5 hk
   ·exact outsF_ok (K := fun l => K (retv l) h2') h5 hk
  ·cases h4
 ·cases h2
theorem fnAt_ok {P : Program} {T : Tbl} {M : Nat -> Bool -> Bool} {md : Bool} (hT : TblOK P T) {ih : Runner} (hi : RunOK P ih) : CallOK P (fnAt T M md ih) := by
 intro f args h a h' he K hk
 rcases fnAt_body hT hi he with h0 | ⟨N, ac, rs, h1, h2, h3⟩
 ·exact h0.2 K hk
 exact call_of h1 h2 (h3 K hk)
theorem fnP_pure {P : Program} {T : Tbl} {M : Nat -> Bool -> Bool} {md : Bool} (hT : TblOK P T) {ih : Runner} (hi : RunOK P ih) {f : FuncId} {args : List AV} {gl : List (Nat × List AV)} {a : AV} {h' : AHeap} (he : fnAt T M md ih f args ⟨[], [], gl⟩ = some (a, h')) (hp : plain (outV h' a) = true) :
  PureC P gl f args fun b => b = outV h' a := by
 rcases fnAt_body hT hi he with h0 | ⟨N, ac, rs, h1, h2, h3⟩
 ·exact absurd rfl h0.1
 unfold outV at hp ⊢
 split at hp
 ·rename_i hpl; rw [if_pos hpl]; exact pure_of h1 h2 (h3 _ ⟨hp, rfl⟩)
 ·rename_i hpl; rw [if_neg hpl]; exact pure_of_thaw 8 h1 h2 (h3 _ ⟨hp, rfl⟩)
theorem fnP_ok {P : Program} {T : Tbl} {M : Nat -> Bool -> Bool} {md : Bool} (hT : TblOK P T) {ih : Runner} (hi : RunOK P ih) : CallOK P (fnP T M md ih) := by
 intro f args h a h' he K hk
 simp only [fnP] at he
 split at he
 ·rename_i hg0
  have hg : plainG h.globs = true := by simp only [Bool.and_eq_true] at hg0; exact hg0.1
  split at he
  ·rename_i hc
   split at he
   ·rename_i r hr
    cases he
    exact pure_call (known_ok hT hr) hg rfl hc fun av hav => by subst hav; exact hk
   simp only [Option.bind_eq_some_iff] at he
   obtain ⟨⟨b, h2⟩, h3, h4⟩ := he
   simp only at h4
   split at h4
   ·rename_i hp
    cases h4
    exact pure_call (fnP_pure hT hi h3 hp) hg rfl hc fun av hav => by subst hav; exact hk
   ·cases h4
  ·split at he
   ·rename_i hc
    simp only [Option.bind_eq_some_iff] at he
    obtain ⟨⟨b, h2⟩, h3, h4⟩ := he
    simp only at h4
    split at h4
    ·rename_i hp
     cases h4
     exact pure_call_v 8 (fnP_pure hT hi h3 hp.1) hg rfl hc (fun av hav => by subst hav; exact hp.2) fun av hav => by subst hav; exact hk
    ·cases h4
   ·cases he
 ·cases he
theorem fnP_same {T : Tbl} {M : Nat -> Bool -> Bool} {md : Bool} {ih : Runner} : ∀ f args h a h', fnP T M md ih f args h = some (a, h') -> h' = h := by
 intro f args h a h' he
 simp only [fnP] at he
 split at he
 ·split at he
  ·split at he
   ·cases he; rfl
   simp only [Option.bind_eq_some_iff] at he
   obtain ⟨r, h3, h4⟩ := he
   split at h4 <;> cases h4
   rfl
  ·split at he
   ·simp only [Option.bind_eq_some_iff] at he
    obtain ⟨r, h3, h4⟩ := he
    split at h4 <;> cases h4
    rfl
   ·cases he
 ·cases he
theorem fnX_ok {P : Program} {T : Tbl} {M : Nat -> Bool -> Bool} {md : Bool} (hT : TblOK P T) {ih : Runner} (hi : RunOK P ih) : CallExt P (fnX T M md ih) := by
 intro f args h a h' he
 simp only [fnX] at he
 split at he
 ·rename_i hc0
  have hc : plainG h.globs = true /\ plainL (args.map wk) = true := by simp only [Bool.and_eq_true] at hc0; exact ⟨hc0.1.1, hc0.2⟩
  split at he
  ·rename_i r hr
   cases he
   refine ⟨rfl, fun h2 hg K hk => ?_⟩
   have := known_ok hT hr
   rw [← hg] at this
   exact pure_call this (by rw [hg]; exact hc.1) rfl hc.2 fun av hav => by subst hav; exact hk
  simp only [Option.bind_eq_some_iff] at he
  obtain ⟨⟨b, h2⟩, h3, h4⟩ := he
  simp only at h4
  split at h4
  ·rename_i hp
   cases h4
   refine ⟨rfl, fun h2 hg K hk => ?_⟩
   have := fnP_pure hT hi h3 hp
   rw [← hg] at this
   exact pure_call this (by rw [hg]; exact hc.1) rfl hc.2 fun av hav => by subst hav; exact hk
  ·cases h4
 ·cases he
theorem fnG_ok {P : Program} {T : Tbl} {M : Nat -> Bool -> Bool} {md : Bool} (hT : TblOK P T) {ih : Runner} (hi : RunOK P ih) : CallOK P (fnG T M md ih) := by
 intro f args h a h' he K hk
 simp only [fnG] at he
 split at he
 ·split at he
  ·rename_i r hr
   cases he
   exact fnP_ok hT hi _ _ _ _ _ hr K hk
  ·exact fnAt_ok hT hi _ _ _ _ _ he K hk
 ·exact fnAt_ok hT hi _ _ _ _ _ he K hk
theorem no_from {P : Program} {N : Nat} {Q : Exit -> Env -> AHeap -> Prop} {env : Env} {h : AHeap} {a : ACode} {l : Nat} : asem P N (.from_ a l) Q env h := by
 intro c hc
 exfalso
 cases c <;> (try simp only [compCode, Option.bind_eq_some_iff, Option.map_eq_some_iff] at hc)
 case region id ops d =>
  cases d <;> simp only [compCode, Option.bind_eq_some_iff, Option.map_eq_some_iff] at hc
  ·obtain ⟨_, _, hx⟩ := hc; cases hx
  ·obtain ⟨_, _, _, _, hx⟩ := hc; (repeat' split at hx) <;> cases hx
 all_goals first
  | (cases hc; done)
  | (obtain ⟨_, _, hx⟩ := hc; cases hx; done)
  | (obtain ⟨_, _, _, _, hx⟩ := hc; cases hx; done)
  | (obtain ⟨_, _, _, _, _, _, hx⟩ := hc; cases hx; done)
theorem evC_ok {P : Program} {T : Tbl} {M : Nat -> Bool -> Bool} (hT : TblOK P T) (n : Nat) : RunOK P (evC T M n) := by
 induction n using Nat.strongRecOn with
 | _ n IH =>
 cases n with
 | zero => intro md ac env h r he; cases he
 | succ n =>
  have hi := IH n (by omega)
  intro md ac env h r he N Q hq
  have he' : stepC T M (evC T M n) md ac env h = some r := he
  cases ac with
  | skip => cases he'; exact asem_skip hq
  | exit id => cases he'; exact asem_exit hq
  | ret => cases he'; exact asem_ret hq
  | label l => cases he'; exact asem_label hq
  | goto l => cases he'; exact asem_goto hq
  | from_ a l => exact no_from
  | scope a =>
   simp only [stepC, Option.bind_eq_some_iff] at he'
   obtain ⟨⟨x, env1, h1⟩, h2, h3⟩ := he'
   cases x <;> simp only at h3
   case goto l =>
    cases hf : aFind a l with
    | none =>
     exfalso
     cases n with
     | zero => cases h3
     | succ n =>
      have h3' : stepC T M (evC T M n) md (.from_ a l) env1 h1 = some r := h3
      simp only [stepC, hf, Option.bind_none] at h3'
      cases h3'
    | some rest =>
     refine asem_jumps l hf (fun m e h => m <= n /\ ∃ e', e = dedup e' /\ evC T M m md (.from_ a l) e' h = some r) (hi _ _ _ _ _ h2 N _ ⟨rfl, n, dedup env1, dedup_le env1, Nat.le_refl _, env1, rfl, h3⟩) ?_
     rintro m e h ⟨hm, e', rfl, hr⟩
     cases m with
     | zero => cases hr
     | succ m =>
      have hr' : stepC T M (evC T M m) md (.from_ a l) e' h = some r := hr
      simp only [stepC, hf, Option.bind_some, Option.bind_eq_some_iff] at hr'
      obtain ⟨⟨y, env2, h4⟩, h5, h6⟩ := hr'
      refine IH m (by omega) _ _ _ _ _ h5 N _ ?_
      cases y <;> simp only at h6
      case goto l' =>
       split at h6
       ·rename_i hl; exact ⟨hl, m, dedup env2, by omega, dedup_le env2, by omega, env2, rfl, h6⟩
       ·cases h6
      all_goals (cases h6; first | exact hq | exact hq)
   all_goals (cases h3; exact asem_scope (hi _ _ _ _ _ h2 N _ hq))
  | region ops =>
   simp only [stepC, Option.map_eq_some_iff] at he'
   obtain ⟨r1, h1, rfl⟩ := he'
   exact asem_region (vopsF_ok (fnG_ok hT hi) h1 hq)
  | drawn ord al tl =>
   simp only [stepC] at he'
   split at he'
   ·rename_i F hF
    split at hF
    ·simp only [Option.map_eq_some_iff] at he'
     obtain ⟨r1, h2, rfl⟩ := he'
     exact asem_drawn (vqF_ok (fnP_ok hT hi) fnP_same hF (vopsF_ok (fnG_ok hT hi) h2 hq))
    ·cases hF
   ·simp only [Option.bind_eq_some_iff, Option.map_eq_some_iff] at he'
    obtain ⟨x, h1, r1, h2, rfl⟩ := he'
    obtain ⟨n', H, hw⟩ := web_ok (fnX_ok hT hi) (fnP_ok hT hi) (fnG_ok hT hi) fnP_same h1
    exact asem_drawnS hw (vopsF_ok (fnG_ok hT hi) h2 hq)
  | late ord al tl =>
   simp only [stepC, Option.bind_eq_some_iff, Option.map_eq_some_iff] at he'
   obtain ⟨x, h1, r1, h2, rfl⟩ := he'
   obtain ⟨n', H, hw⟩ := web_ok (fnX_ok hT hi) (fnP_ok hT hi) (fnG_ok hT hi) fnP_same h1
   exact asem_late hw (vopsF_ok (fnG_ok hT hi) h2 hq)
  | seq a b =>
   simp only [stepC, Option.bind_eq_some_iff] at he'
   obtain ⟨⟨e, env1, h1⟩, h2, h3⟩ := he'
   refine asem_seq (hi _ _ _ _ _ h2 N _ ?_)
   cases e <;> simp only at h3
   case normal => exact hi _ _ _ _ _ h3 N Q hq
   all_goals (cases h3; exact hq)
  | cond c a b =>
   simp only [stepC, Option.bind_eq_some_iff] at he'
   obtain ⟨v, h1, h2⟩ := he'
   split at h2
   ·exact asem_cond_b h1 (fun _ => hi _ _ _ _ _ h2 N Q hq) (fun h => by cases h)
   ·exact asem_cond_b h1 (fun h => by cases h) (fun _ => hi _ _ _ _ _ h2 N Q hq)
   ·cases h2
  | block id a =>
   simp only [stepC, Option.map_eq_some_iff] at he'
   obtain ⟨⟨e, env1, h1⟩, h2, h3⟩ := he'
   refine asem_block (hi _ _ _ _ _ h2 N _ ?_)
   cases e <;> simp only at h3
   case exit i =>
    subst h3
    show (if i = id then Q .normal env1 h1 else Q (.exit i) env1 h1)
    split
    ·rename_i hid; simp only [hid, if_true] at hq; exact hq
    ·rename_i hid; simp only [hid, if_false] at hq; exact hq
   all_goals (subst h3; exact hq)
  | loop a =>
   refine asem_loop (fun m e h => m <= n + 1 /\ ∃ e', e = dedup e' /\ evC T M m md (.loop a) e' h = some r) (n + 1) (dedup env) ⟨dedup_le env, Nat.le_refl _, env, rfl, he⟩ ?_
   rintro m e h ⟨hm, e', rfl, hr⟩
   cases m with
   | zero => cases hr
   | succ m =>
    have hr' : stepC T M (evC T M m) md (.loop a) e' h = some r := hr
    simp only [stepC, Option.bind_eq_some_iff] at hr'
    obtain ⟨⟨x, env1, h1⟩, h2, h3⟩ := hr'
    refine IH m (by omega) _ _ _ _ _ h2 N _ ?_
    cases x <;> simp only at h3
    case normal => exact ⟨m, dedup env1, by omega, dedup_le env1, by omega, env1, rfl, h3⟩
    all_goals (cases h3; exact hq)
theorem run_closed {P : Program} {T : Tbl} {M : Nat -> Bool -> Bool} {md : Bool} (hT : TblOK P T) (n : Nat) {f : FuncId} {args : List AV} {gl : List (Nat × List AV)} {a : AV} (he : (fnAt T M md (evC T M n) f args ⟨[], [], gl⟩).map (fun r => outV r.2 r.1) = some a) (hp : plain a = true) :
  PureC P gl f args fun b => b = a := by
 simp only [Option.map_eq_some_iff] at he
 obtain ⟨⟨b, h'⟩, h1, rfl⟩ := he
 exact fnP_pure hT (evC_ok hT n) h1 hp
def isNew (o : AOper) : Bool := match o.op, o.guard with
 | .alloc _, none => true
 | _, _ => false
def isChange (o : AOper) : Bool := !quietOp o.op && !isNew o
theorem a_min2 {P : Program} {env : Env} {h : AHeap} {K : AV -> AHeap -> Prop} {x y : AOpd} {k k' : IntKind} {a b : Int} (hx : x.ev env = some (.v (.int k a))) (hy : y.ev env = some (.v (.int k' b))) (hk : K (.v (.int k (if b < a then b else a))) h) : A P (.minmax false [x, y]) env h K :=
 a_minmax (l := [.v (.int k a), .v (.int k' b)]) (v := .int k (if b < a then b else a)) (by simp [evs, hx, hy]) (by simp [mmx]) hk
theorem a_max2 {P : Program} {env : Env} {h : AHeap} {K : AV -> AHeap -> Prop} {x y : AOpd} {k k' : IntKind} {a b : Int} (hx : x.ev env = some (.v (.int k a))) (hy : y.ev env = some (.v (.int k' b))) (hk : K (.v (.int k (if a < b then b else a))) h) : A P (.minmax true [x, y]) env h K :=
 a_minmax (l := [.v (.int k a), .v (.int k' b)]) (v := .int k (if a < b then b else a)) (by simp [evs, hx, hy]) (by simp [mmx]) hk
def nz1 : AV -> AV
 | .nil => .sl [] .no
 | .sl els _ => .sl els .no
 | x => x
def nzA : AV -> AV
 | .agg cs => .agg (cs.map nz1)
 | x => nz1 x
def nz : AV -> AV
 | .tuple vs => .tuple (vs.map nzA)
 | x => nzA x
theorem nz1_cell (av : AV) : (nz1 av).isCell = av.isCell := by cases av <;> rfl
theorem Rel.nz1 {σ : Sg} {av : AV} {x : Value} (hr : Rel σ av x) : Rel σ (nz1 av) x := by
 cases av with
 | nil => cases hr; exact .sl0 _ trivial
 | sl els tok =>
  show Rel σ (.sl els .no) x
  cases hr with
  | sl0 _ _ => exact .sl0 _ trivial
  | slx _ a cap _ _ => exact .slx _ a cap trivial (.inl rfl)
  | sl _ _ b o cap size xs hs hcap ht hz hc hr => exact .sl _ _ b o cap size xs hs hcap trivial (fun id e h => by cases h) hc hr
 | _ => exact hr
theorem Cells.nz {σ : Sg} {cells : List AV} {vs : List Value} (hc : Cells σ cells vs) : Cells σ (cells.map nz1) vs := by
 refine ⟨by simp [hc.1], fun i av hi => ?_⟩
 simp only [List.getElem?_map, Option.map_eq_some_iff] at hi
 obtain ⟨b, hb, rfl⟩ := hi
 obtain ⟨h1, x, h2, h3⟩ := hc.2 i b hb
 exact ⟨by rw [nz1_cell]; exact h1, x, h2, h3.nz1⟩
theorem Rel.nzA {σ : Sg} {av : AV} {x : Value} (hr : Rel σ av x) : Rel σ (nzA av) x := by
 unfold Lift.nzA
 split
 ·obtain ⟨xs, rfl, hc⟩ := hr.agg_inv
  exact Rel.agg_mk' hc.nz
 ·exact hr.nz1
theorem Rel.nz {σ : Sg} {av : AV} {x : Value} (hr : Rel σ av x) : Rel σ (nz av) x := by
 unfold Lift.nz
 split
 ·cases hr with
  | tuple vs xs hn y hx hr =>
   refine .tuple _ _ (by simp [hn]) y (fun i av hi => ?_) (fun i av hi => ?_)
   ·simp only [List.getElem?_map, Option.map_eq_some_iff] at hi
    obtain ⟨b, hb, rfl⟩ := hi
    exact hx i b hb
   ·simp only [List.getElem?_map, Option.map_eq_some_iff] at hi
    obtain ⟨b, hb, rfl⟩ := hi
    exact (hr i b hb).nzA
 ·exact hr.nzA
theorem plain_nz1 (a : AV) (h : plain (nz1 a) = true) : plain (wk1 a) = true := by
 cases a with
 | sl els tok => cases tok <;> simpa [nz1, wk1, plain] using h
 | _ => first | rfl | exact h
theorem plainL_nz : ∀ (l : List AV), plainL (l.map nz1) = true -> plainL (l.map wk1) = true
 | [], _ => rfl
 | a :: r, h => by
  simp only [List.map_cons, plainL, Bool.and_eq_true] at h ⊢
  exact ⟨plain_nz1 a h.1, plainL_nz r h.2⟩
theorem plain_nzA (a : AV) (h : plain (nzA a) = true) : plain (wkA a) = true := by
 cases a with
 | agg cs => simp only [nzA, wkA, plain] at h ⊢; exact plainL_nz cs h
 | sl els tok => cases tok <;> simpa [nzA, wkA, nz1, wk1, plain] using h
 | _ => first | rfl | exact h
theorem plainL_nzA : ∀ (l : List AV), plainL (l.map nzA) = true -> plainL (l.map wkA) = true
 | [], _ => rfl
 | a :: r, h => by
  simp only [List.map_cons, plainL, Bool.and_eq_true] at h ⊢
  exact ⟨plain_nzA a h.1, plainL_nzA r h.2⟩
theorem plain_nz (a : AV) (h : plain (nz a) = true) : plain (wk a) = true := by
 cases a with
 | tuple vs => simp only [nz, wk, plain] at h ⊢; exact plainL_nzA vs h
 | agg cs => exact plain_nzA (.agg cs) h
 | sl els tok => exact plain_nzA (.sl els tok) h
 | _ => first | rfl | exact h
theorem nz1_wk (a : AV) : nz1 (wk1 a) = nz1 a := by
 cases a with
 | sl els tok => cases tok <;> rfl
 | _ => rfl
theorem nzA_wk (a : AV) : nzA (wkA a) = nzA a := by
 cases a with
 | agg cs => simp only [wkA, nzA, List.map_map]; congr 1; exact List.map_congr_left fun x _ => nz1_wk x
 | sl els tok => cases tok <;> rfl
 | _ => rfl
theorem nz_wk (a : AV) : nz (wk a) = nz a := by
 cases a with
 | tuple vs => simp only [wk, nz, List.map_map]; congr 1; exact List.map_congr_left fun x _ => nzA_wk x
 | agg cs => exact nzA_wk (.agg cs)
 | sl els tok => cases tok <;> rfl
 | _ => rfl
def PureN (P : Program) (gl : List (Nat × List AV)) (f : FuncId) (args : List AV) (r : AV) : Prop := PureC P gl f args fun a => nz a = r
theorem pure_call_n {P : Program} {f : FuncId} {args args' : List AV} {r : AV} {h : AHeap} {K : AV -> AHeap -> Prop} (hf : PureN P h.globs f args r) (hgl : plainG h.globs = true) (ha : args'.map nz = args) (hp : plainL args = true) (hk : K r h) : ACall P f args' h K := by
 refine ⟨hf.1, fun σ cargs hi hr => ?_⟩
 have hopen : ∀ b o, σ.open_ b o -> b < σ.w.heap.size := by
  rintro b o (ho | ⟨n, hn⟩ | ⟨id, e, he, hs⟩)
  ·exact (hi.outer b o ho).1
  ·exact hi.lt hn
  ·exact hi.buflt id e b o he hs
 have hrels : Rels (bare σ.w σ.open_) args cargs.toList := by
  refine ⟨by rw [hr.1, ← ha]; simp, fun i av hav => ?_⟩
  have hav' := hav
  rw [← ha] at hav
  simp only [List.getElem?_map, Option.map_eq_some_iff] at hav
  obtain ⟨b, hb, rfl⟩ := hav
  obtain ⟨x, h1, h2⟩ := hr.2 i b hb
  exact ⟨x, h1, h2.nz.down (plainL_get hp i _ hav') rfl fun _ _ h => h⟩
 have hglobs : Globs σ.w σ.open_ h.globs := fun g cells hg => (hi.glob g cells hg).down (by simp only [plain]; exact List.all_eq_true.1 hgl _ hg) rfl fun _ _ h => h
 refine (hf.2 σ.w σ.open_ cargs hopen hglobs hrels).mono fun e w' hq => ?_
 obtain ⟨av, x, rfl, hpast, hrel, hR⟩ := hq
 exact ⟨{ σ with w := w' }, h, nz av, x, rfl, rfl, Le.world hpast, hi.world hpast, (hrel.nz).up (fun _ => rfl) (fun _ => rfl) rfl (fun b o ho => .inl ho), by rw [hR]; exact hk⟩
def qret (rs : List ARes) (r : AV) : Exit -> Env -> AHeap -> Prop
 | .normal, env, h => outs env h rs fun l => plain (wk (retv l)) = true /\ nz (wk (retv l)) = r
 | .ret, env, h => outs env h rs fun l => plain (wk (retv l)) = true /\ nz (wk (retv l)) = r
 | _, _, _ => False
section
variable {P : Program} {h h' : AHeap} {env env' : Env} {N : Nat} {Q : Exit -> Env -> AHeap -> Prop} {K : Env -> AHeap -> Prop} {L : List AOper} {k : Nat}
theorem f_pureN {gl : List (Nat × List AV)} {f : FuncId} {ac : ACode} {rs : List ARes} (hf : getFn P f = some (N, ac, rs)) {args : List AV} {r : AV} {e₀ : Env} (hn : args.length <= N) (he : envOf 0 args = e₀)
  (hbody : C P N ac (qret rs r) e₀ ⟨[], [], gl⟩) : PureN P gl f args r := by
 subst he
 refine pure_of hf hn (asem_mono hbody.out fun e env h hq => ?_)
 cases e <;> first | exact hq | exact hq.elim
theorem r_end {rs : List ARes} {r : AV} {l : List AV} (hl : outsF env h rs = some l) (hr : nz (retv l) = r) (hp : plain r = true) : qret rs r .ret env h := by
 refine outsF_ok hl ⟨plain_nz _ (by rw [hr]; exact hp), by rw [nz_wk]; exact hr⟩
def Does (P : Program) (o : AOp) (env : Env) (h : AHeap) (av : AV) (h' : AHeap) : Prop := ∀ K : AV -> AHeap -> Prop, K av h' -> aop P o env h K
theorem Does.q {P : Program} {o : AOp} {env : Env} {h : AHeap} {av : AV} (hd : Does P o env h av h) : aopQ P o env h av := hd _ ⟨rfl, rfl⟩
def Less (e env : Env) : Prop := ∀ t a, get e t = some a -> get env t = some a
theorem Less.put {e env : Env} (he : Less e env) (d : Option Nat) (av : AV) : Less (putE e d av) (putE env d av) := by
 intro t a h
 rw [get_putE] at h ⊢
 split at h
 ·rename_i hd; rw [if_pos hd]; exact h
 ·rename_i hd; rw [if_neg hd]; exact he t a h
theorem Less.drop {e env : Env} (he : Less e env) (d : Option Nat) : Less (dropE e d) (dropE env d) := by
 intro t a h
 rw [get_dropE] at h ⊢
 split at h
 ·rename_i hd; rw [if_pos hd]; exact h
 ·rename_i hd; rw [if_neg hd]; exact he t a h
theorem Less.ev {e env : Env} (he : Less e env) {x : AOpd} {a : AV} (h : x.ev e = some a) : x.ev env = some a := by
 cases x with
 | t n => exact he n a h
 | c b => exact h
theorem Less.wv {e env : Env} (he : Less e env) {x : AOpd} {J J' : AV -> Prop} (hj : wv (x.ev e) J) (h : ∀ a, J a -> J' a) : wv (x.ev env) J' := by
 obtain ⟨a, h1, h2⟩ := wv_some hj
 rw [he.ev h1]; exact h a h2
theorem Less.evs {e env : Env} (he : Less e env) : ∀ {l : List AOpd} {r : List AV}, evs e l = some r -> evs env l = some r
 | [], r, h => h
 | x :: l, r, h => by
  simp only [Lift.evs] at h ⊢
  split at h
  ·rename_i a l' h1 h2
   rw [he.ev h1, he.evs h2]; exact h
  ·cases h
theorem Less.evp {e env : Env} (he : Less e env) : ∀ {l : List ((Nat × Nat) × AOpd)} {r : List ((Nat × Nat) × AV)}, evp e l = some r -> evp env l = some r
 | [], r, h => h
 | (k, x) :: l, r, h => by
  simp only [Lift.evp] at h ⊢
  split at h
  ·rename_i a l' h1 h2
   rw [he.ev h1, he.evp h2]; exact h
  ·cases h
theorem Less.evo {e env : Env} (he : Less e env) {x : Option AOpd} {r : Option AV} (h : evo e x = some r) : evo env x = some r := by
 cases x with
 | none => exact h
 | some x =>
  simp only [Lift.evo] at h ⊢
  split at h
  ·rename_i a h1; rw [he.ev h1]; exact h
  ·cases h
theorem aop_less {P : Program} {o : AOp} {e env : Env} (he : Less e env) {h : AHeap} {K : AV -> AHeap -> Prop} (ha : aop P o e h K) : aop P o env h K := by
 cases o <;> simp only [aop] at ha ⊢
 case mv => exact he.wv ha fun _ h => h
 case pick =>
  refine he.wv ha fun c hc => ?_
  unfold pickOn at hc ⊢
  split at hc
  ·exact ⟨fun ht => he.wv (hc.1 ht) fun _ h => h, fun ht => he.wv (hc.2 ht) fun _ h => h⟩
  ·exact hc.elim
 case alloc => exact ha
 case box => exact he.wv ha fun _ h => h
 case build =>
  split at ha
  ·rename_i ps h1; rw [he.evp h1]; exact ha
  ·exact ha.elim
 case sliceLit =>
  split at ha
  ·rename_i ps h1; rw [he.evp h1]; exact ha
  ·exact ha.elim
 case load => exact he.wv ha fun _ h => h
 case store => exact he.wv ha fun _ h => he.wv h fun _ h => h
 case nilCheck => exact he.wv ha fun _ h => h
 case bin => exact he.wv ha fun _ h => he.wv h fun _ h => h
 case eq => exact he.wv ha fun _ h => he.wv h fun _ h => h
 case un => exact he.wv ha fun _ h => h
 case conv => exact he.wv ha fun _ h => h
 case iface => exact he.wv ha fun _ h => h
 case func =>
  split at ha
  ·rename_i f c h1 h2; rw [he.evs h1, he.evs h2]; exact ha
  ·exact ha.elim
 case sliceS =>
  refine he.wv ha fun x hx => ?_
  split at hx
  ·rename_i lo hi h1 h2; rw [he.evo h1, he.evo h2]; exact hx
  ·exact hx.elim
 case sliceV =>
  refine he.wv ha fun x hx => ?_
  split at hx
  ·rename_i lo hi mx h1 h2 h3; rw [he.evo h1, he.evo h2, he.evo h3]; exact hx
  ·exact hx.elim
 case fieldAddr => exact he.wv ha fun _ h => h
 case field => exact he.wv ha fun _ h => h
 case idxS => exact he.wv ha fun _ h => he.wv h fun _ h => h
 case idxV => exact he.wv ha fun _ h => he.wv h fun _ h => h
 case idxSl => exact he.wv ha fun _ h => he.wv h fun _ h => h
 case idxA => exact he.wv ha fun _ h => he.wv h fun _ h => h
 case assertT => exact he.wv ha fun _ h => h
 case extract => exact he.wv ha fun _ h => h
 case len => exact he.wv ha fun _ h => h
 case append => exact he.wv ha fun _ h => he.wv h fun _ h => h
 case mkmap => exact ha
 case lookup => exact he.wv ha fun _ h => he.wv h fun _ h => h
 case mapset => exact he.wv ha fun _ h => he.wv h fun _ h => he.wv h fun _ h => h
 case allocB => exact ha
 case udata => exact he.wv ha fun _ h => h
 case ustr => exact he.wv ha fun _ h => he.wv h fun _ h => h
 case seek => exact he.wv ha fun _ h => he.wv h fun _ h => h
 case mknz => exact he.wv ha fun _ h => h
 case cap0 => exact he.wv ha fun _ h => h
 case copy0 => exact he.wv ha fun _ h => he.wv h fun _ h => h
 case clear => exact he.wv ha fun _ h => h
 case call f args =>
  refine he.wv ha fun f hf => ?_
  unfold callOn at hf ⊢
  split at hf
  ·rename_i g first captured l h1; rw [he.evs h1]; exact hf
  ·rename_i tab t x l h1; rw [he.evs h1]; exact hf
  ·exact hf.elim
 case bytes => exact he.wv ha fun _ h => h
 case minmax =>
  split at ha
  ·rename_i l h1; rw [he.evs h1]; exact ha
  ·exact ha.elim
 case make => exact he.wv ha fun _ h => he.wv h fun _ h => h
 case range => exact he.wv ha fun _ h => h
 case next => exact he.wv ha fun _ h => h
theorem Does.less {P : Program} {o : AOp} {e env : Env} {h h' : AHeap} {av : AV} (hd : Does P o e h av h') (he : Less e env) : Does P o env h av h' := fun K hk => aop_less he (hd K hk)
theorem Less.guard {e env : Env} (he : Less e env) {g : Option (Nat × Bool)} {b : Bool} (h : guardF e g = some b) : guardF env g = some b := by
 cases g with
 | none => exact h
 | some p =>
  obtain ⟨t, want⟩ := p
  simp only [guardF, Option.bind_eq_some_iff] at h ⊢
  obtain ⟨v, h1, h2⟩ := h
  exact ⟨v, he t v h1, h2⟩
def vd (P : Program) : List AOper -> Env -> AHeap -> (Env -> AHeap -> Prop) -> Prop
 | [], env, h, K => K env h
 | o :: r, env, h, K => (guardF env o.guard = some false /\ vd P r (dropE env o.dst) h K) ∨ (guardF env o.guard = some true /\ ∃ av h', Does P o.op env h av h' /\ vd P r (putE env o.dst av) h' K) ∨
  (guardF env o.guard = some true /\ ∃ S : AV -> AHeap -> Prop, (∀ K' : AV -> AHeap -> Prop, (∀ av h', S av h' -> K' av h') -> aop P o.op env h K') /\ ∀ av h', S av h' -> vd P r (putE env o.dst av) h' K)
theorem vd_vops {P : Program} : ∀ {l : List AOper} {env : Env} {h : AHeap} {K : Env -> AHeap -> Prop}, vd P l env h K -> vops P l env h K
 | [], env, h, K, hv => hv
 | o :: r, env, h, K, hv => by
  rcases hv with ⟨hg, hv⟩ | ⟨hg, av, h', hd, hv⟩ | ⟨hg, S, hd, hv⟩
  ·exact guardF_ok (b := false) hg (by simpa using vd_vops hv)
  ·refine guardF_ok (b := true) hg ?_
   simp only [if_true]
   exact hd _ (vd_vops hv)
  ·refine guardF_ok (b := true) hg ?_
   simp only [if_true]
   exact hd _ fun av h' hav => vd_vops (hv av h' hav)
def KMono (K : Env -> AHeap -> Prop) : Prop := ∀ e env h, Less e env -> K e h -> K env h
theorem vd_less {P : Program} {K : Env -> AHeap -> Prop} (hK : KMono K) : ∀ {l : List AOper} {e env : Env} {h : AHeap}, Less e env -> vd P l e h K -> vd P l env h K
 | [], e, env, h, he, hv => hK e env h he hv
 | o :: r, e, env, h, he, hv => by
  rcases hv with ⟨hg, hv⟩ | ⟨hg, av, h', hd, hv⟩ | ⟨hg, S, hd, hv⟩
  ·exact .inl ⟨he.guard hg, vd_less hK (he.drop _) hv⟩
  ·exact .inr (.inl ⟨he.guard hg, av, h', hd.less he, vd_less hK (he.put _ _) hv⟩)
  ·exact .inr (.inr ⟨he.guard hg, S, fun K' hK' => aop_less he (hd K' hK'), fun av h' hav => vd_less hK (he.put _ _) (hv av h' hav)⟩)
def Vp (P : Program) (L : List AOper) (k : Nat) (env : Env) (h : AHeap) (K : Env -> AHeap -> Prop) : Prop := vd P (L.drop k) env h K
def noC : Callee := fun _ _ _ => none
theorem noC_ok {P : Program} : CallOK P noC := fun f args h a h' he => by cases he
theorem vp_start (hk : Vp P L 0 env h K) : V P L env h K := ⟨vd_vops hk⟩
theorem vp_opg {o : AOper} (hl : L[k]? = some o) (hg : guardF env o.guard = some true) {av : AV} {env1 : Env} (ha : Does P o.op env h av h') {k' : Nat} (hk' : k + 1 = k') (he : putE env o.dst av = env1) (hk : Vp P L k' env1 h' K) : Vp P L k env h K := by
 subst hk' he
 obtain ⟨hlt, rfl⟩ := List.getElem?_eq_some_iff.1 hl
 show vd P (L.drop k) env h K
 rw [List.drop_eq_getElem_cons hlt]
 exact .inr (.inl ⟨hg, av, h', ha, hk⟩)
theorem km_vd {l : List AOper} (hK : KMono K) : KMono fun F h' => vd P l F h' K := fun e env h he hv => vd_less hK he hv
theorem q_calln {g : FuncId} {f : AOpd} {args : List AOpd} {l l' : List AV} {r : AV} (hf : f.ev env = some (.clo (.func g) [] [])) (ha : evs env args = some l) (hl : l.map nz = l') (hgl : plainG h.globs = true) (hp : plainL l' = true) (hc : PureN P h.globs g l' r) : Does P (.call f args) env h r h :=
 fun K hk => (a_call hf ha (pure_call_n hc hgl hl hp hk)).out
theorem q_callv {g : FuncId} {f : AOpd} {args : List AOpd} {l l' first captured : List AV} {r : AV} (hf : f.ev env = some (.clo (.func g) first captured)) (ha : evs env args = some l) (hl : (first ++ l ++ captured).map nz = l') (hgl : plainG h.globs = true) (hp : plainL l' = true) (hc : PureN P h.globs g l' r) : Does P (.call f args) env h r h :=
 fun K hk => (a_callv hf ha (pure_call_n hc hgl hl hp hk)).out
end
def LoopW (P : Program) (c : Code) (Q : Exit -> Act -> World -> Prop) (a : Act) (w : World) : Prop := ∀ b k cs, ∃ e a' w', Q e a' w' /\ Arrives P (lone (b.at a (.code c :: .inLoop c :: k)) cs w) b k cs e a' w'
theorem loopW_unroll {P : Program} {Q : Exit -> Act -> World -> Prop} {a : Act} {w : World} {c : Code} (hx : c.wp P (Exit.then (LoopW P c Q) Q) a w) : LoopW P c Q a w := by
 intro b k cs
 obtain ⟨e, a₁, w₁, hq, harr⟩ := hx b (.inLoop c :: k) cs
 cases e with
 | normal =>
  obtain ⟨e₂, a₂, w₂, hq₂, harr₂⟩ := hq b k cs
  exact ⟨e₂, a₂, w₂, hq₂, .of_steps (Steps.trans harr (.one step_inLoop)) harr₂⟩
 | exit id => exact ⟨_, a₁, w₁, hq, .pass (x := .inLoop c) rfl (fun _ _ => .inl (by simp)) harr⟩
 | goto l => exact ⟨_, a₁, w₁, hq, .pass (x := .inLoop c) rfl (fun _ _ => .inl (by simp)) harr⟩
 | ret => exact ⟨_, a₁, w₁, hq, .pass (x := .inLoop c) rfl (fun _ _ => .inl (by simp)) harr⟩
 | panic ch => exact ⟨_, a₁, w₁, hq, .pass (x := .inLoop c) rfl (fun _ _ => .inl (by simp)) harr⟩
 | outgrown => exact ⟨_, a₁, w₁, hq, .pass (x := .inLoop c) rfl (fun _ _ => .inl (by simp)) harr⟩
theorem loopW_wp {P : Program} {Q : Exit -> Act -> World -> Prop} {a : Act} {w : World} {c : Code} (hx : LoopW P c Q a w) : (Code.loop c).wp P Q a w := by
 intro b k cs
 obtain ⟨e, a', w', hq, harr⟩ := hx b k cs
 exact ⟨e, a', w', hq, .of_steps (.one step_loop) harr⟩
theorem LoopW.mono {P : Program} {Q Q' : Exit -> Act -> World -> Prop} {a : Act} {w : World} {c : Code} (hq : ∀ e a w, Q e a w -> Q' e a w) (hx : LoopW P c Q a w) : LoopW P c Q' a w := by
 intro b k cs
 obtain ⟨e, a', w', h1, harr⟩ := hx b k cs
 exact ⟨e, a', w', hq _ _ _ h1, harr⟩
section
variable {P : Program} {h h' : AHeap} {env env' : Env} {N : Nat} {Q : Exit -> Env -> AHeap -> Prop} {x : ACode}
end
section
variable {P : Program} {h : AHeap} {env : Env} {α : Type}
def bI (s : ByteArray) : List Int := s.data.toList.map fun b => (b.toNat : Int)
theorem q_lenS {x : AOpd} {s : ByteArray} (hx : x.ev env = some (.v (.string s))) : Does P (.len true x) env h (.v (.int .i64 s.size)) h := fun K hk => by
 simp only [aop, hx, wv, lenned]; exact hk
theorem q_len {x : AOpd} {l : List α} {e : α -> List AV} {tok : Tok} (hx : x.ev env = some (.sl (List.map e l) tok)) : Does P (.len false x) env h (.v (.int .i64 l.length)) h := fun K hk => by
 simp only [aop, hx, wv, lenned, List.length_map]; exact hk
theorem q_idxSl {size : Nat} {x i : AOpd} {l : List α} {e' e : α -> List AV} {tok : Tok} {k : IntKind} {n : Int} {y : α} (hx : x.ev env = some (.sl (List.map e' l) tok)) (hi : i.ev env = some (.v (.int k n))) (h0 : 0 <= n) (hy : l[n.toNat]? = some y) (he : e' y = e y) (hs : (e y).length = size) : Does P (.idxSl size x i) env h (.elt (e y) 0) h := fun K hk => by
 simp only [aop, hx, hi, wv, indexed]
 obtain ⟨hlt, rfl⟩ := List.getElem?_eq_some_iff.1 hy
 have hg : (List.map e' l).getD n.toNat [] = e l[n.toNat] := by
  rw [List.getD_eq_getElem?_getD, List.getElem?_map, hy]; simpa using he
 rw [hg, List.length_map]
 exact ⟨⟨h0, by omega⟩, hs, hk⟩
theorem q_idxS {x i : AOpd} {s : ByteArray} {k : IntKind} {n : Int} (hx : x.ev env = some (.v (.string s))) (hi : i.ev env = some (.v (.int k n))) (h0 : 0 <= n /\ n < (s.size : Int)) : Does P (.idxS x i) env h (.v (.int .u8 (byteAt s n.toNat))) h := fun K hk => by
 simp only [aop, hx, hi, wv, indexedS]; exact ⟨h0, hk⟩
theorem q_sliceS {x : AOpd} {lo hi : Option AOpd} {s : ByteArray} {lv hv : Option AV} {l u : Int} (hx : x.ev env = some (.v (.string s))) (h1 : evo env lo = some lv) (h2 : evo env hi = some hv) (h3 : boundOf 0 lv = some l) (h4 : boundOf s.size hv = some u) (h0 : 0 <= l /\ l <= u /\ u <= (s.size : Int)) : Does P (.sliceS x lo hi) env h (.v (.string (s.extract l.toNat u.toNat))) h := fun K hk => by
 simp only [aop, hx, h1, h2, wv, slicedS, h3, h4]; exact ⟨h0, hk⟩
theorem q_bin {op : BinOp} {x y : AOpd} {a b r : Value} {c : Prop} (hx : x.ev env = some (.v a)) (hy : y.ev env = some (.v b)) (hp : pbin op a b = some (c, r)) (hc : c) : Does P (.bin op x y) env h (.v r) h := fun K hk => by
 simp only [aop, hx, hy, wv, binned, hp]; exact ⟨hc, hk⟩
theorem q_catS {x y : AOpd} {a b : ByteArray} (hx : x.ev env = some (.v (.string a))) (hy : y.ev env = some (.v (.string b))) (h0 : ((a.size + b.size : Nat) : Int) <= 9223372036854775807) : Does P (.bin .add x y) env h (.v (.string (a ++ b))) h := q_bin hx hy rfl (by omega)
theorem bytes_eq {a b : ByteArray} : (a.toList == b.toList) = decide (a = b) := by
 rw [ByteArray.toList_eq, ByteArray.toList_eq]
 by_cases h : a = b
 ·subst h; simp
 ·rw [decide_eq_false h, beq_eq_false_iff_ne]
  intro he
  exact h (ByteArray.ext (Array.ext' he))
theorem q_eqS {x y : AOpd} {a b : ByteArray} (hx : x.ev env = some (.v (.string a))) (hy : y.ev env = some (.v (.string b))) : Does P (.bin .eql x y) env h (.v (.bool (decide (a = b)))) h := by rw [← bytes_eq]; exact q_bin hx hy (c := True) rfl trivial
theorem q_neS {x y : AOpd} {a b : ByteArray} (hx : x.ev env = some (.v (.string a))) (hy : y.ev env = some (.v (.string b))) : Does P (.bin .neq x y) env h (.v (.bool (!decide (a = b)))) h := by rw [← bytes_eq]; exact q_bin hx hy (c := True) rfl trivial
theorem q_pickB {c x y : AOpd} {t a b : Bool} (hc : c.ev env = some (.v (.bool t))) (hx : x.ev env = some (.v (.bool a))) (hy : y.ev env = some (.v (.bool b))) : Does P (.pick c x y) env h (.v (.bool (bif t then a else b))) h := fun K hk => by
 simp only [aop, hc, hx, hy, wv, pickOn]; cases t <;> simp_all
theorem q_pickI {c x y : AOpd} {t : Bool} {k : IntKind} {a b : Int} (hc : c.ev env = some (.v (.bool t))) (hx : x.ev env = some (.v (.int k a))) (hy : y.ev env = some (.v (.int k b))) : Does P (.pick c x y) env h (.v (.int k (bif t then a else b))) h := fun K hk => by
 simp only [aop, hc, hx, hy, wv, pickOn]; cases t <;> simp_all
theorem q_pickS {c x y : AOpd} {t : Bool} {a b : ByteArray} (hc : c.ev env = some (.v (.bool t))) (hx : x.ev env = some (.v (.string a))) (hy : y.ev env = some (.v (.string b))) : Does P (.pick c x y) env h (.v (.string (bif t then a else b))) h := fun K hk => by
 simp only [aop, hc, hx, hy, wv, pickOn]; cases t <;> simp_all
theorem q_min2 {x y : AOpd} {k k' : IntKind} {a b : Int} (hx : x.ev env = some (.v (.int k a))) (hy : y.ev env = some (.v (.int k' b))) : Does P (.minmax false [x, y]) env h (.v (.int k (min a b))) h := fun K hk =>
 (a_min2 hx hy (by rw [show (if b < a then b else a) = min a b by omega]; exact hk)).out
theorem q_max2 {x y : AOpd} {k k' : IntKind} {a b : Int} (hx : x.ev env = some (.v (.int k a))) (hy : y.ev env = some (.v (.int k' b))) : Does P (.minmax true [x, y]) env h (.v (.int k (max a b))) h := fun K hk =>
 (a_max2 hx hy (by rw [show (if a < b then b else a) = max a b by omega]; exact hk)).out
theorem h_append_own {e0 : TypeId} {size byt id : Nat} {x y : AOpd} {Y : AV} {e' : α -> List AV} {l m : List α} (hx : x.ev env = some (.sl (List.map e' l) (.own id))) (hy : y.ev env = some Y) (hm : elsH h size Y = some (List.map e' m)) (hb : h.bufs[id]? = some (l.length, size)) (hs : ∀ y, (e' y).length = size) (h0 : (l.length + m.length) * byt <= 140737488355328) : Does P (.append e0 size byt x y) env h (.sl (List.map e' (l ++ m)) (.own id)) ⟨h.blks, h.bufs.set id ((l ++ m).length, size), h.globs⟩ := fun K hk => by
 simp only [aop, hx, hy, wv]
 refine .inl ?_
 simp only [appended, hm, List.length_map]
 refine ⟨fun el hel => by obtain ⟨y, _, rfl⟩ := List.mem_map.1 hel; exact hs y, fun el hel => by obtain ⟨y, _, rfl⟩ := List.mem_map.1 hel; exact hs y, hb, h0, ?_⟩
 rw [← List.map_append, ← List.length_append]; exact hk
theorem h_append_full {e0 : TypeId} {size byt : Nat} {x y : AOpd} {X Y : AV} {e' : α -> List AV} {l m : List α} {els : List (List AV)} (hx : x.ev env = some (.sl els .full)) (hy : y.ev env = some Y) (hX : els = List.map e' l) (hm : elsH h size Y = some (List.map e' m)) (hs : ∀ y, (e' y).length = size) (h0 : (l.length + m.length) * byt <= 140737488355328) (hm0 : m ≠ []) : Does P (.append e0 size byt x y) env h (.sl (List.map e' (l ++ m)) (.own h.bufs.length)) ⟨h.blks, h.bufs ++ [((l ++ m).length, size)], h.globs⟩ := fun K hk => by
 subst hX
 simp only [aop, hx, hy, wv]
 refine .inl ?_
 simp only [appended, hm, List.length_map]
 refine ⟨fun el hel => by obtain ⟨y, _, rfl⟩ := List.mem_map.1 hel; exact hs y, fun el hel => by obtain ⟨y, _, rfl⟩ := List.mem_map.1 hel; exact hs y, h0, fun h => absurd (List.map_eq_nil_iff.1 h) hm0, fun _ => ?_⟩
 rw [← List.map_append, ← List.length_append]; exact hk
theorem h_bytes {x : AOpd} {s : ByteArray} (hx : x.ev env = some (.v (.string s))) : Does P (.bytes x) env h (.sl (List.map (fun n => [AV.v (.int .u8 n)]) (bI s)) .no) h := fun K hk => by
 simp only [aop, hx, wv, asBytes]
 have e : byteEls s.data.toList = List.map (fun n => [AV.v (.int .u8 n)]) (bI s) := by simp only [byteEls, bI, List.map_map]; rfl
 rw [e]; exact hk
theorem q_str {x : AOpd} {l : List Int} {t : ByteArray} {tok : Tok} (hx : x.ev env = some (.sl (List.map (fun n => [AV.v (.int .u8 n)]) l) tok)) (hl : l = bI t) : Does P (.conv .str x) env h (.v (.string t)) h := fun K hk => by
 subst hl
 simp only [aop, hx, wv, conved]
 refine ⟨t.data.toList, by simp only [byteEls, bI, List.map_map]; rfl, ?_⟩
 have : (⟨t.data.toList.toArray⟩ : ByteArray) = t := by
  apply ByteArray.ext; apply Array.ext'; simp
 rw [this]; exact hk
end
def vs (P : Program) (I : AHeap -> Prop) : Bool -> List AOper -> Env -> AHeap -> (Env -> AHeap -> Prop) -> Prop
 | _, [], env, h, K => K env h
 | b, o :: r, env, h, K =>
  (guardF env o.guard = some false /\ vs P I b r (dropE env o.dst) h K) ∨
  (guardF env o.guard = some true /\ quietOp o.op = true /\ ∃ av, (∀ h2, I h2 -> aopQ P o.op env h2 av) /\ vs P I b r (putE env o.dst av) h K) ∨
  (guardF env o.guard = some true /\ quietOp o.op = false /\ isNew o = false /\ ∃ av h', Does P o.op env h av h' /\ I h' /\ vs P I false r (putE env o.dst av) h' K) ∨
  (b = true /\ ∃ cells, o.op = .alloc cells /\ o.guard = none /\ vs P I b r (putE env o.dst (.ptr h.blks.length 0)) ⟨h.blks ++ [some cells], h.bufs, h.globs⟩ K)
def DoesS (P : Program) (I : AHeap -> Prop) (F : Env) (hs : List AHeap) (j : Nat) (o : AOper) : Option Nat -> Prop
 | some n => ∃ av h1 h2, hs[n - j]? = some h1 /\ hs[n - j + 1]? = some h2 /\ aop P o.op F h1 (fun a b => a = av /\ b = h2) /\ ∀ d, o.dst = some d -> get F d = some av
 | none => ∃ av, (∀ h2, I h2 -> aopQ P o.op F h2 av) /\ ∀ d, o.dst = some d -> get F d = some av
def GF (F : Env) (D S : Prop) : Option (Nat × Bool) -> Prop
 | none => D
 | some (t, want) => (∃ b, get F t = some (.v (.bool b)) /\ (b = want -> D) /\ (b ≠ want -> S)) ∨ (get F t = some (.tuple []) /\ S)
def FactS (P : Program) (I : AHeap -> Prop) (F : Env) (hs : List AHeap) (j : Nat) (o : AOper) (n : Option Nat) : Prop :=
 GF F (DoesS P I F hs j o n) (n = none /\ ∀ d, o.dst = some d -> get F d = some (.tuple [])) o.guard
structure PassS (P : Program) (I : AHeap -> Prop) (l : List AOper) (env F : Env) (cur h' : AHeap) (i0 : Nat) (az : List (Nat × List AV)) (hs : List AHeap) (fl : List (Option Nat)) (j : Nat) : Prop where
 len : fl.length = l.length
 first : hs[0]? = some ⟨cur.blks ++ az.map (fun p => some p.2), cur.bufs, cur.globs⟩
 last : ∃ n, hs.length = n + 1 /\ hs[n]? = some h'
 bound : ∀ i n : Nat, fl[i]? = some (some n) -> j <= n /\ n + 1 < j + hs.length
 mono : ∀ i k a b : Nat, i < k -> fl[i]? = some (some a) -> fl[k]? = some (some b) -> a < b
 onto : ∀ n : Nat, j <= n -> n + 1 < j + hs.length -> ∃ i : Nat, fl[i]? = some (some n)
 keep : ∀ t, writes t l = false -> get F t = get env t
 pos : ∀ (q : Nat) (p : Nat × List AV), az[q]? = some p -> ∃ i o, p.1 = i0 + i /\ l[i]? = some o /\ o.op = .alloc p.2 /\ o.guard = none /\ fl[i]? = some none /\ ∀ d, o.dst = some d -> get F d = some (.ptr (cur.blks.length + q) 0)
 incr : ∀ (q r : Nat) (p s : Nat × List AV), q < r -> az[q]? = some p -> az[r]? = some s -> p.1 < s.1
 inv : ∀ (m : Nat) hm, 0 < m -> hs[m]? = some hm -> I hm
 chg : ∀ (i n : Nat) (o : AOper), fl[i]? = some (some n) -> l[i]? = some o -> quietOp o.op = false /\ isNew o = false
 fact : ∀ (i : Nat) (o : AOper) (n : Option Nat), l[i]? = some o -> fl[i]? = some n -> (∃ (q : Nat) (p : Nat × List AV), az[q]? = some p /\ p.1 = i0 + i) ∨ FactS P I F hs j o n
theorem guard_fact {F env : Env} {g : Option (Nat × Bool)} {D S : Prop} (hg : guardF env g = some true) (hl : ∀ t w, g = some (t, w) -> get F t = get env t) (hD : D) : GF F D S g := by
 cases g with
 | none => exact hD
 | some p =>
  obtain ⟨t, want⟩ := p
  simp only [guardF, Option.bind_eq_some_iff] at hg
  obtain ⟨v, h1, h2⟩ := hg
  split at h2
  ·rename_i b
   simp only [Option.some.injEq, beq_iff_eq] at h2
   exact .inl ⟨b, by rw [hl t want rfl]; exact h1, fun _ => hD, fun hn => absurd h2 hn⟩
  ·cases h2
  ·cases h2
theorem guard_skip {F env : Env} {g : Option (Nat × Bool)} {D S : Prop} (hg : guardF env g = some false) (hl : ∀ t w, g = some (t, w) -> get F t = get env t) (hS : S) : GF F D S g := by
 cases g with
 | none => simp [guardF] at hg
 | some p =>
  obtain ⟨t, want⟩ := p
  simp only [guardF, Option.bind_eq_some_iff] at hg
  obtain ⟨v, h1, h2⟩ := hg
  split at h2
  ·rename_i b
   simp only [Option.some.injEq, beq_eq_false_iff_ne] at h2
   exact .inl ⟨b, by rw [hl t want rfl]; exact h1, fun h => absurd h h2, fun _ => hS⟩
  ·exact .inr ⟨by rw [hl t want rfl]; exact h1, hS⟩
  ·cases h2
theorem vs_pass {P : Program} {I : AHeap -> Prop} : ∀ {l : List AOper} {b : Bool} {env : Env} {cur : AHeap} {i0 j : Nat} {K : Env -> AHeap -> Prop}, okq l = true -> vs P I b l env cur K -> ∃ F az hs fl h', PassS P I l env F cur h' i0 az hs fl j /\ K F h' /\ (b = false -> az = [])
 | [], b, env, cur, i0, j, K, _, hk => ⟨env, [], [cur], [], cur, ⟨rfl, by simp, ⟨0, rfl, rfl⟩, fun i n hi => by simp at hi, fun i k a b _ hi => by simp at hi, fun n h1 h2 => by simp at h2; omega, fun _ _ => rfl, fun q p hq => by simp at hq, fun q r p s _ hq => by simp at hq, fun m hm h0 h1 => by cases m <;> simp at h0 h1, fun i n o hi => by simp at hi, fun i o n hi => by simp at hi⟩, hk, fun _ => rfl⟩
 | o :: r, b, env, cur, i0, j, K, hok, hv => by
  have hok0 := hok
  simp only [okq, Bool.and_eq_true, List.all_eq_true] at hok
  obtain ⟨⟨hlook, hdst⟩, hokr⟩ := hok
  have hwr : ∀ t, writes t (o :: r) = false -> o.dst ≠ some t /\ writes t r = false := by
   intro t ht
   simp only [writes, List.any_cons, Bool.or_eq_false_iff] at ht ⊢
   exact ⟨by simpa using ht.1, ht.2⟩
  have hd : ∀ d, o.dst = some d -> writes d r = false := by
   intro d hd
   rw [hd] at hdst
   simpa using hdst
  have hl : ∀ (F : Env), (∀ t, writes t (o :: r) = false -> get F t = get env t) -> ∀ t ∈ o.looks, get F t = get env t := fun F hF t ht => hF t (by simpa using hlook t ht)
  have hcong : ∀ (F : Env), (∀ t, writes t (o :: r) = false -> get F t = get env t) -> ∀ (h : AHeap) (K : AV -> AHeap -> Prop), aop P o.op env h K -> aop P o.op F h K := by
   intro F hF h K hq
   rw [← aop_congr (e1 := env) (e2 := F)]
   ·exact hq
   ·intro x hx
    cases x with
    | c a => rfl
    | t n =>
     refine (hl F hF n ?_).symm
     simp only [AOper.looks, List.mem_append, List.mem_filterMap]
     exact .inl ⟨.t n, hx, rfl⟩
  have hgl : ∀ (F : Env), (∀ t, writes t (o :: r) = false -> get F t = get env t) -> ∀ t w, o.guard = some (t, w) -> get F t = get env t := fun F hF t w hg => hl F hF t (by simp [AOper.looks, hg])

  have still : ∀ (env' F : Env) (az : List (Nat × List AV)) (hs : List AHeap) (fl : List (Option Nat)) (h' : AHeap), PassS P I r env' F cur h' (i0 + 1) az hs fl j -> (∀ t, o.dst ≠ some t -> get env' t = get env t) -> ((∀ t, writes t (o :: r) = false -> get F t = get env t) -> FactS P I F hs j o none) -> PassS P I (o :: r) env F cur h' i0 az hs (none :: fl) j := by
   intro env' F az hs fl h' hp henv hf
   have hF : ∀ t, writes t (o :: r) = false -> get F t = get env t := fun t ht => by
    obtain ⟨h1, h2⟩ := hwr t ht
    rw [hp.keep t h2, henv t h1]
   refine ⟨by simp [hp.len], hp.first, hp.last, fun i n hi => ?_, fun i k a b hik hi hk => ?_, fun n h1 h2 => ?_, hF, fun q p hqp => ?_, hp.incr, hp.inv, fun i n o' hi ho => ?_, fun i o' n hi hn => ?_⟩
   ·cases i with
    | zero => simp at hi
    | succ i => exact hp.bound i n (by simpa using hi)
   ·cases i with
    | zero => simp at hi
    | succ i => cases k with
     | zero => omega
     | succ k => exact hp.mono i k a b (by omega) (by simpa using hi) (by simpa using hk)
   ·obtain ⟨i, hi⟩ := hp.onto n h1 h2
    exact ⟨i + 1, by simpa using hi⟩
   ·obtain ⟨i, o', e1, e2, e3⟩ := hp.pos q p hqp
    exact ⟨i + 1, o', by omega, by simpa using e2, by simpa using e3⟩
   ·cases i with
    | zero => simp at hi
    | succ i => exact hp.chg i n o' (by simpa using hi) (by simpa using ho)
   ·cases i with
    | zero => simp at hi hn; subst hi hn; exact .inr (hf hF)
    | succ i =>
     rcases hp.fact i o' n (by simpa using hi) (by simpa using hn) with ⟨q, p, e1, e2⟩ | h
     ·exact .inl ⟨q, p, e1, by omega⟩
     ·exact .inr h
  have hputF : ∀ (av : AV) (F : Env) , (∀ t, writes t r = false -> get F t = get (putE env o.dst av) t) -> ∀ d, o.dst = some d -> get F d = some av := fun av F hF d hd' => by rw [hF d (hd d hd'), get_putE, if_pos hd']
  rcases hv with ⟨hg, hv⟩ | ⟨hg, hq, av, ha, hv⟩ | ⟨hg, hq, hnew, av, h1, ha, hI, hv⟩ | ⟨hb, cells, hop, hgd, hv⟩
  ·obtain ⟨F, az, hs, fl, h', hp, hk, has⟩ := vs_pass (i0 := i0 + 1) (j := j) hokr hv
   refine ⟨F, az, hs, none :: fl, h', still _ F az hs fl h' hp (fun t ht => by rw [get_dropE, if_neg ht]) fun hF => ?_, hk, has⟩
   exact guard_skip hg (hgl F hF) ⟨rfl, fun d hd' => by rw [hp.keep d (hd d hd'), get_dropE, if_pos hd']⟩
  ·obtain ⟨F, az, hs, fl, h', hp, hk, has⟩ := vs_pass (i0 := i0 + 1) (j := j) hokr hv
   refine ⟨F, az, hs, none :: fl, h', still _ F az hs fl h' hp (fun t ht => by rw [get_putE, if_neg ht]) fun hF => ?_, hk, has⟩
   exact guard_fact hg (hgl F hF) ⟨av, fun h2 hi => hcong F hF h2 _ (ha h2 hi), hputF av F hp.keep⟩
  ·obtain ⟨F, az, hs, fl, h', hp, hk, has⟩ := vs_pass (i0 := i0 + 1) (j := j + 1) hokr hv
   have has0 := has rfl
   subst has0
   have hF : ∀ t, writes t (o :: r) = false -> get F t = get env t := fun t ht => by
    obtain ⟨g1, g2⟩ := hwr t ht
    rw [hp.keep t g2, get_putE, if_neg g1]
   have hfirst : hs[0]? = some h1 := by rw [hp.first]; simp
   obtain ⟨nl, hnl, hlast⟩ := hp.last
   refine ⟨F, [], cur :: hs, some j :: fl, h', ⟨by simp [hp.len], by simp, ⟨nl + 1, by simp [hnl], by simpa using hlast⟩, fun i n hi => ?_, fun i k a b hik hi hk => ?_, fun n h1 h2 => ?_, hF, fun q p hqp => by simp at hqp, fun q r p s _ hqp => by simp at hqp, fun m hm h0 hmm => ?_, fun i n o' hi ho => ?_, fun i o' n hi hn => ?_⟩, hk, fun _ => rfl⟩
   ·cases i with
    | zero => simp at hi; subst hi; exact ⟨Nat.le_refl _, by simp; omega⟩
    | succ i => have := hp.bound i n (by simpa using hi); simp; omega
   ·cases i with
    | zero =>
     simp at hi
     cases k with
     | zero => omega
     | succ k => have := (hp.bound k b (by simpa using hk)).1; omega
    | succ i => cases k with
     | zero => omega
     | succ k => exact hp.mono i k a b (by omega) (by simpa using hi) (by simpa using hk)
   ·by_cases hnj : n = j
    ·subst hnj; exact ⟨0, rfl⟩
    ·obtain ⟨i, hi⟩ := hp.onto n (by omega) (by simp at h2; omega)
     exact ⟨i + 1, by simpa using hi⟩
   ·cases m with
    | zero => omega
    | succ m =>
     cases m with
     | zero => simp only [Nat.zero_add, List.getElem?_cons_succ] at hmm; rw [hfirst] at hmm; cases hmm; exact hI
     | succ m => exact hp.inv (m + 1) hm (by omega) (by simpa using hmm)
   ·cases i with
    | zero => simp at hi ho; subst ho; exact ⟨hq, hnew⟩
    | succ i => exact hp.chg i n o' (by simpa using hi) (by simpa using ho)
   ·cases i with
    | zero =>
     simp at hi hn; subst hi hn
     refine .inr (guard_fact hg (hgl F hF) ⟨av, cur, h1, by simp, by simpa using hfirst, hcong F hF _ _ (ha _ ⟨rfl, rfl⟩), hputF av F hp.keep⟩)
    | succ i =>
     rcases hp.fact i o' n (by simpa using hi) (by simpa using hn) with ⟨q, p, e1, e2⟩ | h
     ·simp at e1
     ·refine .inr ?_
      have up : DoesS P I F hs (j + 1) o' n -> DoesS P I F (cur :: hs) j o' n := by
       intro hdo
       cases n with
       | none => exact hdo
       | some n =>
        have hb := (hp.bound i n (by simpa using hn)).1
        obtain ⟨av', g1, g2, e1, e2, e3⟩ := hdo
        have q1 : n - j = (n - (j + 1)) + 1 := by omega
        exact ⟨av', g1, g2, by rw [q1]; simpa using e1, by rw [q1]; simpa using e2, e3⟩
      unfold FactS at h ⊢
      cases hgd : o'.guard with
      | none => rw [hgd] at h; exact up h
      | some g =>
       rw [hgd] at h
       rcases h with ⟨b', q1, q2, q3⟩ | h
       ·exact .inl ⟨b', q1, fun hb' => up (q2 hb'), q3⟩
       ·exact .inr h
  ·obtain ⟨F, az, hs, fl, h', hp, hk, has⟩ := vs_pass (i0 := i0 + 1) (j := j) hokr hv
   have hF : ∀ t, writes t (o :: r) = false -> get F t = get env t := fun t ht => by
    obtain ⟨g1, g2⟩ := hwr t ht
    rw [hp.keep t g2, get_putE, if_neg g1]
   refine ⟨F, (i0, cells) :: az, hs, none :: fl, h', ⟨by simp [hp.len], by rw [hp.first]; simp, hp.last, fun i n hi => ?_, fun i k a b hik hi hk => ?_, fun n h1 h2 => ?_, hF, fun q p hqp => ?_, fun q s p t hqs hqp hst => ?_, hp.inv, fun i n o' hi ho => ?_, fun i o' n hi hn => ?_⟩, hk, fun h => by rw [hb] at h; cases h⟩
   ·cases i with
    | zero => simp at hi
    | succ i => exact hp.bound i n (by simpa using hi)
   ·cases i with
    | zero => simp at hi
    | succ i => cases k with
     | zero => omega
     | succ k => exact hp.mono i k a b (by omega) (by simpa using hi) (by simpa using hk)
   ·obtain ⟨i, hi⟩ := hp.onto n h1 h2
    exact ⟨i + 1, by simpa using hi⟩
   ·cases q with
    | zero =>
     simp at hqp; subst hqp
     refine ⟨0, o, rfl, rfl, hop, hgd, rfl, fun d hd' => ?_⟩
     rw [hputF _ F hp.keep d hd']; simp
    | succ q =>
     obtain ⟨i, o', e1, e2, e3, e4, e5, e6⟩ := hp.pos q p (by simpa using hqp)
     refine ⟨i + 1, o', by omega, by simpa using e2, e3, e4, by simpa using e5, fun d hd' => ?_⟩
     rw [e6 d hd']; simp; omega
   ·cases s with
    | zero => omega
    | succ s =>
     obtain ⟨i, o', e1, _⟩ := hp.pos s t (by simpa using hst)
     cases q with
     | zero => simp at hqp; subst hqp; simp; omega
     | succ q => exact hp.incr q s p t (by omega) (by simpa using hqp) (by simpa using hst)
   ·cases i with
    | zero => simp at hi
    | succ i => exact hp.chg i n o' (by simpa using hi) (by simpa using ho)
   ·cases i with
    | zero => simp at hi; subst hi; exact .inl ⟨0, _, rfl, by simp⟩
    | succ i =>
     rcases hp.fact i o' n (by simpa using hi) (by simpa using hn) with ⟨q, p, e1, e2⟩ | h
     ·exact .inl ⟨q + 1, p, by simpa using e1, by omega⟩
     ·exact .inr h
def statS (ord : List (List Nat)) (al : List AOper) : Bool :=
 (List.range al.length).all fun k => match al[k]? with
  | some o => !isChange o || (List.range al.length).all fun i => match al[i]? with
   | some p => (!(isChange p && decide (i < k)) || (ord.getD k []).contains i) && (!isNew p || (ord.getD k []).contains i)
   | none => true
  | none => true
theorem statS_get {ord : List (List Nat)} {al : List AOper} (h : statS ord al = true) {k i : Nat} {o p : AOper} (hk : al[k]? = some o) (hi : al[i]? = some p) (hc : isChange o = true) :
  (isChange p = true -> i < k -> i ∈ ord.getD k []) /\ (isNew p = true -> i ∈ ord.getD k []) := by
 simp only [statS, List.all_eq_true, List.mem_range] at h
 have h1 := h k (List.getElem?_eq_some_iff.1 hk).1
 rw [hk] at h1
 simp only [hc, Bool.not_true, Bool.false_or, List.all_eq_true, List.mem_range] at h1
 have h2 := h1 i (List.getElem?_eq_some_iff.1 hi).1
 rw [hi] at h2
 simp only [Bool.and_eq_true, Bool.or_eq_true, Bool.not_eq_true', Bool.and_eq_false_iff, decide_eq_false_iff_not, List.contains_iff_mem] at h2
 refine ⟨fun a b => ?_, fun a => ?_⟩
 ·rcases h2.1 with (h3 | h3) | h3
  ·rw [a] at h3; cases h3
  ·exact absurd b h3
  ·exact h3
 ·rcases h2.2 with h3 | h3
  ·rw [a] at h3; cases h3
  ·exact h3
theorem noise_S {P : Program} {I : AHeap -> Prop} {ord : List (List Nat)} {al : List AOper} {env : Env} {h : AHeap} {K : Env -> AHeap -> Prop} (hok : okq al = true) (hst : statS ord al = true) (hI : ∀ h2 : AHeap, (∃ ext, h2.blks = h.blks ++ ext) -> h2.bufs = h.bufs -> h2.globs = h.globs -> I h2) (hv : vs P I true al env h K) :
  ∃ F h' az hs fl, Noise P ord al env F h h' az hs fl /\ K F h' := by
 obtain ⟨F, az, hs, fl, h', ps, hk, _⟩ := vs_pass (i0 := 0) (j := 0) hok hv
 refine ⟨F, h', az, hs, fl, ?_, hk⟩
 obtain ⟨nl, hnl, hlast⟩ := ps.last
 have hget : ∀ k n : Nat, fl[k]? = some (some n) -> ∃ o, al[k]? = some o /\ isChange o = true := by
  intro k n hkn
  have hkl : k < al.length := by rw [← ps.len]; exact (List.getElem?_eq_some_iff.1 hkn).1
  have ho : al[k]? = some al[k] := List.getElem?_eq_getElem hkl
  obtain ⟨h1, h2⟩ := ps.chg k n _ hkn ho
  exact ⟨_, ho, by unfold isChange; rw [h1, h2]; rfl⟩
 have hpos : ∀ (q : Nat) (p : Nat × List AV), az[q]? = some p -> ∃ o, al[p.1]? = some o /\ isNew o = true /\ o.op = .alloc p.2 /\ o.guard = none /\ fl[p.1]? = some none /\ ∀ d, o.dst = some d -> get F d = some (.ptr (h.blks.length + q) 0) := by
  intro q p hqp
  obtain ⟨i, o, e1, e2, e3, e4, e5, e6⟩ := ps.pos q p hqp
  have : p.1 = i := by omega
  rw [this]
  exact ⟨o, e2, by unfold isNew; rw [e3, e4], e3, e4, e5, e6⟩
 refine ⟨ps.len, fun i k a b hik hi hk => ⟨ps.mono i k a b hik hi hk, ?_⟩, fun j hj => ps.onto j (by omega) (by omega), ?_, ps.last, fun i n hi => by have := ps.bound i n hi; omega, ps.keep, fun q p hqp => ?_, fun q r p s hqp hrs hps => ?_, fun k n hk p hp => ?_, fun i o n hi hn => ?_⟩
 ·obtain ⟨o1, h1, h2⟩ := hget i a hi
  obtain ⟨o2, h3, h4⟩ := hget k b hk
  exact (statS_get hst h3 h1 h4).1 h2 hik
 ·rw [ps.first]; simp [hA]
 ·obtain ⟨o, e1, _, e2⟩ := hpos q p hqp
  exact ⟨o, e1, e2⟩
 ·rcases Nat.lt_trichotomy q r with hlt | heq | hgt
  ·have := ps.incr q r p s hlt hqp hrs; omega
  ·exact heq
  ·have := ps.incr r q s p hgt hrs hqp; omega
 ·obtain ⟨o2, h3, h4⟩ := hget k n hk
  obtain ⟨q, hq⟩ := List.mem_iff_getElem?.1 hp
  obtain ⟨o, e1, e2, _⟩ := hpos q p hq
  exact (statS_get hst h3 e1 h4).2 e2
 ·rcases ps.fact i o n hi hn with ⟨q, p, e1, e2⟩ | hf
  ·exact .inl ⟨q, p, e1, by omega⟩
  right
  have conv : DoesS P I F hs 0 o n -> DoesN P F h az hs ord fl i o n := by
   intro hd
   cases n with
   | some n => obtain ⟨av, h1, h2, e1, e2, e3⟩ := hd; exact ⟨av, h1, h2, by simpa using e1, by simpa using e2, e3⟩
   | none =>
    obtain ⟨av, hqa, hfd⟩ := hd
    refine ⟨av, 0, hs.length - 1, by omega, fun j lst hj _ _ h3 => hqa hj ?_, fun k n _ h => by omega, .inl (by omega), hfd⟩
    cases j with
    | zero =>
     have : hA h az lst = hj := Option.some.inj h3
     subst this
     exact hI _ ⟨_, rfl⟩ rfl rfl
    | succ j => exact ps.inv (j + 1) hj (by omega) h3
  unfold FactN
  unfold FactS at hf
  cases hgd : o.guard with
  | none => rw [hgd] at hf; simp only [hgd]; exact conv hf
  | some g =>
   obtain ⟨t, want⟩ := g
   rw [hgd] at hf
   simp only [hgd]
   rcases hf with ⟨b, h1, h2, h3⟩ | hf
   ·exact .inl ⟨b, h1, fun hb => conv (h2 hb), h3⟩
   ·exact .inr hf
def InS (S : List (Nat × List AV)) (gl : List (Nat × List AV)) (h : AHeap) : Prop := (∀ b c, (b, c) ∈ S -> h.blks[b]? = some (some c)) /\ h.globs = gl
def inS (S : List (Nat × List AV)) (h : AHeap) : List (Option (Option (List AV))) := S.map fun p => h.blks[p.1]?
theorem InS_of {S gl : List (Nat × List AV)} {h : AHeap} (h1 : inS S h = S.map fun p => some (some p.2)) (h2 : h.globs = gl) : InS S gl h := by
 refine ⟨fun b c hbc => ?_, h2⟩
 obtain ⟨i, hi⟩ := List.mem_iff_getElem?.1 hbc
 have := congrArg (fun l => l[i]?) h1
 simpa [inS, List.getElem?_map, hi] using this
def Sp (P : Program) (S gl : List (Nat × List AV)) (b : Bool) (L : List AOper) (k : Nat) (env : Env) (h : AHeap) (K : Env -> AHeap -> Prop) : Prop := vs P (InS S gl) b (L.drop k) env h K
def mini : Nat -> List (Nat × List AV) -> List (Option (List AV))
 | 0, _ => []
 | n + 1, S => mini n S ++ [(S.find? fun p => p.1 == n).map (·.2)]
theorem mini_len : ∀ (n : Nat) (S : List (Nat × List AV)), (mini n S).length = n
 | 0, _ => rfl
 | n + 1, S => by simp [mini, mini_len n S]
theorem mini_get : ∀ (n : Nat) (S : List (Nat × List AV)) (k : Nat) (c : List AV), (mini n S)[k]? = some (some c) -> (k, c) ∈ S
 | 0, _, k, c, h => by simp [mini] at h
 | n + 1, S, k, c, h => by
  by_cases hk : k < n
  ·refine mini_get n S k c ?_
   rw [mini, List.getElem?_append_left (by rw [mini_len]; exact hk)] at h
   exact h
  ·rw [mini, List.getElem?_append_right (by rw [mini_len]; omega), mini_len] at h
   by_cases he : k = n
   ·subst he
    simp only [Nat.sub_self, List.getElem?_cons_zero, Option.some.injEq, Option.map_eq_some_iff] at h
    obtain ⟨p, h1, rfl⟩ := h
    have h2 := List.find?_some h1
    have h3 := List.mem_of_find?_eq_some h1
    have : p.1 = k := by simpa using h2
    subst this
    exact h3
   ·rw [List.getElem?_eq_none (by simp; omega)] at h; cases h
theorem mini_loaded {S gl : List (Nat × List AV)} {n : Nat} {h : AHeap} (hi : InS S gl h) {m : Option Nat} {p a : AV} (hl : loadedF ⟨mini n S, [], gl⟩ m p = some a) : loadedF h m p = some a := by
 have hp : ∀ q, place ⟨mini n S, [], gl⟩ p = some q -> place h p = some q := by
  intro q hq
  cases p with
  | ptr k off =>
   simp only [place] at hq ⊢
   split at hq
   ·rename_i cells hc
    rw [hi.1 k cells (mini_get n S k cells hc)]
    exact hq
   ·cases hq
  | glob k => simp only [place] at hq ⊢; rw [hi.2]; exact hq
  | elt c o => exact hq
  | _ => simp [place] at hq
 unfold loadedF at hl ⊢
 cases hq : place ⟨mini n S, [], gl⟩ p with
 | none => rw [hq] at hl; cases hl
 | some q => rw [hq] at hl; rw [hp q hq]; exact hl
theorem quiet_all {P : Program} {n : Nat} {S gl : List (Nat × List AV)} {o : AOp} {env : Env} {a : AV} {h1 : AHeap} (hq : quietOp o = true) (he : aopF false noC o env ⟨mini n S, [], gl⟩ = some (a, h1)) : ∀ h2, InS S gl h2 -> aopQ P o env h2 a := by
 intro h2 hi
 have hsame : h1 = ⟨mini n S, [], gl⟩ := aopF_quiet (fun f args h a h' he => by cases he) hq he
 subst hsame
 by_cases hp : pureOp o = true
 ·exact aopQ_pure hp (aopF_ok (K := fun x y => x = a /\ y = _) noC_ok he ⟨rfl, rfl⟩)
 ·cases o <;> first | (exact absurd rfl hp) | (cases hq; done) | skip
  case load m x =>
   simp only [aopF, Option.bind_eq_some_iff] at he
   obtain ⟨p, h1, h3⟩ := he
   obtain ⟨h4, _⟩ := stay_some h3
   show wv (x.ev env) _
   rw [h1]
   exact loadedF_ok (K := fun x => x = a /\ h2 = h2) (mini_loaded hi h4) ⟨rfl, rfl⟩
  case call f args =>
   simp only [aopF, Option.bind_eq_some_iff] at he
   obtain ⟨fv, h1, l, h3, h4⟩ := he
   split at h4
   ·cases h4
   ·obtain ⟨t, x, r, g, _, _, h5⟩ := callM_some h4; cases h5
   ·cases h4
  case idxA l s x i =>
   simp only [aopF, Option.bind_eq_some_iff] at he
   obtain ⟨x', h1, i', h3, h4⟩ := he
   obtain ⟨h5, _⟩ := stay_some h4
   show wv (x.ev env) _
   rw [h1]
   show wv (i.ev env) _
   rw [h3]
   exact idxAF_ok (K := fun x => x = a /\ h2 = h2) (by rw [deglob_globs (h := ⟨mini n S, [], gl⟩) hi.2]; exact h5) ⟨rfl, rfl⟩
  case lookup ok z x k =>
   simp only [aopF, Option.bind_eq_some_iff] at he
   obtain ⟨x', h1, i', h3, h4⟩ := he
   obtain ⟨h5, _⟩ := stay_some h4
   show wv (x.ev env) _
   rw [h1]
   show wv (k.ev env) _
   rw [h3]
   exact lookF_ok (K := fun x => x = a /\ h2 = h2) (look_ext (fun k c hc => hi.1 k c (mini_get n S k c hc)) h5) ⟨rfl, rfl⟩
section
variable {P : Program} {h h' : AHeap} {env : Env} {N : Nat} {Q : Exit -> Env -> AHeap -> Prop} {K : Env -> AHeap -> Prop} {L : List AOper} {k : Nat} {S gl : List (Nat × List AV)} {b : Bool}
theorem vs_less {I : AHeap -> Prop} {K : Env -> AHeap -> Prop} (hK : KMono K) : ∀ {l : List AOper} {b : Bool} {e env : Env} {h : AHeap}, Less e env -> vs P I b l e h K -> vs P I b l env h K
 | [], b, e, env, h, he, hv => hK e env h he hv
 | o :: r, b, e, env, h, he, hv => by
  rcases hv with ⟨hg, hv⟩ | ⟨hg, hq, av, ha, hv⟩ | ⟨hg, hq, hn, av, h', ha, hi, hv⟩ | ⟨hb, cells, ho, hg, hv⟩
  ·exact .inl ⟨he.guard hg, vs_less hK (he.drop _) hv⟩
  ·exact .inr (.inl ⟨he.guard hg, hq, av, fun h2 hi => aop_less he (ha h2 hi), vs_less hK (he.put _ _) hv⟩)
  ·exact .inr (.inr (.inl ⟨he.guard hg, hq, hn, av, h', ha.less he, hi, vs_less hK (he.put _ _) hv⟩))
  ·exact .inr (.inr (.inr ⟨hb, cells, ho, hg, vs_less hK (he.put _ _) hv⟩))
theorem c_drawnS (S : List (Nat × List AV)) {ord : List (List Nat)} {al tl : List AOper} (hok : okq al = true) (hst : statS (clo ord) al = true) (hS : inS S h = S.map fun p => some (some p.2)) (hv : Sp P S h.globs true al 0 env h fun F h' => vd P tl F h' fun env' h' => Q .normal env' h') : C P N (.drawn ord al tl) Q env h := by
 have hv' : vs P (InS S h.globs) true al env h fun F h' => vd P tl F h' fun env' h' => Q .normal env' h' := hv
 obtain ⟨F, h', az, hs, fl, hn, hk⟩ := noise_S hok hst (fun h2 ⟨ext, he⟩ _ hgl => ⟨fun b c hbc => by
  have := (InS_of hS rfl : InS S h.globs h).1 b c hbc
  rw [he, List.getElem?_append_left (List.getElem?_eq_some_iff.1 this).1]; exact this, hgl⟩) hv'
 exact ⟨asem_drawnC hn (vd_vops hk)⟩
end
mutual
def low (m : List Bool) (n : Nat) : AV -> Bool
 | .v _ => true
 | .ptr k _ => m.getD k false
 | .elt cells _ => lowL m n cells
 | .nil => true
 | .sl els tok => (match tok with | .own id => decide (id < n) | _ => true) && lowLL m n els
 | .agg cells => lowL m n cells
 | .tuple vs => lowL m n vs
 | .iface _ x => low m n x
 | .clo _ first captured => lowL m n first && lowL m n captured
 | .glob _ => true
 | .row k _ _ _ _ => m.getD k false
 | .it _ _ => true
 | .mp k => m.getD k false
 | .bb k els _ => (match k with | .nil => true | .own id | .data id | .raw id _ => decide (id < n)) && lowLL m n els
 | .ps k _ => m.getD k false
def lowL (m : List Bool) (n : Nat) : List AV -> Bool
 | [] => true
 | a :: r => low m n a && lowL m n r
def lowLL (m : List Bool) (n : Nat) : List (List AV) -> Bool
 | [] => true
 | a :: r => lowL m n a && lowLL m n r
end
mutual
theorem low_plain (m : List Bool) (n : Nat) : ∀ a, plain a = true -> low m n a = true
 | .v _, _ => rfl
 | .ptr _ _, h => by cases h
 | .elt cells _, h => by simp only [plain, low] at h ⊢; exact lowL_plain m n cells h
 | .nil, _ => rfl
 | .sl els tok, h => by
  simp only [plain, low, Bool.and_eq_true] at h ⊢
  refine ⟨?_, lowLL_plain m n els h.2⟩
  cases tok <;> first | rfl | (simp at h)
 | .agg cells, h => by simp only [plain, low] at h ⊢; exact lowL_plain m n cells h
 | .tuple cells, h => by simp only [plain, low] at h ⊢; exact lowL_plain m n cells h
 | .iface _ x, h => by simp only [plain, low] at h ⊢; exact low_plain m n x h
 | .clo _ a b, h => by simp only [plain, low, Bool.and_eq_true] at h ⊢; exact ⟨lowL_plain m n a h.1, lowL_plain m n b h.2⟩
 | .glob _, _ => rfl
 | .row _ _ _ _ _, h => by cases h
 | .it _ _, h => by cases h
theorem lowL_plain (m : List Bool) (n : Nat) : ∀ l, plainL l = true -> lowL m n l = true
 | [], _ => rfl
 | a :: r, h => by simp only [plainL, lowL, Bool.and_eq_true] at h ⊢; exact ⟨low_plain m n a h.1, lowL_plain m n r h.2⟩
theorem lowLL_plain (m : List Bool) (n : Nat) : ∀ l, plainLL l = true -> lowLL m n l = true
 | [], _ => rfl
 | a :: r, h => by simp only [plainLL, lowLL, Bool.and_eq_true] at h ⊢; exact ⟨lowL_plain m n a h.1, lowLL_plain m n r h.2⟩
end
theorem lowL_get {m : List Bool} {n : Nat} : ∀ {l : List AV}, lowL m n l = true -> ∀ (i : Nat) (av : AV), l[i]? = some av -> low m n av = true
 | [], _, i, av, h => by simp at h
 | a :: r, hp, i, av, h => by
  simp only [lowL, Bool.and_eq_true] at hp
  cases i with
  | zero => simp at h; subst h; exact hp.1
  | succ i => exact lowL_get hp.2 i av (by simpa using h)
theorem lowLL_get {m : List Bool} {n : Nat} : ∀ {l : List (List AV)}, lowLL m n l = true -> ∀ (i : Nat) (el : List AV), l[i]? = some el -> lowL m n el = true
 | [], _, i, av, h => by simp at h
 | a :: r, hp, i, av, h => by
  simp only [lowLL, Bool.and_eq_true] at hp
  cases i with
  | zero => simp at h; subst h; exact hp.1
  | succ i => exact lowLL_get hp.2 i av (by simpa using h)
def Sg.cut (σ : Sg) (m : List Bool) (n : Nat) : Sg := { σ with blk := fun k => if m.getD k false = true then σ.blk k else none, buf := fun id => if id < n then σ.buf id else none }
theorem cut_own {σ : Sg} {m : List Bool} {n b o : Nat} (h : (σ.cut m n).own b o) : σ.own b o := by
 rcases h with ⟨k, hk⟩ | ⟨id, e, he, hs⟩
 ·simp only [Sg.cut] at hk; split at hk
  ·exact .inl ⟨k, hk⟩
  ·cases hk
 ·simp only [Sg.cut] at he; split at he
  ·exact .inr ⟨id, e, he, hs⟩
  ·cases he
theorem cut_open {σ : Sg} {m : List Bool} {n b o : Nat} (h : (σ.cut m n).open_ b o) : σ.open_ b o := h.elim .inl fun h => .inr (cut_own h)
theorem Rel.cut {σ : Sg} {m : List Bool} {n : Nat} {av : AV} {x : Value} (hr : Rel σ av x) : low m n av = true -> Rel (σ.cut m n) av x := by
 induction hr with
 | v x h => intro _; exact .v x h
 | ptr k off b h => intro hl; exact .ptr k off b (by simp only [Sg.cut]; rw [if_pos (by simpa [low] using hl)]; exact h)
 | elt cells off b o xs hc hr ih =>
  intro hl
  exact .elt cells off b o xs (fun i av hi => ⟨(hc i av hi).1, fun h => (hc i av hi).2.1 (cut_open h), (hc i av hi).2.2⟩) fun i av hi => ih i av hi (lowL_get (by simpa [low] using hl) i av hi)
 | nil => intro _; exact .nil
 | glob k => intro _; exact .glob k
 | mp k b h => intro hl; exact .mp k b (by simp only [Sg.cut]; rw [if_pos (by simpa [low] using hl)]; exact h)
 | ps k t b p h hs hp => intro hl; exact .ps k t b p (by simp only [Sg.cut]; rw [if_pos (by simpa [low] using hl)]; exact h) hs hp
 | bbn u => intro _; exact .bbn u
 | bbo id els u a c cap _ hu ih => intro hl; exact .bbo id els u a c cap (ih (by simpa [low] using hl)) hu
 | bbd id els u a p c cap _ hu hp ih => intro hl; exact .bbd id els u a p c cap (ih (by simpa [low] using hl)) hu hp
 | bbr id c u b cap hn he hu =>
  intro hl
  obtain ⟨e, h1, h2⟩ := he
  exact .bbr id c u b cap hn ⟨e, by simp only [Sg.cut]; rw [if_pos (by simpa [low, lowLL] using hl)]; exact h1, h2⟩ hu
 | row k off size len capm b cap h hc hm hx => intro hl; exact .row k off size len capm b cap (by simp only [Sg.cut]; rw [if_pos (by simpa [low] using hl)]; exact h) hc hm hx
 | sl0 tok ht =>
  intro hl
  refine .sl0 tok ?_
  cases tok with
  | own id =>
   obtain ⟨e, h1, h2⟩ := ht
   refine ⟨e, ?_, h2⟩
   simp only [low, Bool.and_eq_true, decide_eq_true_eq] at hl
   simp only [Sg.cut]; rw [if_pos hl.1]; exact h1
  | _ => exact ht
 | slx tok a cap ht hc =>
  intro hl
  refine .slx tok a cap ?_ hc
  cases tok with
  | own id =>
   obtain ⟨e, h1, h2⟩ := ht
   refine ⟨e, ?_, h2⟩
   simp only [low, Bool.and_eq_true, decide_eq_true_eq] at hl
   simp only [Sg.cut]; rw [if_pos hl.1]; exact h1
  | _ => exact ht
 | sl els tok b o cap size xs hs hcap ht hz hc hr ih =>
  intro hl
  simp only [low, Bool.and_eq_true] at hl
  refine .sl els tok b o cap size xs hs hcap ?_ (fun id e h1 h2 => ?_) (fun i el hi j av hj => ⟨(hc i el hi j av hj).1, fun h => (hc i el hi j av hj).2.1 (cut_open h), (hc i el hi j av hj).2.2⟩) fun i el hi j av hj => ih i el hi j av hj (lowL_get (lowLL_get hl.2 i el hi) j av hj)
  ·cases tok with
   | own id =>
    obtain ⟨e, h1, h2⟩ := ht
    refine ⟨e, ?_, h2⟩
    simp only [Sg.cut]; rw [if_pos (by simpa using hl.1)]; exact h1
   | _ => exact ht
  ·simp only [Sg.cut] at h2; split at h2
   ·exact hz id e h1 h2
   ·cases h2
 | agg cells xs hn hc x hx hr ih => intro hl; exact .agg cells xs hn hc x hx fun i av hi => ih i av hi (lowL_get (by simpa [low] using hl) i av hi)
 | tuple vs xs hn x hx hr ih => intro hl; exact .tuple vs xs hn x hx fun i av hi => ih i av hi (lowL_get (by simpa [low] using hl) i av hi)
 | iface t av x h ih => intro hl; exact .iface t av x (ih (by simpa [low] using hl))
 | clo fn first captured fs cs hn hm x y hx hy hr hq ih1 ih2 =>
  intro hl
  simp only [low, Bool.and_eq_true] at hl
  exact .clo fn first captured fs cs hn hm x y hx hy (fun i av hi => ih1 i av hi (lowL_get hl.1 i av hi)) fun i av hi => ih2 i av hi (lowL_get hl.2 i av hi)
theorem Cells.cut {σ : Sg} {m : List Bool} {n : Nat} {cells : List AV} {vs : List Value} (hc : Cells σ cells vs) (hl : lowL m n cells = true) : Cells (σ.cut m n) cells vs := by
 refine ⟨hc.1, fun i av hi => ?_⟩
 obtain ⟨h1, x, h2, h3⟩ := hc.2 i av hi
 exact ⟨h1, x, h2, h3.cut (lowL_get hl i av hi)⟩
def lowE (m : List Bool) (n : Nat) : Env -> Bool
 | [] => true
 | (_, a) :: e => low m n a && lowE m n e
def lowB (m : List Bool) (n : Nat) : List (Option (List AV)) -> Bool
 | [] => true
 | some c :: r => lowL m n c && lowB m n r
 | none :: r => lowB m n r
theorem lowE_get {m : List Bool} {n : Nat} : ∀ {e : Env} {t : Nat} {a : AV}, lowE m n e = true -> get e t = some a -> low m n a = true
 | [], _, _, _, h => by cases h
 | (u, b) :: e, t, a, hl, h => by
  simp only [lowE, Bool.and_eq_true] at hl
  simp only [get] at h
  split at h
  ·cases h; exact hl.1
  ·exact lowE_get hl.2 h
theorem lowB_get {m : List Bool} {n : Nat} : ∀ {l : List (Option (List AV))} {i : Nat} {c : List AV}, lowB m n l = true -> l[i]? = some (some c) -> lowL m n c = true
 | [], _, _, _, h => by simp at h
 | o :: r, i, c, hl, h => by
  cases i with
  | zero => simp at h; subst h; simp only [lowB, Bool.and_eq_true] at hl; exact hl.1
  | succ i =>
   refine lowB_get (l := r) (i := i) ?_ (by simpa using h)
   cases o with
   | none => exact hl
   | some c' => simp only [lowB, Bool.and_eq_true] at hl; exact hl.2
def keepB : List Bool -> List (Option (List AV)) -> List (Option (List AV))
 | b :: m, x :: l => (if b = true then x else none) :: keepB m l
 | _, _ => []
theorem keepB_get : ∀ {m : List Bool} {l : List (Option (List AV))} {k : Nat} {c : List AV}, (keepB m l)[k]? = some (some c) -> m.getD k false = true /\ l[k]? = some (some c)
 | [], l, k, c, h => by simp [keepB] at h
 | b :: m, [], k, c, h => by simp [keepB] at h
 | b :: m, x :: l, k, c, h => by
  cases k with
  | zero =>
   simp only [keepB, List.getElem?_cons_zero, Option.some.injEq] at h
   split at h
   ·rename_i hb; subst h; exact ⟨hb, rfl⟩
   ·cases h
  | succ k => exact keepB_get (m := m) (l := l) (k := k) (by simpa [keepB] using h)
theorem keepB_of : ∀ {m : List Bool} {l : List (Option (List AV))} {k : Nat} {c : List AV}, m.getD k false = true -> l[k]? = some (some c) -> (keepB m l)[k]? = some (some c)
 | [], l, k, c, h, _ => by simp at h
 | b :: m, [], k, c, _, h => by simp at h
 | b :: m, x :: l, k, c, h1, h2 => by
  cases k with
  | zero =>
   have h1' : b = true := h1
   simp only [List.getElem?_cons_zero, Option.some.injEq] at h2
   simp [keepB, h1', h2]
  | succ k => simpa [keepB] using keepB_of (m := m) (l := l) (k := k) (by simpa using h1) (by simpa using h2)
theorem Ents.cut {σ : Sg} {m : List Bool} {n : Nat} : ∀ {es : List MapEntry} {l : List AV}, Ents σ es l -> lowL m n l = true -> Ents (σ.cut m n) es l
 | [], [], _, _ => trivial
 | [], _ :: _, hc, _ => hc.elim
 | _ :: _, [], hc, _ => hc.elim
 | _ :: _, _ :: _, ⟨⟨k, v, h1, h2, h3⟩, hc⟩, hl => by
  subst h1
  simp only [lowL, low, Bool.and_eq_true, Bool.and_true] at hl
  exact ⟨⟨k, v, rfl, h2.cut hl.1.1, h3.cut hl.1.2⟩, hc.cut hl.2⟩
theorem Inv.cut {σ : Sg} {h : AHeap} (hi : Inv h σ) (m : List Bool) (n : Nat) (hb : lowB m n (keepB m h.blks) = true) (hg : plainG h.globs = true) : Inv ⟨keepB m h.blks, h.bufs.take n, h.globs⟩ (σ.cut m n) := by
 have hblk : ∀ {k b : Nat}, (σ.cut m n).blk k = some b -> m.getD k false = true /\ σ.blk k = some b := by
  intro k b hk
  simp only [Sg.cut] at hk
  split at hk
  ·rename_i h1; exact ⟨h1, hk⟩
  ·cases hk
 have hbuf : ∀ {k : Nat} {e : Buf}, (σ.cut m n).buf k = some e -> k < n /\ σ.buf k = some e := by
  intro k b hk
  simp only [Sg.cut] at hk
  split at hk
  ·rename_i h1; exact ⟨h1, hk⟩
  ·cases hk
 refine ⟨fun k cells hk => ?_, fun k b hk => ?_, fun k l b c c' hk hl hc hc' h1 h2 => ?_, fun id c hc => ?_, fun id e he => ?_, fun id e he => hi.bufle id e (hbuf he).2, fun id e b o he hs => hi.bufat id e b o (hbuf he).2 hs, fun id e b o he hs => hi.bufun id e b o (hbuf he).2 hs, fun id e b o he hs => hi.buflt id e b o (hbuf he).2 hs, fun i j e f b o he hf h1 h2 => hi.bufinj i j e f b o (hbuf he).2 (hbuf hf).2 h1 h2, fun id e k b o he hs hk => hi.bufblk id e k b o (hbuf he).2 hs (hblk hk).2, fun b o ho => ⟨(hi.outer b o ho).1, fun h => (hi.outer b o ho).2 (cut_own h)⟩, fun g cells hgl => ?_⟩
 ·obtain ⟨h1, h2⟩ := keepB_get hk
  obtain ⟨b, h3, h4⟩ := hi.blk k cells h2
  refine ⟨b, by simp only [Sg.cut]; rw [if_pos h1]; exact h3, ?_⟩
  have hlow := lowB_get hb hk
  cases h4 with
  | cells _ cs rest elem h5 h6 => exact .cells cells cs rest elem h5 (h6.cut hlow)
  | it s p h5 => exact .it s p h5
  | map es clock l h5 h6 => exact .map es clock l h5 (h6.cut (by simpa [lowL, low] using hlow))
 ·obtain ⟨h1, h2⟩ := hblk hk
  obtain ⟨c, h3⟩ := hi.dom k b h2
  exact ⟨c, keepB_of h1 h3⟩
 ·exact hi.inj k l b c c' (keepB_get hk).2 (keepB_get hl).2 hc hc' (hblk h1).2 (hblk h2).2
 ·rw [List.getElem?_take] at hc
  split at hc
  ·rename_i h1
   obtain ⟨e, h2, h3⟩ := hi.buf id c hc
   exact ⟨e, by simp only [Sg.cut]; rw [if_pos h1]; exact h2, h3⟩
  ·cases hc
 ·obtain ⟨h1, h2⟩ := hbuf he
  rw [List.getElem?_take, if_pos h1]
  exact hi.bufdom id e h2
 ·exact (hi.glob g cells hgl).cut (by simp only [low]; exact lowL_plain m n cells (List.all_eq_true.1 hg _ hgl))
def Low (σ : Sg) (kb kf : Nat) : Prop := (∀ k b, σ.blk k = some b -> k < kb) /\ ∀ id e, σ.buf id = some e -> id < kf
theorem Le.cut {σ0 σ : Sg} {kb kf n : Nat} {m : List Bool} (hle : Le σ0 σ) (hl : Low σ0 kb kf) (hm : ∀ k, k < kb -> m.getD k false = true) (hn : kf <= n) : Le σ0 (σ.cut m n) where
 blk k b hk := by
  simp only [Sg.cut]; rw [if_pos (hm k (hl.1 k b hk))]; exact hle.blk k b hk
 buf id e he := by
  obtain ⟨e', h1, h2⟩ := hle.buf id e he
  exact ⟨e', by simp only [Sg.cut]; rw [if_pos (by have := hl.2 id e he; omega)]; exact h1, h2⟩
 outer := hle.outer
 cell := hle.cell
 ext := hle.ext
 shape := hle.shape
 whole := hle.whole
 own b o hb ho := hle.own b o hb (cut_own ho)
 size := hle.size
 os := hle.os
 tape := hle.tape
 output := hle.output
structure D (P : Program) (N kb kf : Nat) (x : ACode) (Q : Exit -> Env -> AHeap -> Prop) (env : Env) (h : AHeap) : Prop where
 out : ∀ c, compCode P N c = some x -> ∀ (σ0 σ : Sg) (a : Act), St σ h env N a -> Le σ0 σ -> Low σ0 kb kf -> c.wp P (Lifted σ0 N Q) a σ.w
structure DL (P : Program) (N kb kf : Nat) (x : ACode) (Q : Exit -> Env -> AHeap -> Prop) (env : Env) (h : AHeap) : Prop where
 out : ∀ c, compCode P N c = some x -> ∀ (σ0 σ : Sg) (a : Act), St σ h env N a -> Le σ0 σ -> Low σ0 kb kf -> LoopW P c (Lifted σ0 N Q) a σ.w
def LabW (P : Program) (c rest : Code) (Q : Exit -> Act -> World -> Prop) (a : Act) (w : World) : Prop := ∀ b k cs, ∃ e a' w', Q e a' w' /\ Arrives P (lone (b.at a (.code rest :: .inScope c :: k)) cs w) b k cs e a' w'
structure DG (P : Program) (N kb kf : Nat) (x : ACode) (l : Nat) (Q : Exit -> Env -> AHeap -> Prop) (env : Env) (h : AHeap) : Prop where
 out : ∀ c rest, compCode P N c = some x -> findLabel c l = some rest -> ∀ (σ0 σ : Sg) (a : Act), St σ h env N a -> Le σ0 σ -> Low σ0 kb kf -> LabW P c rest (Lifted σ0 N Q) a σ.w
section
variable {P : Program} {h h' : AHeap} {env env' : Env} {N kb kf : Nat} {Q : Exit -> Env -> AHeap -> Prop} {x y : ACode}
theorem d_of_c (hx : C P N x Q env h) : D P N kb kf x Q env h := ⟨fun c hc σ0 σ a hs hle hl => Code.wp_mono (fun e a' w hh => hh.up hle) (hx.out c hc σ a hs)⟩
theorem Inv.low {σ : Sg} (hi : Inv h σ) (h1 : h.blks.length <= kb) (h2 : h.bufs.length <= kf) : Low σ kb kf := by
 refine ⟨fun k b hk => ?_, fun id e he => ?_⟩
 ·have := hi.name hk; omega
 ·have := (List.getElem?_eq_some_iff.1 (hi.bufdom id e he)).1; omega
theorem asem_of_d (h1 : h.blks.length <= kb) (h2 : h.bufs.length <= kf) (hx : D P N kb kf x Q env h) : asem P N x Q env h := fun c hc σ a hs => hx.out c hc σ σ a hs (Le.refl σ) (hs.inv.low h1 h2)
theorem f_pureD {gl : List (Nat × List AV)} {f : FuncId} {ac : ACode} {rs : List ARes} (hf : getFn P f = some (N, ac, rs)) {args : List AV} {r : AV} {e₀ : Env} (hn : args.length <= N) (he : envOf 0 args = e₀)
  (hbody : D P N 0 0 ac (qret rs r) e₀ ⟨[], [], gl⟩) : PureN P gl f args r := f_pureN hf hn he ⟨asem_of_d (Nat.le_refl _) (Nat.le_refl _) hbody⟩
theorem d_region {ops : List AOper} (hv : V P ops env h fun env' h' => Q .normal env' h') : D P N kb kf (.region ops) Q env h := d_of_c (c_region hv)
theorem d_drawnS (S : List (Nat × List AV)) {ord : List (List Nat)} {al tl : List AOper} (hok : okq al = true) (hst : statS (clo ord) al = true) (hS : inS S h = S.map fun p => some (some p.2)) (hv : Sp P S h.globs true al 0 env h fun F h' => vd P tl F h' fun env' h' => Q .normal env' h') : D P N kb kf (.drawn ord al tl) Q env h := d_of_c (c_drawnS S hok hst hS hv)
theorem d_skip (hq : Q .normal env h) : D P N kb kf .skip Q env h := d_of_c (c_skip hq)
theorem d_exit {id : Nat} (hq : Q (.exit id) env h) : D P N kb kf (.exit id) Q env h := d_of_c (c_exit hq)
theorem d_ret (hq : Q .ret env h) : D P N kb kf .ret Q env h := d_of_c (c_ret hq)
theorem d_label {l : Nat} (hq : Q .normal env h) : D P N kb kf (.label l) Q env h := d_of_c (c_label hq)
theorem d_goto {l : Nat} (hq : Q (.goto l) env h) : D P N kb kf (.goto l) Q env h := d_of_c (c_goto hq)
theorem d_ghost (hg : ∀ (σ : Sg) (a : Act), St σ h env N a -> ∃ σ' h' env', σ'.w = σ.w /\ Le σ σ' /\ St σ' h' env' N a /\ D P N kb kf x Q env' h') : D P N kb kf x Q env h := ⟨by
 intro c hc σ0 σ a hs hle hl
 obtain ⟨σ', h', env', hw, l1, s1, hx⟩ := hg σ a hs
 rw [← hw]
 exact hx.out c hc σ0 σ' a s1 (hle.trans l1) hl⟩
theorem dl_ghost (hg : ∀ (σ : Sg) (a : Act), St σ h env N a -> ∃ σ' h' env', σ'.w = σ.w /\ Le σ σ' /\ St σ' h' env' N a /\ DL P N kb kf x Q env' h') : DL P N kb kf x Q env h := ⟨by
 intro c hc σ0 σ a hs hle hl
 obtain ⟨σ', h', env', hw, l1, s1, hx⟩ := hg σ a hs
 rw [← hw]
 exact hx.out c hc σ0 σ' a s1 (hle.trans l1) hl⟩
theorem dg_ghost {l : Nat} (hg : ∀ (σ : Sg) (a : Act), St σ h env N a -> ∃ σ' h' env', σ'.w = σ.w /\ Le σ σ' /\ St σ' h' env' N a /\ DG P N kb kf x l Q env' h') : DG P N kb kf x l Q env h := ⟨by
 intro c rest hc hr σ0 σ a hs hle hl
 obtain ⟨σ', h', env', hw, l1, s1, hx⟩ := hg σ a hs
 rw [← hw]
 exact hx.out c rest hc hr σ0 σ' a s1 (hle.trans l1) hl⟩
theorem own_st {t : Nat} (size : Nat) (hg : get env t = some .nil) {σ : Sg} {a : Act} (hs : St σ h env N a) : ∃ σ', σ'.w = σ.w /\ Le σ σ' /\ St σ' ⟨h.blks, h.bufs ++ [(0, size)], h.globs⟩ ((t, .sl [] (.own h.bufs.length)) :: env) N a := by
 obtain ⟨σ1, w1, l1, i1, b1⟩ := register hs.inv ⟨0, size, none, 0⟩ rfl (fun _ => rfl)
 refine ⟨σ1, w1, l1, i1, ?_, hs.size, hs.defers⟩
 intro u av hu
 simp only [get] at hu
 split at hu
 ·rename_i htu
  subst htu
  cases hu
  obtain ⟨y, h1, h2⟩ := hs.env t _ hg
  cases h2
  exact ⟨_, h1, .sl0 _ ⟨_, b1, Nat.le_refl _, fun _ => ⟨rfl, rfl⟩⟩⟩
 ·exact (hs.env.mono l1) u av hu
theorem ownx_st {k j : Nat} (size : Nat) {cells : List AV} {a0 a1 : AV} (hx0 : ∀ {σ : Sg} {x : Value}, Rel σ a0 x -> x = .slice none 0 0) (hx1 : ∀ {σ : Sg}, Rel σ (.sl [] (.own h.bufs.length)) (.slice none 0 0) -> Rel σ a1 (.slice none 0 0)) (hc1 : a1.isCell = true) (hc0 : (∀ s p, a0 ≠ .it s p) /\ ∀ l, a0 ≠ .tuple l) (hk : h.blks[k]? = some (some cells)) (hj : cells[j]? = some a0) {σ : Sg} {a : Act} (hs : St σ h env N a) : ∃ σ', σ'.w = σ.w /\ Le σ σ' /\ St σ' ⟨h.blks.set k (some (cells.set j a1)), h.bufs ++ [(0, size)], h.globs⟩ env N a := by
 obtain ⟨σ1, w1, l1, i1, b1⟩ := register hs.inv ⟨0, size, none, 0⟩ rfl (fun _ => rfl)
 refine ⟨σ1, w1, l1, ?_, hs.env.mono l1, hs.size, hs.defers⟩
 obtain ⟨b, hb, hat⟩ := i1.blk k cells hk
 have hkl : k < h.blks.length := (List.getElem?_eq_some_iff.1 hk).1
 have hjl : j < cells.length := (List.getElem?_eq_some_iff.1 hj).1
 have hat' : BlkAt σ1 b (cells.set j a1) := by
  cases hat with
  | cells _ cs rest elem h5 h6 =>
   refine .cells _ cs rest elem h5 ⟨by rw [h6.1]; simp, fun i av hi => ?_⟩
   rw [List.getElem?_set] at hi
   split at hi
   ·rename_i hij
    subst hij
    cases hi
    obtain ⟨_, y, h7, h8⟩ := h6.2 j _ hj
    rw [hx0 h8] at h7
    exact ⟨hc1, _, h7, hx1 (.sl0 _ ⟨_, b1, Nat.le_refl _, fun _ => ⟨rfl, rfl⟩⟩)⟩
   ·exact h6.2 i av hi
  | it s p h5 =>
   cases j with
   | zero => exact absurd (by simpa using hj.symm) (hc0.1 s p)
   | succ j => simp at hj
  | map es clock l h5 h6 =>
   cases j with
   | zero => exact absurd (by simpa using hj.symm) (hc0.2 l)
   | succ j => simp at hj
 have hne : ∀ c, (cells.set j a1 = c) -> c ≠ [] := by
  rintro c rfl he
  have := congrArg List.length he
  simp at this
  subst this
  simp at hjl
 refine ⟨fun n c hn => ?_, fun n b' hn => ?_, fun n m b' c c' hn hm hc hc' h1 h2 => ?_, i1.buf, i1.bufdom, i1.bufle, i1.bufat, i1.bufun, i1.buflt, i1.bufinj, i1.bufblk, i1.outer, i1.glob⟩
 ·rw [List.getElem?_set] at hn
  split at hn
  ·rename_i hkn
   subst hkn
   cases hn
   exact ⟨b, hb, hat'⟩
  ·exact i1.blk n c hn
 ·obtain ⟨c, hc⟩ := i1.dom n b' hn
  rw [List.getElem?_set]
  split
  ·rename_i hkn; exact ⟨_, rfl⟩
  ·exact ⟨c, hc⟩
 ·have old : ∀ {n : Nat} {c : List AV}, (h.blks.set k (some (cells.set j a1)))[n]? = some (some c) -> c ≠ [] -> ∃ d, h.blks[n]? = some (some d) /\ d ≠ [] := by
   intro n c hn hc
   rw [List.getElem?_set] at hn
   split at hn
   ·rename_i hkn
    subst hkn
    exact ⟨cells, hk, by rintro rfl; simp at hj⟩
   ·exact ⟨c, hn, hc⟩
  obtain ⟨d, hd, hd0⟩ := old hn hc
  obtain ⟨d', hd', hd0'⟩ := old hm hc'
  exact i1.inj n m b' d d' hd hd' hd0 hd0' h1 h2
theorem drop_st (m : List Bool) (n : Nat) {σ0 σ : Sg} {a : Act} (hs : St σ h env N a) (hle : Le σ0 σ) (hl : Low σ0 kb kf) (hm : ∀ k, k < kb -> m.getD k false = true) (hn : kf <= n) (he : lowE m n env = true) (hb : lowB m n (keepB m h.blks) = true) (hg : plainG h.globs = true) :
  St (σ.cut m n) ⟨keepB m h.blks, h.bufs.take n, h.globs⟩ env N a /\ Le σ0 (σ.cut m n) :=
 ⟨⟨hs.inv.cut m n hb hg, fun t av ht => by obtain ⟨y, h1, h2⟩ := hs.env t av ht; exact ⟨y, h1, h2.cut (lowE_get he ht)⟩, hs.size, hs.defers⟩, hle.cut hl hm hn⟩
theorem dl_drop (m : List Bool) (n : Nat) (hm : ∀ k, k < kb -> m.getD k false = true) (hn : kf <= n) (he : lowE m n env = true) (hb : lowB m n (keepB m h.blks) = true) (hg : plainG h.globs = true) (hx : DL P N kb kf x Q env ⟨keepB m h.blks, h.bufs.take n, h.globs⟩) : DL P N kb kf x Q env h := ⟨by
 intro c hc σ0 σ a hs hle hl
 obtain ⟨h1, h2⟩ := drop_st m n hs hle hl hm hn he hb hg
 exact hx.out c hc σ0 (σ.cut m n) a h1 h2 hl⟩
theorem dg_drop {l : Nat} (m : List Bool) (n : Nat) (hm : ∀ k, k < kb -> m.getD k false = true) (hn : kf <= n) (he : lowE m n env = true) (hb : lowB m n (keepB m h.blks) = true) (hg : plainG h.globs = true) (hx : DG P N kb kf x l Q env ⟨keepB m h.blks, h.bufs.take n, h.globs⟩) : DG P N kb kf x l Q env h := ⟨by
 intro c rest hc hr σ0 σ a hs hle hl
 obtain ⟨h1, h2⟩ := drop_st m n hs hle hl hm hn he hb hg
 exact hx.out c rest hc hr σ0 (σ.cut m n) a h1 h2 hl⟩
theorem d_drop (m : List Bool) (n : Nat) (hm : ∀ k, k < kb -> m.getD k false = true) (hn : kf <= n) (he : lowE m n env = true) (hb : lowB m n (keepB m h.blks) = true) (hg : plainG h.globs = true) (hx : D P N kb kf x Q env ⟨keepB m h.blks, h.bufs.take n, h.globs⟩) : D P N kb kf x Q env h := ⟨by
 intro c hc σ0 σ a hs hle hl
 obtain ⟨h1, h2⟩ := drop_st m n hs hle hl hm hn he hb hg
 exact hx.out c hc σ0 (σ.cut m n) a h1 h2 hl⟩
theorem seq_inv {c : Code} (hc : compCode P N c = some (.seq x y)) : ∃ cx cy, c = .seq cx cy /\ compCode P N cx = some x /\ compCode P N cy = some y := by
 cases c <;> (try simp only [compCode, Option.bind_eq_some_iff, Option.map_eq_some_iff] at hc)
 case seq cx cy => obtain ⟨x', hx', y', hy', he⟩ := hc; cases he; exact ⟨cx, cy, rfl, hx', hy'⟩
 case region id ops d =>
  cases d <;> simp only [compCode, Option.bind_eq_some_iff, Option.map_eq_some_iff] at hc
  ·obtain ⟨_, _, hx⟩ := hc; cases hx
  ·obtain ⟨_, _, _, _, hx⟩ := hc; (repeat' split at hx) <;> cases hx
 all_goals first
  | (cases hc; done)
  | (obtain ⟨_, _, hx⟩ := hc; cases hx; done)
  | (obtain ⟨_, _, _, _, hx⟩ := hc; cases hx; done)
  | (obtain ⟨_, _, _, _, _, _, hx⟩ := hc; cases hx; done)
theorem block_inv {c : Code} {id : Nat} (hc : compCode P N c = some (.block id x)) : ∃ cx, c = .block id cx /\ compCode P N cx = some x := by
 cases c <;> (try simp only [compCode, Option.bind_eq_some_iff, Option.map_eq_some_iff] at hc)
 case block i cx => obtain ⟨x', hx', he⟩ := hc; cases he; exact ⟨cx, rfl, hx'⟩
 case region id ops d =>
  cases d <;> simp only [compCode, Option.bind_eq_some_iff, Option.map_eq_some_iff] at hc
  ·obtain ⟨_, _, hx⟩ := hc; cases hx
  ·obtain ⟨_, _, _, _, hx⟩ := hc; (repeat' split at hx) <;> cases hx
 all_goals first
  | (cases hc; done)
  | (obtain ⟨_, _, hx⟩ := hc; cases hx; done)
  | (obtain ⟨_, _, _, _, hx⟩ := hc; cases hx; done)
  | (obtain ⟨_, _, _, _, _, _, hx⟩ := hc; cases hx; done)
theorem loop_inv {c : Code} (hc : compCode P N c = some (.loop x)) : ∃ cx, c = .loop cx /\ compCode P N cx = some x := by
 cases c <;> (try simp only [compCode, Option.bind_eq_some_iff, Option.map_eq_some_iff] at hc)
 case loop cx => obtain ⟨x', hx', he⟩ := hc; cases he; exact ⟨cx, rfl, hx'⟩
 case region id ops d =>
  cases d <;> simp only [compCode, Option.bind_eq_some_iff, Option.map_eq_some_iff] at hc
  ·obtain ⟨_, _, hx⟩ := hc; cases hx
  ·obtain ⟨_, _, _, _, hx⟩ := hc; (repeat' split at hx) <;> cases hx
 all_goals first
  | (cases hc; done)
  | (obtain ⟨_, _, hx⟩ := hc; cases hx; done)
  | (obtain ⟨_, _, _, _, hx⟩ := hc; cases hx; done)
  | (obtain ⟨_, _, _, _, _, _, hx⟩ := hc; cases hx; done)
theorem d_seqQ (hx : D P N kb kf x (thenA (fun e h => D P N kb kf y Q e h) Q) env h) : D P N kb kf (.seq x y) Q env h := ⟨by
 intro c hc σ0 σ a hs hle hl
 obtain ⟨cx, cy, rfl, hcx, hcy⟩ := seq_inv hc
 refine wp_seq (Code.wp_mono (fun e a' w' hh => ?_) (hx.out cx hcx σ0 σ a hs hle hl))
 obtain ⟨h1, σ2, h2, env2, rfl, q2, q3, q4⟩ := hh
 cases e with
 | normal => exact q4.out cy hcy σ0 σ2 a' q3 q2 hl
 | panic _ => exact h1.elim
 | outgrown => exact h1.elim
 | exit _ => exact ⟨trivial, σ2, h2, env2, rfl, q2, q3, q4⟩
 | goto _ => exact ⟨trivial, σ2, h2, env2, rfl, q2, q3, q4⟩
 | ret => exact ⟨trivial, σ2, h2, env2, rfl, q2, q3, q4⟩⟩
theorem d_blockQ {id : Nat} (hx : D P N kb kf x (inBlockA id Q) env h) : D P N kb kf (.block id x) Q env h := ⟨by
 intro c hc σ0 σ a hs hle hl
 obtain ⟨cx, rfl, hcx⟩ := block_inv hc
 refine wp_block (Code.wp_mono (fun e a' w' hh => ?_) (hx.out cx hcx σ0 σ a hs hle hl))
 obtain ⟨h1, σ2, h2, env2, rfl, q2, q3, q4⟩ := hh
 cases e with
 | panic _ => exact h1.elim
 | outgrown => exact h1.elim
 | normal => exact ⟨trivial, σ2, h2, env2, rfl, q2, q3, q4⟩
 | goto _ => exact ⟨trivial, σ2, h2, env2, rfl, q2, q3, q4⟩
 | ret => exact ⟨trivial, σ2, h2, env2, rfl, q2, q3, q4⟩
 | exit i =>
  simp only [inBlockA] at q4
  simp only [Exit.inBlock]
  split
  ·rename_i hi; rw [if_pos hi] at q4; exact ⟨trivial, σ2, h2, env2, rfl, q2, q3, q4⟩
  ·rename_i hi; rw [if_neg hi] at q4; exact ⟨trivial, σ2, h2, env2, rfl, q2, q3, q4⟩⟩
theorem d_loopQ (hx : DL P N kb kf x Q env h) : D P N kb kf (.loop x) Q env h := ⟨by
 intro c hc σ0 σ a hs hle hl
 obtain ⟨cx, rfl, hcx⟩ := loop_inv hc
 exact loopW_wp (hx.out cx hcx σ0 σ a hs hle hl)⟩
theorem dl_unroll (hx : D P N kb kf x (thenA (fun e h => DL P N kb kf x Q e h) Q) env h) : DL P N kb kf x Q env h := ⟨by
 intro c hc σ0 σ a hs hle hl
 refine loopW_unroll (Code.wp_mono (fun e a' w' hh => ?_) (hx.out c hc σ0 σ a hs hle hl))
 obtain ⟨h1, σ2, h2, env2, q1, q2, q3, q4⟩ := hh
 cases e with
 | panic _ => exact h1.elim
 | outgrown => exact h1.elim
 | normal => subst q1; exact q4.out c hc σ0 σ2 a' q3 q2 hl
 | goto _ => exact ⟨trivial, σ2, h2, env2, q1, q2, q3, q4⟩
 | ret => exact ⟨trivial, σ2, h2, env2, q1, q2, q3, q4⟩
 | exit i => exact ⟨trivial, σ2, h2, env2, q1, q2, q3, q4⟩⟩
theorem d_cond {c : AOpd} {b : Bool} (hc : c.ev env = some (.v (.bool b))) (h1 : b = true -> D P N kb kf x Q env h) (h2 : b = false -> D P N kb kf y Q env h) : D P N kb kf (.cond c x y) Q env h := ⟨by
 intro cc hcc σ0 σ a hs hle hl
 cases cc <;> (try simp only [compCode, Option.bind_eq_some_iff, Option.map_eq_some_iff] at hcc)
 case cond co cx cy =>
  obtain ⟨c', hc', x', hx', y', hy', he⟩ := hcc
  cases he
  obtain ⟨av, hr, hk⟩ := opd (K := fun v => v = .v (.bool b)) hs.env hc' (by rw [hc]; rfl)
  subst hk
  generalize hce : a.eval co = ce at hr
  cases hr with
  | v _ _ =>
  cases b with
  | true => exact wp_cond_true hce ((h1 rfl).out cx hx' σ0 σ a hs hle hl)
  | false => exact wp_cond_false hce ((h2 rfl).out cy hy' σ0 σ a hs hle hl)
 case region id ops d =>
  cases d <;> simp only [compCode, Option.bind_eq_some_iff, Option.map_eq_some_iff] at hcc
  ·obtain ⟨_, _, hx⟩ := hcc; cases hx
  ·obtain ⟨_, _, _, _, hx⟩ := hcc; (repeat' split at hx) <;> cases hx
 all_goals first
  | (cases hcc; done)
  | (obtain ⟨_, _, hx⟩ := hcc; cases hx; done)
  | (obtain ⟨_, _, _, _, hx⟩ := hcc; cases hx; done)
  | (obtain ⟨_, _, _, _, _, _, hx⟩ := hcc; cases hx; done)⟩
theorem d_cond_t {c : AOpd} {b : Bool} (hc : c.ev env = some (.v (.bool b))) (hb : b = true) (h1 : D P N kb kf x Q env h) : D P N kb kf (.cond c x y) Q env h := d_cond hc (fun _ => h1) (fun h => by rw [hb] at h; cases h)
theorem d_cond_f {c : AOpd} {b : Bool} (hc : c.ev env = some (.v (.bool b))) (hb : b = false) (h1 : D P N kb kf y Q env h) : D P N kb kf (.cond c x y) Q env h := d_cond hc (fun h => by rw [hb] at h; cases h) (fun _ => h1)
theorem d_scopeQ {l : Nat} {rest : ACode} (hf : aFind x l = some rest) (hx : D P N kb kf x (jumpA l (fun e h => DG P N kb kf x l Q e h) Q) env h) : D P N kb kf (.scope x) Q env h := ⟨by
 intro c hc σ0 σ a hs hle hl
 obtain ⟨c', rfl, hc'⟩ := scope_inv hc
 obtain ⟨r, hr, hrc⟩ := (aFind_ok l hc').1 rest hf
 intro b k cs
 have hg : gotoIn l (.inScope c' :: k) = some (.code r :: .inScope c' :: k) := by simp [gotoIn, hr]
 obtain ⟨e, a₁, w₁, hq, harr⟩ := hx.out c' hc' σ0 σ a hs hle hl b (.inScope c' :: k) cs
 obtain ⟨h1, σ2, h2, env2, rfl, q2, q3, q4⟩ := hq
 cases e with
 | normal => exact ⟨.normal, a₁, _, ⟨trivial, σ2, h2, env2, rfl, q2, q3, q4⟩, .head step_scope (Steps.trans harr (.one step_inScope))⟩
 | exit id => exact ⟨.exit id, a₁, _, ⟨trivial, σ2, h2, env2, rfl, q2, q3, q4⟩, fun k' hk => .head step_scope (harr k' (by simp [exitTo, hk]))⟩
 | goto l' =>
  obtain ⟨rfl, hJ⟩ := q4
  obtain ⟨e₂, a₂, w₂, hq₂, harr₂⟩ := hJ.out c' r hc' hr σ0 σ2 a₁ q3 q2 hl b k cs
  exact ⟨e₂, a₂, w₂, hq₂, .of_steps (.head step_scope (harr _ hg)) harr₂⟩
 | ret => exact ⟨_, a₁, _, ⟨trivial, σ2, h2, env2, rfl, q2, q3, q4⟩, .of_steps (.one step_scope) harr⟩
 | panic ch => exact h1.elim
 | outgrown => exact h1.elim⟩
theorem dg_unroll {l : Nat} {rest : ACode} (hf : aFind x l = some rest) (hx : D P N kb kf rest (jumpA l (fun e h => DG P N kb kf x l Q e h) Q) env h) : DG P N kb kf x l Q env h := ⟨by
 intro c' r0 hc' hr0 σ0 σ a hs hle hl
 obtain ⟨r, hr, hrc⟩ := (aFind_ok l hc').1 rest hf
 obtain rfl : r = r0 := by rw [hr] at hr0; exact Option.some.inj hr0
 intro b k cs
 have hg : gotoIn l (.inScope c' :: k) = some (.code r :: .inScope c' :: k) := by simp [gotoIn, hr]
 obtain ⟨e, a₁, w₁, hq, harr⟩ := hx.out r hrc σ0 σ a hs hle hl b (.inScope c' :: k) cs
 obtain ⟨h1, σ2, h2, env2, rfl, q2, q3, q4⟩ := hq
 cases e with
 | normal => exact ⟨.normal, a₁, _, ⟨trivial, σ2, h2, env2, rfl, q2, q3, q4⟩, Steps.trans harr (.one step_inScope)⟩
 | exit id => exact ⟨.exit id, a₁, _, ⟨trivial, σ2, h2, env2, rfl, q2, q3, q4⟩, fun k' hk => harr k' (by simp [exitTo, hk])⟩
 | goto l' =>
  obtain ⟨rfl, hJ⟩ := q4
  obtain ⟨e₂, a₂, w₂, hq₂, harr₂⟩ := hJ.out c' r hc' hr σ0 σ2 a₁ q3 q2 hl b k cs
  exact ⟨e₂, a₂, w₂, hq₂, .of_steps (harr _ hg) harr₂⟩
 | ret => exact ⟨_, a₁, _, ⟨trivial, σ2, h2, env2, rfl, q2, q3, q4⟩, harr⟩
 | panic ch => exact h1.elim
 | outgrown => exact h1.elim⟩
theorem d_scope0 (hx : D P N kb kf x (noGotoA Q) env h) : D P N kb kf (.scope x) Q env h := ⟨by
 intro c hc σ0 σ a hs hle hl
 obtain ⟨c', rfl, hc'⟩ := scope_inv hc
 refine wp_scope_straight (Code.wp_mono (fun e a' w' hh => ?_) (hx.out c' hc' σ0 σ a hs hle hl))
 obtain ⟨h1, σ2, h2, env2, rfl, q2, q3, q4⟩ := hh
 cases e with
 | panic _ => exact h1.elim
 | outgrown => exact h1.elim
 | goto _ => exact q4.elim
 | normal => exact ⟨trivial, σ2, h2, env2, rfl, q2, q3, q4⟩
 | ret => exact ⟨trivial, σ2, h2, env2, rfl, q2, q3, q4⟩
 | exit i => exact ⟨trivial, σ2, h2, env2, rfl, q2, q3, q4⟩⟩
end
theorem does_F {P : Program} {o : AOp} {env : Env} {h h' : AHeap} {av : AV} (he : aopF false noC o env h = some (av, h')) : Does P o env h av h' := fun K hk => aopF_ok noC_ok he hk
def fz (n : Nat) (cells : List AV) : AV -> AV
 | .ptr k off => if k = n then .elt cells off else .ptr k off
 | a => a
def fzE (n : Nat) (cells : List AV) : Env -> Env
 | [] => []
 | (t, a) :: e => (t, fz n cells a) :: fzE n cells e
theorem fzE_get {n : Nat} {cells : List AV} : ∀ {e : Env} {t : Nat} {b : AV}, get (fzE n cells e) t = some b -> ∃ a, get e t = some a /\ b = fz n cells a
 | [], _, _, h => by cases h
 | (u, a) :: e, t, b, h => by
  simp only [fzE, get] at h ⊢
  split at h
  ·rename_i hu; rw [if_pos hu]; cases h; exact ⟨a, rfl, rfl⟩
  ·rename_i hu; rw [if_neg hu]; exact fzE_get h
def alive : List Bool -> List (Option (List AV)) -> Bool
 | b :: m, x :: l => (match b, x with | true, some [] => false | _, _ => true) && alive m l
 | _, _ => true
theorem alive_get : ∀ {m : List Bool} {l : List (Option (List AV))} {k : Nat} {c : List AV}, alive m l = true -> m.getD k false = true -> l[k]? = some (some c) -> c ≠ []
 | [], _, _, _, _, h, _ => by simp at h
 | b :: m, [], _, _, _, _, h => by simp at h
 | b :: m, x :: l, 0, c, h, h1, h2 => by
  have h1' : b = true := h1
  simp only [List.getElem?_cons_zero, Option.some.injEq] at h2
  subst h1' h2
  rintro rfl
  simp [alive] at h
 | b :: m, x :: l, k + 1, c, h, h1, h2 => by
  simp only [alive, Bool.and_eq_true] at h
  exact alive_get h.2 (by simpa using h1) (by simpa using h2)
theorem d_freeze {P : Program} {h : AHeap} {env : Env} {N kb kf : Nat} {Q : Exit -> Env -> AHeap -> Prop} {x : ACode} (n : Nat) (m : List Bool) (k : Nat) (cells : List AV) (hb : h.blks[n]? = some (some cells)) (hit : noIt cells = true) (hmn : m.getD n false = false) (hal : alive m h.blks = true) (hm : ∀ k, k < kb -> m.getD k false = true) (hn : kf <= k)
  {e : Env} (hE : fzE n cells env = e) (he : lowE m k e = true) (hB : lowB m k (keepB m h.blks) = true) (hg : plainG h.globs = true) (hx : D P N kb kf x Q e ⟨keepB m h.blks, h.bufs.take k, h.globs⟩) : D P N kb kf x Q env h := ⟨by
 subst hE
 intro c hc σ0 σ a hs hle hl
 refine hx.out c hc σ0 (σ.cut m k) a ⟨hs.inv.cut m k hB hg, fun t av ht => ?_, hs.size, hs.defers⟩ (hle.cut hl hm hn) hl
 have hlow := lowE_get he ht
 obtain ⟨a0, h1, rfl⟩ := fzE_get ht
 obtain ⟨y, h2, h3⟩ := hs.env t a0 h1
 refine ⟨y, h2, ?_⟩
 cases a0 with
 | ptr j off =>
  simp only [fz] at hlow ⊢
  split at hlow
  ·rename_i hj
   subst hj
   rw [if_pos rfl]
   cases h3 with
   | ptr _ _ b hblk =>
   obtain ⟨b', h4, h5⟩ := hs.inv.blk j cells hb
   rw [hblk] at h4; cases h4
   cases h5 with
   | it s p h6 => cases hit
   | map es clock l h5 h6 => cases hit
   | cells _ cs rest elem h6 h7 =>
   have hlc : lowL m k cells = true := by simpa [low] using hlow
   have key : ∀ (i : Nat) (av : AV), cells[i]? = some av -> ∃ xv, σ.w.cell? ⟨b, i, none⟩ = some xv /\ Rel σ av xv /\ av.isCell = true := by
    intro i av hi
    obtain ⟨q1, xv, q2, q3⟩ := h7.2 i av hi
    refine ⟨xv, ?_, q3, q1⟩
    have hlt : i < cs.length := (List.getElem?_eq_some_iff.1 q2).1
    simp [World.cell?, h6, List.getElem?_append_left hlt, q2]
   have hne : cells ≠ [] := by rintro rfl; cases hit
   have := Rel.elt (σ := σ.cut m k) cells off b 0 (fun i => (σ.w.cell? ⟨b, i, none⟩).getD undef) (fun i av hi => by
    obtain ⟨xv, q1, q2, q3⟩ := key i av hi
    refine ⟨by show σ.w.cell? _ = _; rw [Nat.zero_add, q1]; rfl, ?_, q3⟩
    rintro (ho | ⟨j', hj'⟩ | ⟨id, eb, he1, he2⟩)
    ·exact (hs.inv.outer _ _ ho).2 (.inl ⟨j, hblk⟩)
    ·simp only [Sg.cut] at hj'
     split at hj'
     ·rename_i hmj
      obtain ⟨c', hc'⟩ := hs.inv.dom j' b hj'
      have := hs.inv.inj j' j b c' cells hc' hb (alive_get hal hmj hc') hne hj' hblk
      subst this
      rw [hmn] at hmj; cases hmj
     ·cases hj'
    ·simp only [Sg.cut] at he1
     split at he1
     ·exact hs.inv.bufblk id eb j b _ he1 he2 hblk
     ·cases he1) (fun i av hi => by
    obtain ⟨xv, q1, q2, q3⟩ := key i av hi
    rw [q1]
    exact q2.cut (lowL_get hlc i av hi))
   simpa using this
  ·rename_i hj
   rw [if_neg hj]
   exact h3.cut hlow
 | _ => exact h3.cut hlow⟩
theorem nz1_nz1 (a : AV) : nz1 (nz1 a) = nz1 a := by cases a <;> rfl
theorem nzA_nzA (a : AV) : nzA (nzA a) = nzA a := by
 cases a with
 | agg cs => simp only [nzA, List.map_map]; congr 1; exact List.map_congr_left fun x _ => nz1_nz1 x
 | _ => rfl
theorem nz_nz (a : AV) : nz (nz a) = nz a := by
 cases a with
 | tuple vs => simp only [nz, List.map_map]; congr 1; exact List.map_congr_left fun x _ => nzA_nzA x
 | agg cs => exact nzA_nzA (.agg cs)
 | _ => rfl
def FCall (P : Program) (gl : List (Nat × List AV)) (f : AV) (args : List AV) (r : AV) : Prop := ∃ g a b, f = .clo (.func g) a b /\ plainL ((a ++ args ++ b).map nz) = true /\ PureN P gl g ((a ++ args ++ b).map nz) r
theorem q_fcall {P : Program} {h : AHeap} {env : Env} {f : AOpd} {args : List AOpd} {F : AV} {l l' : List AV} {r : AV} (hf : f.ev env = some F) (ha : evs env args = some l) (hl : l.map nz = l') (hgl : plainG h.globs = true) (hc : FCall P h.globs F l' r) : Does P (.call f args) env h r h := by
 obtain ⟨g, a, b, rfl, hp, hn⟩ := hc
 refine q_callv hf ha ?_ hgl hp hn
 subst hl
 simp only [List.map_append, List.map_map]
 congr 2
 exact List.map_congr_left fun x _ => (nz_nz x).symm
theorem q_max3 {P : Program} {h : AHeap} {env : Env} {x y z : AOpd} {k k' k'' : IntKind} {a b c : Int} (hx : x.ev env = some (.v (.int k a))) (hy : y.ev env = some (.v (.int k' b))) (hz : z.ev env = some (.v (.int k'' c))) : Does P (.minmax true [x, y, z]) env h (.v (.int k (max (max a b) c))) h := fun K hk =>
 (a_minmax (l := [.v (.int k a), .v (.int k' b), .v (.int k'' c)]) (v := .int k (max (max a b) c)) (by simp [evs, hx, hy, hz]) (by simp only [mmx, if_true]; congr 2; (repeat' split) <;> omega) hk).out
theorem q_min3 {P : Program} {h : AHeap} {env : Env} {x y z : AOpd} {k k' k'' : IntKind} {a b c : Int} (hx : x.ev env = some (.v (.int k a))) (hy : y.ev env = some (.v (.int k' b))) (hz : z.ev env = some (.v (.int k'' c))) : Does P (.minmax false [x, y, z]) env h (.v (.int k (min (min a b) c))) h := fun K hk =>
 (a_minmax (l := [.v (.int k a), .v (.int k' b), .v (.int k'' c)]) (v := .int k (min (min a b) c)) (by simp [evs, hx, hy, hz]) (by simp only [mmx, Bool.false_eq_true, if_false]; congr 2; (repeat' split) <;> omega) hk).out
theorem less_st {h : AHeap} {e env : Env} {N : Nat} (he : Less e env) {σ : Sg} {a : Act} (hs : St σ h env N a) : St σ h e N a := ⟨hs.inv, fun t av hg => hs.env t av (he t av hg), hs.size, hs.defers⟩
theorem km_d {P : Program} {N kb kf : Nat} {x : ACode} {Q : Exit -> Env -> AHeap -> Prop} : KMono fun e h => D P N kb kf x Q e h := fun e env h he hx => d_ghost fun σ a hs => ⟨σ, h, e, rfl, Le.refl σ, less_st he hs, hx⟩
theorem km_dl {P : Program} {N kb kf : Nat} {x : ACode} {Q : Exit -> Env -> AHeap -> Prop} : KMono fun e h => DL P N kb kf x Q e h := fun e env h he hx => dl_ghost fun σ a hs => ⟨σ, h, e, rfl, Le.refl σ, less_st he hs, hx⟩
theorem outs_less {e env : Env} (he : Less e env) {h : AHeap} : ∀ {rs : List ARes} {K : List AV -> Prop}, outs e h rs K -> outs env h rs K
 | [], _, hk => hk
 | .tmp t :: r, K, hk => he.wv (x := .t t) hk fun a ha => outs_less he ha
 | .cell t n :: r, K, hk => by
  obtain ⟨p, h1, h2⟩ := wv_some hk
  show wv (get env t) _
  rw [he t p h1]
  simp only [wv, loaded] at h2 ⊢
  split at h2
  ·split at h2
   ·split at h2
    ·exact outs_less he h2
    ·exact h2.elim
   ·exact ⟨h2.1, outs_less he h2.2⟩
  ·exact h2.elim
theorem km_ret {rs : List ARes} {r : AV} : KMono fun e h => qret rs r .normal e h := fun e env h he hx => outs_less he hx
abbrev T (n : Nat) : AOpd := .t n
abbrev o (d : Nat) (x : AOp) : AOper := ⟨some d, x, none⟩
abbrev og (d : Nat) (x : AOp) (t : Nat) (b : Bool) : AOper := ⟨some d, x, some (t, b)⟩
abbrev on (x : AOp) : AOper := ⟨none, x, none⟩
abbrev mv (n : Nat) : AOp := .mv (.t n)
abbrev ln (n t : Nat) : AOp := .load (some n) (.t t)
abbrev st (n p x : Nat) : AOp := .store n (.t p) (.t x)
abbrev wI (n : Int) : Int := IntKind.i64.wrap n
abbrev wU (n : Int) : Int := IntKind.u64.wrap n
theorem less_true {env : Env} {t : Nat} {B b : Bool} (hB : B = b) (hg : get env t = some (.v (.bool B))) : Less ((t, .v (.bool b)) :: env) env := by
 subst hB
 intro u a h
 simp only [get] at h
 split at h
 ·rename_i hu; subst hu; cases h; exact hg
 ·exact h
def elsOf : Option AV -> Option (List (List AV))
 | some (.sl els _) => some els
 | _ => none
theorem elsOf_some {x : Option AV} {els : List (List AV)} (h : elsOf x = some els) : ∃ tok, x = some (.sl els tok) := by
 unfold elsOf at h
 split at h
 ·cases h; exact ⟨_, rfl⟩
 ·cases h
structure GFn where
 fn : FuncId
 fi : List AV
 cap : List AV
 hp : (plainL fi && plainL cap) = true
theorem gfn_fi (g : GFn) : plainL g.fi = true := (Bool.and_eq_true _ _ ▸ g.hp).1
theorem gfn_cap (g : GFn) : plainL g.cap = true := (Bool.and_eq_true _ _ ▸ g.hp).2
def eFn (g : GFn) : List AV := [.clo (.func g.fn) g.fi g.cap]
theorem pl_Fn (g : GFn) : plainL (eFn g) = true := by simp only [eFn, plainL, plain, gfn_fi, gfn_cap]; rfl
theorem plm_Fn (l : List GFn) : plainLL (l.map eFn) = true := plainLL_map _ _ fun x _ => pl_Fn x
section
variable {P : Program} {h h' : AHeap} {env e : Env} {N kb kf : Nat} {Q : Exit -> Env -> AHeap -> Prop} {K : Env -> AHeap -> Prop} {L : List AOper} {k : Nat} {S gl : List (Nat × List AV)} {b : Bool} {x y : ACode}
theorem vo {o : AOper} {av : AV} {d : Nat} (hl : L[k]? = some o) (ha : Does P o.op env h av h') (hd : o.dst = some d) (hk : Vp P L (k + 1) ((d, av) :: env) h' K) (hg : guardF env o.guard = some true := by kernel_rfl) : Vp P L k env h K := vp_opg hl hg ha rfl (by rw [hd]; rfl) hk
theorem get_mem : ∀ {e : Env} {t : Nat} {a : AV}, get e t = some a -> (t, a) ∈ e
 | [], _, _, h => by cases h
 | (u, b) :: e, t, a, h => by
  simp only [get] at h
  split at h
  ·rename_i hu; subst hu; cases h; exact List.mem_cons_self
  ·exact List.mem_cons_of_mem _ (get_mem h)
theorem get_two : ∀ {e f : Env} {t : Nat}, get (e ++ f) t = match get e t with | some a => some a | none => get f t
 | [], _, _ => rfl
 | (u, b) :: e, f, t => by
  simp only [List.cons_append, get]
  split
  ·rfl
  ·exact get_two
abbrev aI (n : Int) : AV := .v (.int .i64 n)
abbrev aU (n : Int) : AV := .v (.int .u64 n)
abbrev aC (n : Int) : AV := .v (.int .u8 n)
abbrev aB (b : Bool) : AV := .v (.bool b)
abbrev aS (s : ByteArray) : AV := .v (.string s)
abbrev aE : AV := .v (.string ⟨#[]⟩)
abbrev zV : List AV := [aI 0, aU 0, aE, .nil, .nil, .nil, .nil]
theorem dr {ops : List AOper} (hv : Vp P ops 0 env h fun env' h' => Q .normal env' h') : D P N kb kf (.region ops) Q env h := d_region (vp_start hv)
theorem dS (S : List (Nat × List AV)) {ord : List (List Nat)} {al tl : List AOper} (hv : Sp P S h.globs true al 0 env h fun F h' => vd P tl F h' fun env' h' => Q .normal env' h') (hok : okq al = true := by kernel_rfl) (hst : statS (clo ord) al = true := by kernel_rfl) (hS : inS S h = S.map (fun p => some (some p.2)) := by kernel_rfl) : D P N kb kf (.drawn ord al tl) Q env h := d_drawnS S hok hst hS hv
theorem dk {c : AOpd} {B : Bool} (hB : B = true) (h1 : D P N kb kf x Q env h) (hc : c.ev env = some (.v (.bool B)) := by kernel_rfl) : D P N kb kf (.cond c x y) Q env h := d_cond_t hc hB h1
theorem rx {rs : List ARes} {R : Type} {f : R -> AV} {r r0 : R} (hw : r = r0) (hp : plain (f r0) = true) (he : (outsF env h rs).map (fun l => nz (retv l)) = some (f r0) := by kernel_rfl) : qret rs (f r) .ret env h := by
 subst hw
 simp only [Option.map_eq_some_iff] at he
 obtain ⟨l, h1, h2⟩ := he
 exact r_end h1 h2 hp
abbrev tl (P : Program) (N : Nat) (y : ACode) (Q : Exit -> Env -> AHeap -> Prop) : Exit -> Env -> AHeap -> Prop := thenA (fun e h => DL P N 0 0 y Q e h) Q
theorem ds {P : Program} {N kb kf : Nat} {ops : List AOper} {y : ACode} {Q : Exit -> Env -> AHeap -> Prop} {env : Env} {h : AHeap} (hv : Vp P ops 0 env h fun env' h' => D P N kb kf y Q env' h') : D P N kb kf (.seq (.region ops) y) Q env h := d_seqQ (dr hv)
def intOf : Option AV -> Option Int
 | some (.v (.int _ n)) => some n
 | _ => none
theorem intOf_some {x : Option AV} {n : Int} (h : intOf x = some n) : ∃ k, x = some (.v (.int k n)) := by
 unfold intOf at h
 split at h
 ·cases h; exact ⟨_, rfl⟩
 ·cases h
variable {α : Type}
theorem x_len {x : AOpd} (l : List α) (e : α -> List AV) (hx : elsOf (x.ev env) = some (List.map e l) := by kernel_rfl) : Does P (.len false x) env h (.v (.int .i64 l.length)) h := by
 obtain ⟨tok, hx⟩ := elsOf_some hx
 exact q_len hx
theorem x_idx {size : Nat} {x i : AOpd} {l : List α} {e' e : α -> List AV} {n : Int} {y : α} (h0 : 0 <= n) (hy : l[n.toNat]? = some y) (he : e' y = e y) (hx : elsOf (x.ev env) = some (List.map e' l) := by kernel_rfl) (hi : intOf (i.ev env) = some n := by kernel_rfl) (hs : (e y).length = size := by kernel_rfl) : Does P (.idxSl size x i) env h (.elt (e y) 0) h := by
 obtain ⟨tok, hx⟩ := elsOf_some hx
 obtain ⟨k, hi⟩ := intOf_some hi
 exact q_idxSl hx hi h0 hy he hs
theorem x_idxS {x i : AOpd} {s : ByteArray} {n : Int} (h0 : 0 <= n /\ n < (s.size : Int)) (hx : x.ev env = some (.v (.string s)) := by kernel_rfl) (hi : intOf (i.ev env) = some n := by kernel_rfl) : Does P (.idxS x i) env h (.v (.int .u8 (byteAt s n.toNat))) h := by
 obtain ⟨k, hi⟩ := intOf_some hi
 exact q_idxS hx hi h0
theorem x_sliceS {x : AOpd} {lo hi : Option AOpd} {s : ByteArray} {l u : Int} (h0 : 0 <= l /\ l <= u /\ u <= (s.size : Int)) (hx : x.ev env = some (.v (.string s)) := by kernel_rfl) (h3 : (evo env lo).bind (boundOf 0) = some l := by kernel_rfl) (h4 : (evo env hi).bind (boundOf s.size) = some u := by kernel_rfl) : Does P (.sliceS x lo hi) env h (.v (.string (s.extract l.toNat u.toNat))) h := by
 obtain ⟨lv, h1, h3⟩ := Option.bind_eq_some_iff.1 h3
 obtain ⟨hv, h2, h4⟩ := Option.bind_eq_some_iff.1 h4
 exact q_sliceS hx h1 h2 h3 h4 h0
def tokOf : Option AV -> Option Tok
 | some (.sl _ t) => some t
 | _ => none
def bin2 (op : BinOp) (x y : Option AV) : Option (Prop × Value) :=
 match x, y with
 | some (.v a), some (.v b) => pbin op a b
 | _, _ => none
theorem x_bin {op : BinOp} {x y : AOpd} {c : Prop} (r : Value) (hc : c) (hp : bin2 op (x.ev env) (y.ev env) = some (c, r) := by kernel_rfl) : Does P (.bin op x y) env h (.v r) h := by
 unfold bin2 at hp
 split at hp
 ·rename_i a b h1 h2; exact q_bin h1 h2 hp hc
 ·cases hp
theorem x_cat {x y : AOpd} {a b : ByteArray} (h0 : ((a.size + b.size : Nat) : Int) <= 9223372036854775807) (hx : x.ev env = some (.v (.string a)) := by kernel_rfl) (hy : y.ev env = some (.v (.string b)) := by kernel_rfl) : Does P (.bin .add x y) env h (.v (.string (a ++ b))) h := q_catS hx hy h0
theorem x_call {g : FuncId} {args : List AOpd} {l' : List AV} {r : AV} (hc : PureN P h.globs g l' r) (hp : plainL l' = true) (ha : (evs env args).map (List.map nz) = some l' := by kernel_rfl) (hgl : plainG h.globs = true := by kernel_rfl) : Does P (.call (.c (.clo (.func g) [] [])) args) env h r h := by
 obtain ⟨l, h1, h2⟩ := Option.map_eq_some_iff.1 ha
 exact q_calln rfl h1 h2 hgl hp hc
theorem x_fcall {f : AOpd} {args : List AOpd} {F : AV} {l' : List AV} {r : AV} (hc : FCall P h.globs F l' r) (hf : f.ev env = some F := by kernel_rfl) (ha : (evs env args).map (List.map nz) = some l' := by kernel_rfl) (hgl : plainG h.globs = true := by kernel_rfl) : Does P (.call f args) env h r h := by
 obtain ⟨l, h1, h2⟩ := Option.map_eq_some_iff.1 ha
 exact q_fcall hf h1 h2 hgl hc
theorem x_app {e0 : TypeId} {size byt : Nat} {x y : AOpd} (id : Nat) (e' : α -> List AV) (l m : List α) (h0 : (l.length + m.length) * byt <= 140737488355328) (hs : ∀ y, (e' y).length = size) (hm : (y.ev env).bind (elsH h size) = some (List.map e' m)) (hx : x.ev env = some (.sl (List.map e' l) (.own id)) := by kernel_rfl) (hb : h.bufs[id]? = some (l.length, size) := by kernel_rfl) : Does P (.append e0 size byt x y) env h (.sl (List.map e' (l ++ m)) (.own id)) ⟨h.blks, h.bufs.set id ((l ++ m).length, size), h.globs⟩ := by
 obtain ⟨Y, h1, h2⟩ := Option.bind_eq_some_iff.1 hm
 exact h_append_own hx h1 h2 hb hs h0
theorem x_appf {e0 : TypeId} {size byt : Nat} {x y : AOpd} (e' : α -> List AV) (l m : List α) (h0 : (l.length + m.length) * byt <= 140737488355328) (hs : ∀ y, (e' y).length = size) (hm0 : m ≠ []) (hm : (y.ev env).bind (elsH h size) = some (List.map e' m)) (hX : elsOf (x.ev env) = some (List.map e' l)) (hx : tokOf (x.ev env) = some .full := by kernel_rfl) : Does P (.append e0 size byt x y) env h (.sl (List.map e' (l ++ m)) (.own h.bufs.length)) ⟨h.blks, h.bufs ++ [((l ++ m).length, size)], h.globs⟩ := by
 obtain ⟨Y, h1, h2⟩ := Option.bind_eq_some_iff.1 hm
 obtain ⟨tok, h3⟩ := elsOf_some hX
 rw [h3] at hx
 cases hx
 exact h_append_full (X := .nil) h3 h1 rfl h2 hs h0 hm0
theorem x_bytes {x : AOpd} (s : ByteArray) (hx : x.ev env = some (.v (.string s)) := by kernel_rfl) : Does P (.bytes x) env h (.sl (List.map (fun n => [AV.v (.int .u8 n)]) (bI s)) .no) h := h_bytes hx
theorem x_str {x : AOpd} {l : List Int} {t : ByteArray} (hl : l = bI t) (hx : elsOf (x.ev env) = some (List.map (fun n => [AV.v (.int .u8 n)]) l) := by kernel_rfl) : Does P (.conv .str x) env h (.v (.string t)) h := by
 obtain ⟨tok, hx⟩ := elsOf_some hx
 exact q_str hx hl
end
def smol1 (n : Nat) (β : Option Nat) : AV -> AV
 | .nil => .sl [] .no
 | .sl els (.own id) => if β = some id then .sl els (.own 0) else .sl els .no
 | .sl els .no => .sl els .no
 | .sl els .full => .sl els .no
 | .ptr k off => if k = n then .ptr 0 off else .it ⟨#[]⟩ 0
 | .row k off size len cap => if k = n then .row 0 off size len cap else .it ⟨#[]⟩ 0
 | .ps k t => if k = n then .ps 0 t else .it ⟨#[]⟩ 0
 | .bb (.own id) els u => if β = some id then .bb (.own 0) els u else .it ⟨#[]⟩ 0
 | x => x
def ok1 : AV -> Bool
 | .ptr 0 _ => true
 | .row 0 _ _ _ _ => true
 | .sl els (.own 0) => plainLL els
 | .ps 0 _ => true
 | .bb (.own 0) els _ => plainLL els
 | x => plain x
def Sg.mine (σ : Sg) (b0 : Nat) (β : Option Nat) : Sg := ⟨σ.w, fun i => if i = 0 then some b0 else none, fun j => if j = 0 then β.bind σ.buf else none, fun _ _ => False⟩
def Sg.small (σ : Sg) (b0 : Nat) (β : Option Nat) : Sg := { σ.mine b0 β with outer := fun b o => σ.open_ b o /\ ¬ (σ.mine b0 β).own b o }
theorem Rel.move {σ σ' : Sg} {a : AV} {x : Value} (hr : Rel σ a x) (hp : plain a = true) (hw : σ'.w = σ.w) (ho : ∀ b o, σ'.open_ b o -> σ.open_ b o) : Rel σ' a x :=
 (hr.down (w := σ.w) (outer := σ.open_) hp rfl fun _ _ h => h).up (fun _ => rfl) (fun _ => rfl) hw.symm fun b o h => .inl (ho b o h)
def qio (gl : List (Nat × List AV)) (k : Nat) (rs : List ARes) (r : AV) (c' : List AV) (bf' : List (Nat × Nat)) : Exit -> Env -> AHeap -> Prop
 | .normal, env, h => outs env h rs (fun l => nz (retv l) = r) /\ plain r = true /\ ∃ c0, h.blks[0]? = some (some c0) /\ noIt c0 = true /\ c0.map (smol1 0 (some 0)) = c' /\ c'.all ok1 = true /\ lowL [true] k c' = true /\ h.bufs.take k = bf' /\ h.globs = gl
 | .ret, env, h => outs env h rs (fun l => nz (retv l) = r) /\ plain r = true /\ ∃ c0, h.blks[0]? = some (some c0) /\ noIt c0 = true /\ c0.map (smol1 0 (some 0)) = c' /\ c'.all ok1 = true /\ lowL [true] k c' = true /\ h.bufs.take k = bf' /\ h.globs = gl
 | _, _, _ => False
theorem outs_mono {env : Env} {h : AHeap} : ∀ {rs : List ARes} {K K' : List AV -> Prop}, (∀ l, K l -> K' l) -> outs env h rs K -> outs env h rs K' := by
 intro rs
 induction rs with
 | nil => intro K K' hm hk; exact hm _ hk
 | cons x r ih =>
  intro K K' hm hk
  cases x with
  | tmp t =>
   obtain ⟨a, h1, h2⟩ := wv_some hk
   show wv (get env t) _
   rw [h1]
   exact ih (fun l => hm _) h2
  | cell t n =>
   obtain ⟨p, h1, h2⟩ := wv_some hk
   show wv (get env t) _
   rw [h1]
   simp only [wv, loaded] at h2 ⊢
   split at h2
   ·split at h2
    ·split at h2
     ·exact ih (fun l => hm _) h2
     ·exact h2.elim
    ·exact ⟨h2.1, ih (fun l => hm _) h2.2⟩
   ·exact h2.elim
theorem km_io {gl : List (Nat × List AV)} {k : Nat} {rs : List ARes} {r : AV} {c' : List AV} {bf' : List (Nat × Nat)} : KMono fun e h => qio gl k rs r c' bf' .normal e h := fun e env h he hx => ⟨outs_less he hx.1, hx.2⟩
section
variable {P : Program} {h h' : AHeap} {env e : Env} {N kf : Nat} {Q : Exit -> Env -> AHeap -> Prop} {x : ACode}
end
theorem plainL_append' {a b : List AV} : plainL (a ++ b) = (plainL a && plainL b) := by
 induction a with
 | nil => rfl
 | cons x r ih => simp only [List.cons_append, plainL, ih, Bool.and_assoc]
def cellsOf {α : Type} (e : α -> List AV) (l : List α) : List AV := (l.map e).flatten
section
variable {α : Type} {e : α -> List AV} {sz : Nat}
theorem cellsOf_sz (hs : ∀ y, (e y).length = sz) {l : List α} : ∀ r ∈ l.map e, r.length = sz := by
 intro r hr
 obtain ⟨y, _, rfl⟩ := List.mem_map.1 hr
 exact hs y
theorem cellsOf_get (hs : ∀ y, (e y).length = sz) {l : List α} {i k : Nat} {y : α} (hy : l[i]? = some y) (hk : k < sz) : (cellsOf e l)[i * sz + k]? = (e y)[k]? := by
 rw [cellsOf, flat_get _ (cellsOf_sz hs) i k hk, List.getElem?_map, hy]
 rfl
theorem cellsOf_len (hs : ∀ y, (e y).length = sz) : ∀ (l : List α), (cellsOf e l).length = l.length * sz
 | [] => by simp [cellsOf]
 | y :: l => by
  have := cellsOf_len hs l
  simp only [cellsOf, List.map_cons, List.flatten_cons, List.length_append, List.length_cons, Nat.add_mul] at this ⊢
  rw [hs, this]; omega
theorem cellsOf_ni (hn : ∀ y, noIt (e y) = true) : ∀ {l : List α}, l ≠ [] -> noIt (cellsOf e l) = true
 | [], h => (h rfl).elim
 | y :: l, _ => by
  have := hn y
  cases hy : e y with
  | nil => rw [hy] at this; cases this
  | cons a r => rw [hy] at this; simp only [cellsOf, List.map_cons, List.flatten_cons, hy, List.cons_append, noIt] at this ⊢; exact this
theorem plainL_cellsOf (e : α -> List AV) {l : List α} (h : plainLL (l.map e) = true) : plainL (cellsOf e l) = true := by
 unfold cellsOf
 revert h
 generalize l.map e = x
 intro h
 induction x with
 | nil => rfl
 | cons a r ih => simp only [plainLL, Bool.and_eq_true] at h; rw [List.flatten_cons, plainL_append', h.1, ih h.2]; rfl
theorem some_ne {l : List α} {i : Nat} {y : α} (hy : l[i]? = some y) : l ≠ [] := by rintro rfl; simp at hy
theorem cellsOf_set (hs : ∀ y, (e y).length = sz) : ∀ {l : List α} {i : Nat} {z : α}, i < l.length -> splice (cellsOf e l) (i * sz) (e z) = cellsOf e (l.set i z)
 | [], i, z, h => by simp at h
 | y :: l, 0, z, h => by
  simp only [splice, cellsOf, List.map_cons, List.flatten_cons, Nat.zero_mul, List.take_zero, List.nil_append, Nat.zero_add, List.set_cons_zero]
  rw [hs, List.drop_append_of_le_length (by rw [hs]; exact Nat.le_refl _), List.drop_of_length_le (by rw [hs]; exact Nat.le_refl _), List.nil_append]
 | y :: l, i + 1, z, h => by
  have := cellsOf_set hs (l := l) (i := i) (z := z) (by simpa using h)
  simp only [splice, cellsOf, List.map_cons, List.flatten_cons, List.set_cons_succ] at this ⊢
  rw [← this, Nat.add_mul, Nat.one_mul, Nat.add_comm (i * sz) sz]
  have h1 : (e y ++ (List.map e l).flatten).take (sz + i * sz) = e y ++ ((List.map e l).flatten).take (i * sz) := by
   have := hs y
   rw [List.take_append, this, List.take_of_length_le (by omega)]; congr 2; omega
  have h2 : (e y ++ (List.map e l).flatten).drop (sz + i * sz + (e z).length) = ((List.map e l).flatten).drop (i * sz + (e z).length) := by
   have := hs y
   rw [List.drop_append, this, List.drop_of_length_le (by omega), List.nil_append]; congr 1; omega
  rw [h1, h2]; simp [List.append_assoc]
theorem zerosOf_eq (z : α) (hs : (e z).length = sz) (n : Nat) : zerosOf sz n (e z) = cellsOf e (List.replicate n z) := by
 have hl : (zerosOf sz n (e z)).length = n * sz := by simp [zerosOf]
 have hl2 : (cellsOf e (List.replicate n z)).length = n * sz := by
  simp only [cellsOf, List.map_replicate, List.length_flatten, List.map_replicate, List.sum_replicate_nat, hs]
 refine List.ext_getElem? fun i => ?_
 rcases Nat.lt_or_ge i (n * sz) with hi | hi
 ·have h0 : 0 < sz := by
   rcases Nat.eq_zero_or_pos sz with h | h
   ·subst h; simp at hi
   ·exact h
  have hm : i % sz < sz := Nat.mod_lt _ h0
  have hd : i / sz < n := (Nat.div_lt_iff_lt_mul h0).2 hi
  have e1 : (zerosOf sz n (e z))[i]? = some ((e z).getD (i % sz) .nil) := by
   simp [zerosOf, List.getElem?_range, hi]
  have e2 : (cellsOf e (List.replicate n z))[i]? = (e z)[i % sz]? := by
   have hh := flat_get (List.map e (List.replicate n z)) (size := sz) (by
    intro r hr
    simp only [List.map_replicate, List.mem_replicate] at hr
    rw [hr.2, hs]) (i / sz) (i % sz) hm
   rw [Nat.mul_comm, Nat.div_add_mod] at hh
   rw [cellsOf, hh]
   simp [List.getElem?_replicate, hd]
  rw [e1, e2, List.getD_eq_getElem?_getD]
  rw [List.getElem?_eq_getElem (by rw [hs]; exact hm)]
  rfl
 ·rw [List.getElem?_eq_none (by omega), List.getElem?_eq_none (by omega)]
end
section
variable {P : Program} {h h' : AHeap} {env : Env} {α : Type} {e : α -> List AV} {sz : Nat}
theorem x_make {x y : AOpd} {bytes : Nat} {zero : List AV} (e : α -> List AV) (z : α) (L C : Int) (h0 : 0 <= L /\ L <= C /\ C * bytes <= 140737488355328) (hx : intOf (x.ev env) = some L := by kernel_rfl) (hy : intOf (y.ev env) = some C := by kernel_rfl) (hz : zero = e z := by kernel_rfl) (hs : (e z).length = sz := by kernel_rfl) : Does P (.make sz bytes zero x y) env h (.row h.blks.length 0 sz L.toNat C.toNat) ⟨h.blks ++ [some (cellsOf e (List.replicate C.toNat z))], h.bufs, h.globs⟩ := by
 obtain ⟨k1, hx⟩ := intOf_some hx
 obtain ⟨k2, hy⟩ := intOf_some hy
 subst hz
 intro K hk
 simp only [aop, hx, hy, wv, made]
 rw [zerosOf_eq z hs]
 exact .inl ⟨h0, hk⟩
theorem x_make0 {x y : AOpd} {bytes : Nat} {zero : List AV} (C : Int) (h0 : 0 <= C /\ C * bytes <= 140737488355328) (hx : intOf (x.ev env) = some 0 := by kernel_rfl) (hy : intOf (y.ev env) = some C := by kernel_rfl) : Does P (.make 1 bytes zero x y) env h (.sl [] (.own h.bufs.length)) ⟨h.blks, h.bufs ++ [(0, 1)], h.globs⟩ := by
 obtain ⟨k1, hx⟩ := intOf_some hx
 obtain ⟨k2, hy⟩ := intOf_some hy
 intro K hk
 simp only [aop, hx, hy, wv]
 exact .inr ⟨⟨rfl, h0.1, h0.2, rfl⟩, hk⟩
theorem x_ridx {x i : AOpd} (r len cap : Nat) {n : Int} (h0 : 0 <= n /\ n < (len : Int)) (hx : x.ev env = some (.row r 0 sz len cap) := by kernel_rfl) (hi : intOf (i.ev env) = some n := by kernel_rfl) : Does P (.idxSl sz x i) env h (.ptr r (0 + n.toNat * sz)) h := by
 obtain ⟨k, hi⟩ := intOf_some hi
 intro K hk
 simp only [aop, hx, hi, wv, indexed]
 exact ⟨h0, trivial, hk⟩
theorem place_row {r off : Nat} {l : List α} (hn : ∀ y, noIt (e y) = true) (hb : h.blks[r]? = some (some (cellsOf e l))) (hl : l ≠ []) : place h (.ptr r off) = some (cellsOf e l, off) := by
 simp only [place, hb, cellsOf_ni hn hl, if_true]
theorem x_rld1 {x : AOpd} {r off i k : Nat} {l : List α} {y : α} {av : AV} (hs : ∀ y, (e y).length = sz) (hn : ∀ y, noIt (e y) = true) (hy : l[i]? = some y) (hk : k < sz) (hav : (e y)[k]? = some av) (hoff : off = i * sz + k) (hx : x.ev env = some (.ptr r off) := by kernel_rfl) (hb : h.blks[r]? = some (some (cellsOf e l)) := by kernel_rfl) : Does P (.load none x) env h av h := by
 intro K hK
 simp only [aop, hx, wv, loaded, place_row hn hb (some_ne hy)]
 rw [hoff, cellsOf_get hs hy hk, hav]
 exact hK
theorem x_rst {p x : AOpd} {r off i : Nat} {l : List α} {av : AV} (z : α) (hs : ∀ y, (e y).length = sz) (hn : ∀ y, noIt (e y) = true) (hi : i < l.length) (hav : e z = av.cells) (hoff : off = i * sz) (hp : p.ev env = some (.ptr r off) := by kernel_rfl) (hx : x.ev env = some av := by kernel_rfl) (ht : av.isTuple = false := by kernel_rfl) (hb : h.blks[r]? = some (some (cellsOf e l)) := by kernel_rfl) : Does P (.store sz p x) env h (.tuple []) ⟨h.blks.set r (some (cellsOf e (l.set i z))), h.bufs, h.globs⟩ := by
 intro K hK
 have hne : l ≠ [] := by rintro rfl; simp at hi
 simp only [aop, hp, hx, wv, stored, hb, cellsOf_ni hn hne]
 rw [← cellsOf_set hs hi, hav, ← hoff] at hK
 refine .inl ⟨⟨trivial, by rw [← hav]; exact hs z, ?_, ht⟩, hK⟩
 rw [hoff, cellsOf_len hs, ← Nat.succ_mul]
 exact Nat.mul_le_mul_right sz hi
end
section
variable {P : Program} {h : AHeap} {env : Env} {K : Env -> AHeap -> Prop} {L : List AOper} {k : Nat}
end
structure RowE {α : Type} (e : α -> List AV) (sz : Nat) : Prop where
 hs : ∀ y, (e y).length = sz
 hn : ∀ y, noIt (e y) = true
 hp : ∀ y, plainL (e y) = true
 hz : ∀ y, (e y).map nz1 = e y
section
variable {α : Type} {e : α -> List AV} {sz : Nat}
theorem plainL_mem : ∀ {l : List AV}, plainL l = true -> ∀ a ∈ l, plain a = true
 | [], _, a, h => by cases h
 | b :: l, hp, a, h => by
  simp only [plainL, Bool.and_eq_true] at hp
  rcases List.mem_cons.1 h with h | h
  ·rw [h]; exact hp.1
  ·exact plainL_mem hp.2 a h
theorem ok1_plain {a : AV} (hp : plain a = true) : ok1 a = true := by
 cases a with
 | sl els tok => cases tok <;> first | exact hp | simp_all [plain, ok1]
 | ptr _ _ => simp [plain] at hp
 | row _ _ _ _ _ => simp [plain] at hp
 | ps _ _ => simp [plain] at hp
 | bb _ _ _ => simp [plain] at hp
 | _ => exact hp
theorem RowE.mem (he : RowE e sz) {l : List α} {a : AV} (h : a ∈ cellsOf e l) : plain a = true /\ nz1 a = a := by
 unfold cellsOf at h
 obtain ⟨c, hc, ha⟩ := List.mem_flatten.1 h
 obtain ⟨y, _, rfl⟩ := List.mem_map.1 hc
 refine ⟨plainL_mem (he.hp y) a ha, ?_⟩
 obtain ⟨i, hi⟩ := List.mem_iff_getElem?.1 ha
 have := congrArg (fun l => l[i]?) (he.hz y)
 simpa [List.getElem?_map, hi] using this
theorem RowE.ok (he : RowE e sz) (l : List α) : (cellsOf e l).all ok1 = true := List.all_eq_true.2 fun a ha => ok1_plain (he.mem ha).1
theorem plainL_of {l : List AV} (h : ∀ a ∈ l, plain a = true) : plainL l = true := by
 induction l with
 | nil => rfl
 | cons a l ih => simp only [plainL, Bool.and_eq_true]; exact ⟨h a List.mem_cons_self, ih fun b hb => h b (List.mem_cons_of_mem _ hb)⟩
theorem RowE.plain (he : RowE e sz) (l : List α) : plainL (cellsOf e l) = true := plainL_of fun a ha => (he.mem ha).1
end
end Go.Proofs.YtdpomombdeccpaaGreatDoor.Lift
