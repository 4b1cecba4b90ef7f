/- Part 2 of the texts that prove RowScalarsEnd. -/
import Derived.Test.YtidmmngcijapcaaGreatRowScalarsEndP0
import Derived.ScopeJumps
import Derived.LoopN
namespace Go.Proofs.YtidmmngcijapcaaGreat.Lift
open Go.RowKit
set_option linter.unusedVariables false
set_option linter.unusedSimpArgs false
set_option linter.unnecessarySimpa false
set_option linter.unusedSectionVars false
set_option maxRecDepth 100000
section
def aopQ (P : Program) (o : AOp) (env : Env) (h : AHeap) (av : AV) : Prop := aop P o env h fun av' h' => av' = av /\ h' = h
def vq (P : Program) : List AOper -> Env -> AHeap -> (Env -> Prop) -> Prop
 | [], env, _, K => K env
 | o :: r, env, h, K => guarded env o.guard (∃ av, aopQ P o.op env h av /\ vq P r (putE env o.dst av) h K) (vq P r (dropE env o.dst) h K)
def writes (t : Tmp) (l : List AOper) : Bool := l.any fun o => o.dst == some t
def AOper.looks (o : AOper) : List Tmp := (o.op.opds.filterMap fun | .t n => some n | .c _ => none) ++ (match o.guard with | some (t, _) => [t] | none => [])
def okq : List AOper -> Bool
 | [] => true
 | o :: r => (o.looks.all fun t => !writes t (o :: r)) && (match o.dst with | some d => !writes d r | none => true) && okq r
def Fact (P : Program) (F : Env) (h : AHeap) (o : AOper) : Prop :=
 let does := ∃ av, aopQ P o.op F h av /\ ∀ d, o.dst = some d -> get F d = some av
 match o.guard with
 | none => does
 | some (t, want) => (∃ b, get F t = some (.v (.bool b)) /\ (b = want -> does) /\ (b ≠ want -> ∀ d, o.dst = some d -> get F d = some (.tuple []))) ∨ (get F t = some (.tuple []) /\ ∀ d, o.dst = some d -> get F d = some (.tuple []))
theorem get_putE (env : Env) (dst : Option Tmp) (av : AV) (t : Tmp) : get (putE env dst av) t = if dst = some t then some av else get env t := by
 cases dst with
 | none => simp [putE]
 | some d => simp [putE, get]
theorem get_dropE (env : Env) (dst : Option Tmp) (t : Tmp) : get (dropE env dst) t = if dst = some t then some (.tuple []) else get env t := by
 cases dst with
 | none => simp [dropE]
 | some d => simp [dropE, get]
section
variable {P : Program} {σ : Sg} {h : AHeap} {env : Env} {N : Nat} {a : Act}
theorem vq_facts {K : Env -> Prop} : ∀ (l : List AOper) (env : Env), okq l = true -> vq P l env h K -> ∃ F, K F /\ (∀ t, writes t l = false -> get F t = get env t) /\ ∀ o ∈ l, Fact P F h o
 | [], env, _, hv => ⟨env, hv, fun _ _ => rfl, fun o ho => by cases ho⟩
 | o :: r, env, hok, hv => by
  simp only [okq, Bool.and_eq_true, List.all_eq_true] at hok
  obtain ⟨⟨hlook, hdst⟩, hokr⟩ := hok
  have hwr : ∀ t, writes t (o :: r) = false -> o.dst ≠ some t /\ writes t r = false := by
   intro t ht
   simp only [writes, List.any_cons, Bool.or_eq_false_iff] at ht ⊢
   exact ⟨by simpa using ht.1, ht.2⟩
  have hd : ∀ d, o.dst = some d -> writes d r = false := by
   intro d hd
   rw [hd] at hdst
   simpa using hdst
  have hl : ∀ (F : Env), (∀ t, writes t (o :: r) = false -> get F t = get env t) -> ∀ t ∈ o.looks, get env t = get F t := fun F hF t ht => (hF t (by simpa using hlook t ht)).symm
  have hcong : ∀ (F : Env), (∀ t, writes t (o :: r) = false -> get F t = get env t) -> ∀ av, aopQ P o.op env h av -> aopQ P o.op F h av := by
   intro F hF av hq
   unfold aopQ at hq ⊢
   rw [← aop_congr (e1 := env) (e2 := F)]
   ·exact hq
   ·intro x hx
    cases x with
    | c a => rfl
    | t n =>
     refine hl F hF n ?_
     simp only [AOper.looks, List.mem_append, List.mem_filterMap]
     exact .inl ⟨.t n, hx, rfl⟩
  have yes : (∃ av, aopQ P o.op env h av /\ vq P r (putE env o.dst av) h K) -> ∃ F, K F /\ (∀ t, writes t (o :: r) = false -> get F t = get env t) /\ (∃ av, aopQ P o.op F h av /\ ∀ d, o.dst = some d -> get F d = some av) /\ ∀ o' ∈ r, Fact P F h o' := by
   rintro ⟨av, hq, hv⟩
   obtain ⟨F, k1, k2, k3⟩ := vq_facts r _ hokr hv
   have hF : ∀ t, writes t (o :: r) = false -> get F t = get env t := by
    intro t ht
    obtain ⟨h1, h2⟩ := hwr t ht
    rw [k2 t h2, get_putE, if_neg h1]
   refine ⟨F, k1, hF, ⟨av, hcong F hF av hq, fun d hd' => ?_⟩, k3⟩
   rw [k2 d (hd d hd'), get_putE, if_pos hd']
  have no : vq P r (dropE env o.dst) h K -> ∃ F, K F /\ (∀ t, writes t (o :: r) = false -> get F t = get env t) /\ (∀ d, o.dst = some d -> get F d = some (.tuple [])) /\ ∀ o' ∈ r, Fact P F h o' := by
   intro hv
   obtain ⟨F, k1, k2, k3⟩ := vq_facts r _ hokr hv
   refine ⟨F, k1, fun t ht => ?_, fun d hd' => ?_, k3⟩
   ·obtain ⟨h1, h2⟩ := hwr t ht
    rw [k2 t h2, get_dropE, if_neg h1]
   ·rw [k2 d (hd d hd'), get_dropE, if_pos hd']
  simp only [vq, guarded] at hv
  split at hv
  ·rename_i hg
   obtain ⟨F, k1, k2, k3, k4⟩ := yes hv
   refine ⟨F, k1, k2, fun o' ho' => ?_⟩
   rcases List.mem_cons.1 ho' with rfl | ho'
   ·unfold Fact; rw [hg]; exact k3
   ·exact k4 o' ho'
  ·rename_i t want hg
   obtain ⟨v, hget, hv⟩ := wv_some hv
   split at hv
   ·rename_i b
    have ht : ∀ F : Env, (∀ t, writes t (o :: r) = false -> get F t = get env t) -> get F t = some (.v (.bool b)) := by
     intro F hF
     rw [← hl F hF t (by simp [AOper.looks, hg])]
     exact hget
    by_cases hb : b = want
    ·obtain ⟨F, k1, k2, k3, k4⟩ := yes (hv.1 hb)
     refine ⟨F, k1, k2, fun o' ho' => ?_⟩
     rcases List.mem_cons.1 ho' with rfl | ho'
     ·unfold Fact; rw [hg]; exact .inl ⟨b, ht F k2, fun _ => k3, fun hn => absurd hb hn⟩
     ·exact k4 o' ho'
    ·obtain ⟨F, k1, k2, k3, k4⟩ := no (hv.2 (by cases b <;> cases want <;> simp_all))
     refine ⟨F, k1, k2, fun o' ho' => ?_⟩
     rcases List.mem_cons.1 ho' with rfl | ho'
     ·unfold Fact; rw [hg]; exact .inl ⟨b, ht F k2, fun hy => absurd hy hb, fun _ => k3⟩
     ·exact k4 o' ho'
   ·obtain ⟨F, k1, k2, k3, k4⟩ := no hv
    refine ⟨F, k1, k2, fun o' ho' => ?_⟩
    rcases List.mem_cons.1 ho' with rfl | ho'
    ·unfold Fact; rw [hg]
     exact .inr ⟨by rw [← hl F k2 t (by simp [AOper.looks, hg])]; exact hget, k3⟩
    ·exact k4 o' ho'
   ·exact hv.elim
def ahead (ops : Array Oper) (i j : Nat) : Bool := match ops[i]? with
 | some o => o.after.any fun e => Region.binds .any e && e.on == j
 | none => false
def goes (md : Region.Mode) (ops : Array Oper) : Bool :=
 let L := Region.linearise md ops 0
 (List.range ops.size).all (fun i => L.contains i) && (List.range L.length).all fun k => match L[k]? with
  | some i => match ops[i]? with
   | some o => o.after.all fun e => !Region.binds md e || (L.take k).contains e.on
   | none => false
  | none => false
def orderOK (ops : Array Oper) (m : Nat) (al : List AOper) : Bool :=
 (goes .any ops && goes .text ops && goes .gc ops) &&
 (List.range ops.size).all (fun i => decide (i < m) || (List.range i).all fun j => ahead ops i j) &&
 (List.range m).all (fun i => match al[i]? with
  | some o => o.looks.all fun t => (List.range m).all fun k => !((ops[k]?).bind (·.dst) == some t) || ahead ops i k
  | none => false)
theorem mem_ready' {md : Region.Mode} {ops : Array Oper} {listed : Array Bool} {i : Nat} : i ∈ Region.ready md ops listed ↔ listed.getD i true = false /\ ∃ o, ops[i]? = some o /\ ∀ e ∈ o.after, Region.binds md e = true -> listed.getD e.on false = true := by
 unfold Region.ready
 simp only [List.mem_filter, List.mem_range, Bool.and_eq_true, Bool.not_eq_true']
 constructor
 ·rintro ⟨_, h1, h2⟩
  refine ⟨h1, ?_⟩
  cases ho : ops[i]? with
  | none => simp [ho] at h2
  | some o =>
   refine ⟨o, rfl, fun e he hb => ?_⟩
   simp only [ho, Option.map_some, Option.getD_some, Array.all_eq_true'] at h2
   have := h2 e he
   simpa [hb] using this
 ·rintro ⟨h1, o, ho, h2⟩
  refine ⟨(Array.getElem?_eq_some_iff.1 ho).1, h1, ?_⟩
  simp only [ho, Option.map_some, Option.getD_some, Array.all_eq_true']
  intro e he
  cases hb : Region.binds md e with
  | false => simp
  | true => simp [h2 e he hb]
theorem getD_set {listed : Array Bool} {i j : Nat} {d : Bool} (hi : i < listed.size) : (listed.setIfInBounds i true).getD j d = if i = j then true else listed.getD j d := by
 simp only [Array.getD_eq_getD_getElem?, Array.getElem?_setIfInBounds]
 by_cases hij : i = j
 ·subst hij; simp [hi]
 ·simp [hij]
theorem getD_any {listed : Array Bool} {j : Nat} (hj : j < listed.size) (d e : Bool) : listed.getD j d = listed.getD j e := by
 simp [Array.getD_eq_getD_getElem?, hj]
theorem getD_lt {listed : Array Bool} {j : Nat} (h : listed.getD j true = false) : j < listed.size := by
 by_cases hj : j < listed.size
 ·exact hj
 ·simp [Array.getD_eq_getD_getElem?, Array.getElem?_eq_none (Nat.le_of_not_lt hj)] at h
theorem binds_any {md : Region.Mode} {e : Edge} (h : Region.binds .any e = true) : Region.binds md e = true := by
 unfold Region.binds at h ⊢
 split at h <;> simp_all
theorem ahead_not {md : Region.Mode} {ops : Array Oper} {listed : Array Bool} {i j : Nat} (ha : ahead ops i j = true) (hj : listed.getD j true = false) : i ∉ Region.ready md ops listed := by
 intro hr
 obtain ⟨_, o, ho, h2⟩ := mem_ready'.1 hr
 unfold ahead at ha
 rw [ho] at ha
 simp only [Array.any_eq_true'] at ha
 obtain ⟨e, he, hc⟩ := ha
 simp only [Bool.and_eq_true, beq_iff_eq] at hc
 have := h2 e he (binds_any hc.1)
 rw [hc.2, getD_any (getD_lt hj) false true, hj] at this
 cases this
structure Order (ops : Array Oper) (m : Nat) (al : List AOper) : Prop where
 back : ∀ md, goes md ops = true
 tail : ∀ i, i < ops.size -> m <= i -> ∀ j, j < i -> ahead ops i j = true
 head : ∀ i o, i < m -> al[i]? = some o -> ∀ t ∈ o.looks, ∀ k, k < m -> (ops[k]?).bind (·.dst) = some t -> ahead ops i k = true
theorem order_of {ops : Array Oper} {m : Nat} {al : List AOper} (h : orderOK ops m al = true) : Order ops m al := by
 simp only [orderOK, Bool.and_eq_true, List.all_eq_true] at h
 obtain ⟨⟨h1, h2⟩, h3⟩ := h
 refine ⟨fun md => by cases md <;> simp [h1], fun i hi hm j hj => ?_, fun i o hi ho t ht k hkm hk => ?_⟩
 ·have := h2 i (List.mem_range.2 hi)
  simp only [Bool.or_eq_true, decide_eq_true_eq, List.all_eq_true] at this
  rcases this with h | h
  ·omega
  ·exact h j (List.mem_range.2 hj)
 ·have := h3 i (List.mem_range.2 hi)
  rw [ho] at this
  simp only [List.all_eq_true] at this
  have := this t ht k (List.mem_range.2 hkm)
  simpa [hk] using this
theorem least_ready {md : Region.Mode} {ops : Array Oper} {m : Nat} {al : List AOper} (ho : Order ops m al) {listed : Array Bool} (hsz : listed.size = ops.size) (hne : ∃ i, i < ops.size /\ listed.getD i true = false) : ∃ i, i ∈ Region.ready md ops listed := by
 have hg := ho.back md
 simp only [goes, Bool.and_eq_true, List.all_eq_true] at hg
 obtain ⟨g1, g2⟩ := hg
 generalize hL : Region.linearise md ops 0 = L at g1 g2
 obtain ⟨i, hi, hf⟩ := hne
 have hmem : i ∈ L := by simpa using g1 i (List.mem_range.2 hi)
 obtain ⟨k, hk⟩ := List.mem_iff_getElem?.1 hmem
 obtain ⟨k0, ⟨i0, hk0, hf0⟩, hmin⟩ := exists_least (p := fun k => ∃ i, L[k]? = some i /\ listed.getD i true = false) ⟨k, i, hk, hf⟩
 have := g2 k0 (List.mem_range.2 (List.getElem?_eq_some_iff.1 hk0).1)
 rw [hk0] at this
 simp only at this
 split at this
 ·rename_i o hoi
  refine ⟨i0, mem_ready'.2 ⟨hf0, o, hoi, fun e he hb => ?_⟩⟩
  simp only [Array.all_eq_true'] at this
  have := this e he
  rw [hb] at this
  simp only [Bool.not_true, Bool.false_or, List.contains_iff_mem] at this
  obtain ⟨q, hq⟩ := List.mem_iff_getElem?.1 this
  rw [List.getElem?_take] at hq
  split at hq
  ·rename_i hqk
   cases hc : listed.getD e.on true with
   | true =>
    have hlt : e.on < listed.size := by
     have hmem2 : e.on ∈ L := List.mem_of_getElem? hq
     have := g2 q (List.mem_range.2 (List.getElem?_eq_some_iff.1 hq).1)
     rw [hq] at this
     simp only at this
     split at this
     ·rename_i o2 ho2
      rw [hsz]; exact (Array.getElem?_eq_some_iff.1 ho2).1
     ·cases this
    rw [getD_any hlt false true]; exact hc
   | false => have := hmin q ⟨e.on, hq, hc⟩; omega
  ·cases hq
 ·cases this
theorem tail_any {md : Region.Mode} {ops : Array Oper} {m : Nat} {al : List AOper} (ho : Order ops m al) {Q : Exit -> Act -> World -> Prop} : ∀ (f j : Nat) (listed : Array Bool) (a : Act) (w : World), m <= j -> j <= ops.size -> ops.size - j <= f -> listed.size = ops.size ->
  (∀ i, i < ops.size -> listed.getD i true = decide (i < j)) -> wpOps P ops Q (List.range' j (ops.size - j)) a w -> wpAny P md ops Q f listed a w := by
 intro f
 induction f with
 | zero =>
  intro j listed a w hm hj hf hsz hl hw
  have : ops.size - j = 0 := by omega
  rw [this] at hw
  refine ⟨?_, hw⟩
  apply List.eq_nil_iff_forall_not_mem.2
  intro i hi
  obtain ⟨h1, o, h2, _⟩ := mem_ready'.1 hi
  have hlt := (Array.getElem?_eq_some_iff.1 h2).1
  rw [hl i hlt] at h1
  simp at h1; omega
 | succ f ih =>
  intro j listed a w hm hj hf hsz hl hw
  have only : ∀ i ∈ Region.ready md ops listed, i = j := by
   intro i hi
   obtain ⟨h1, o, h2, _⟩ := mem_ready'.1 hi
   have hlt := (Array.getElem?_eq_some_iff.1 h2).1
   rw [hl i hlt] at h1
   simp at h1
   by_cases hij : i = j
   ·exact hij
   ·refine absurd hi (ahead_not (ho.tail i hlt (by omega) j (by omega)) ?_)
    rw [hl j (by omega)]; simp
  refine ⟨fun hnil => ?_, fun i hi => ?_⟩
  ·by_cases hjn : j = ops.size
   ·subst hjn
    rw [show ops.size - ops.size = 0 by omega] at hw
    exact hw
   ·exfalso
    obtain ⟨i, hi⟩ := least_ready (md := md) ho hsz ⟨j, by omega, by rw [hl j (by omega)]; simp⟩
    rw [hnil] at hi; cases hi
  ·have := only i hi
   subst this
   have hlt : i < ops.size := by
    obtain ⟨h1, o, h2, _⟩ := mem_ready'.1 hi
    exact (Array.getElem?_eq_some_iff.1 h2).1
   rw [show ops.size - i = (ops.size - (i + 1)) + 1 by omega, List.range'_succ, wpOps_cons] at hw
   refine wpOp_mono (fun a' w' h' => ?_) hw
   refine ih (i + 1) _ a' w' (by omega) (by omega) (by omega) (by simp [hsz]) (fun k hk => ?_) h'
   rw [getD_set (by omega), hl k hk]
   by_cases hik : i = k
   ·subst hik; simp
   ·rw [if_neg hik]; simp; omega
def seen (ops : Array Oper) (m : Nat) (listed : Array Bool) (t : Tmp) : Prop := ∀ k, k < m -> (ops[k]?).bind (·.dst) = some t -> listed.getD k true = true
open Classical in
noncomputable def filt (p : Tmp -> Prop) : Env -> Env
 | [] => []
 | (t, v) :: e => if p t then (t, v) :: filt p e else filt p e
open Classical in
theorem get_filt (p : Tmp -> Prop) (e : Env) (t : Tmp) : get (filt p e) t = if p t then get e t else none := by
 induction e with
 | nil => simp [filt, get]
 | cons q e ih =>
  obtain ⟨k, v⟩ := q
  by_cases hk : p k
  ·simp only [filt, if_pos hk, get]
   by_cases hkt : k = t
   ·subst hkt; simp [hk]
   ·simp only [hkt, if_false, ih]
  ·simp only [filt, if_neg hk, get, ih]
   by_cases hkt : k = t
   ·subst hkt; simp [hk]
   ·simp only [hkt, if_false]
end
end
section
variable {P : Program} {σ : Sg} {h : AHeap} {env : Env} {N : Nat} {a : Act}
theorem compOps_get {ops : Array Oper} : ∀ {l : List Oper} {al : List AOper}, compOps P N ops l = some al -> al.length = l.length /\ ∀ (i : Nat) (o : Oper), l[i]? = some o -> ∃ ao, al[i]? = some ao /\ compOper P N ops o = some ao
 | [], al, h => by simp [compOps] at h; subst h; exact ⟨rfl, fun i o hi => by simp at hi⟩
 | o :: l, al, h => by
  simp only [compOps, Option.bind_eq_some_iff, Option.map_eq_some_iff] at h
  obtain ⟨ao, h1, r, h2, rfl⟩ := h
  obtain ⟨g1, g2⟩ := compOps_get h2
  refine ⟨by simp [g1], fun i o' hi => ?_⟩
  cases i with
  | zero => simp at hi; subst hi; exact ⟨ao, rfl, h1⟩
  | succ i => exact g2 i o' (by simpa using hi)
theorem compOper_some {ops : Array Oper} {o : Oper} {ao : AOper} (h : compOper P N ops o = some ao) : compOp P o = some ao.op /\ (∀ d, o.dst = some d -> d < N) /\ ao.dst = o.dst /\
  ((o.guard = none /\ ao.guard = none) ∨ ∃ j b t, o.guard = some (j, b) /\ ao.guard = some (t, b) /\ (ops[j]?).bind (·.dst) = some t) := by
 simp only [compOper, Option.bind_eq_some_iff] at h
 obtain ⟨op, hop, h⟩ := h
 split at h
 ·rename_i hd
  split at h
  ·rename_i hg; cases h; exact ⟨hop, dstOK_lt hd, rfl, .inl ⟨hg, rfl⟩⟩
  ·rename_i j b hg
   simp only [Option.map_eq_some_iff] at h
   obtain ⟨t, ht, rfl⟩ := h
   exact ⟨hop, dstOK_lt hd, rfl, .inr ⟨j, b, t, hg, rfl, ht⟩⟩
 ·cases h
structure Half (ops : Array Oper) (m : Nat) (F : Env) (h : AHeap) (N : Nat) (listed : Array Bool) (σ : Sg) (a : Act) : Prop where
 inv : Inv h σ
 env : EnvRel σ (filt (seen ops m listed) F) a.tmps
 size : a.tmps.size = N
 defers : a.defers = []
theorem head_any {md : Region.Mode} {ops : Array Oper} {al : List AOper} {F : Env} (hq : compOps P N ops (ops.toList.take al.length) = some al) (hm : al.length <= ops.size) (ho : Order ops al.length al) (hF : ∀ o ∈ al, Fact P F h o)
  (huniq : ∀ i j t, (ops[i]?).bind (·.dst) = some t -> (ops[j]?).bind (·.dst) = some t -> i < al.length -> j < al.length -> i = j)
  {Q : Exit -> Act -> World -> Prop} {σ₀ : Sg} (hend : ∀ σ a, Le σ₀ σ -> St σ h F N a -> wpOps P ops Q (List.range' al.length (ops.size - al.length)) a σ.w) :
  ∀ (f : Nat) (listed : Array Bool) (a : Act) (σ : Sg), listed.size = ops.size -> (∀ i, al.length <= i -> i < ops.size -> listed.getD i true = false) -> Le σ₀ σ -> Half ops al.length F h N listed σ a -> listed.toList.count false <= f -> wpAny P md ops Q f listed a σ.w := by
 obtain ⟨hlen, hget⟩ := compOps_get hq
 intro f
 induction f with
 | zero =>
  intro listed a σ hsz htail hle hh hc
  -- nothing is left
  have hall : ∀ i, i < ops.size -> listed.getD i true = true := by
   intro i hi
   cases hb : listed.getD i true with
   | true => rfl
   | false =>
    exfalso
    have hmem : false ∈ listed.toList := by
     rw [List.mem_iff_getElem?]
     refine ⟨i, ?_⟩
     have : listed[i]? = some listed[i] := Array.getElem?_eq_getElem (by omega)
     simp only [Array.getD_eq_getD_getElem?, this, Option.getD_some] at hb
     simp only [Array.getElem?_toList, this, hb]
    have := List.count_pos_iff.2 hmem
    omega
  have hmn : al.length = ops.size := by
   by_cases he : al.length = ops.size
   ·exact he
   ·have := htail al.length (Nat.le_refl _) (by omega)
    rw [hall _ (by omega)] at this; cases this
  have hst : St σ h F N a := ⟨hh.inv, fun t av hg => hh.env t av (by rw [get_filt, if_pos (show seen ops al.length listed t from fun k hk _ => hall k (by omega))]; exact hg), hh.size, hh.defers⟩
  have := hend σ a hle hst
  refine tail_any ho 0 al.length listed a σ.w (Nat.le_refl _) hm (by omega) hsz (fun i hi => by rw [hall i hi]; simp; omega) this
 | succ f ih =>
  intro listed a σ hsz htail hle hh hc
  by_cases hall : ∀ i, i < al.length -> listed.getD i true = true
  ·have hst : St σ h F N a := ⟨hh.inv, fun t av hg => hh.env t av (by rw [get_filt, if_pos (show seen ops al.length listed t from fun k hk _ => hall k hk)]; exact hg), hh.size, hh.defers⟩
   refine tail_any ho (f + 1) al.length listed a σ.w (Nat.le_refl _) hm ?_ hsz (fun i hi => ?_) (hend σ a hle hst)
   ·
    have hcnt : ops.size - al.length <= listed.toList.count false := by
     have hsplit : listed.toList = listed.toList.take al.length ++ listed.toList.drop al.length := (List.take_append_drop _ _).symm
     rw [hsplit, List.count_append]
     have hd : listed.toList.drop al.length = List.replicate (ops.size - al.length) false := by
      apply List.eq_replicate_iff.2
      refine ⟨by simp [hsz], fun b hb => ?_⟩
      obtain ⟨i, hi⟩ := List.mem_iff_getElem?.1 hb
      rw [List.getElem?_drop] at hi
      have hlt := (List.getElem?_eq_some_iff.1 hi).1
      have := htail (al.length + i) (by omega) (by simpa [hsz] using hlt)
      simp only [Array.getElem?_toList] at hi
      simp only [Array.getD_eq_getD_getElem?, hi, Option.getD_some] at this
      exact this
     rw [hd, List.count_replicate]
     simp
    omega
   ·by_cases him : i < al.length
    ·rw [hall i him]; simp [him]
    ·rw [htail i (by omega) hi]; simp [him]
  ·obtain ⟨i0, hi0, hn0⟩ : ∃ i, i < al.length /\ listed.getD i true = false := by
    false_or_by_contra
    rename_i hcon
    exact hall fun i hi => by
     cases hb : listed.getD i true with
     | true => rfl
     | false => exact absurd ⟨i, hi, hb⟩ hcon
   refine ⟨fun hnil => ?_, fun i hi => ?_⟩
   ·obtain ⟨i, hi⟩ := least_ready (md := md) ho hsz ⟨i0, by omega, hn0⟩
    rw [hnil] at hi; cases hi
   ·obtain ⟨hun, o, hoi, hdeps⟩ := mem_ready'.1 hi
    have hin := (Array.getElem?_eq_some_iff.1 hoi).1
    have him : i < al.length := by
     by_cases h' : i < al.length
     ·exact h'
     ·exact absurd hi (ahead_not (ho.tail i hin (by omega) i0 (by omega)) hn0)
    obtain ⟨ao, hao, hco⟩ := hget i o (by rw [List.getElem?_take, if_pos him]; simpa using hoi)
    obtain ⟨hop, hd, hdst, hguard⟩ := compOper_some hco
    have hfact := hF ao (List.mem_of_getElem? hao)
    -- what it looks at has been listed
    have hsee : ∀ t ∈ ao.looks, seen ops al.length listed t := by
     intro t ht k hk hkd
     have ha := ho.head i ao him hao t ht k hk hkd
     unfold ahead at ha
     rw [hoi] at ha
     simp only [Array.any_eq_true'] at ha
     obtain ⟨e, he, hb⟩ := ha
     simp only [Bool.and_eq_true, beq_iff_eq] at hb
     have := hdeps e he (binds_any hb.1)
     rw [hb.2, getD_any (by omega) false true] at this
     exact this
    have hlook : ∀ t ∈ ao.looks, get (filt (seen ops al.length listed) F) t = get F t := fun t ht => by rw [get_filt, if_pos (hsee t ht)]
    have hst : St σ h (filt (seen ops al.length listed) F) N a := ⟨hh.inv, hh.env, hh.size, hh.defers⟩
    have hcount : (listed.setIfInBounds i true).toList.count false <= f := by
     have hget' : listed.toList[i]'(by simp; omega) = false := by
      have : listed[i]? = some listed[i] := Array.getElem?_eq_getElem (by omega)
      simp only [Array.getD_eq_getD_getElem?, this, Option.getD_some] at hun
      simpa using hun
     have := List.count_set (a := true) (b := false) (l := listed.toList) (i := i) (by simp; omega)
     simp only [Array.toList_setIfInBounds]
     rw [this, hget']
     have hp : 0 < listed.toList.count false := List.count_pos_iff.2 (by rw [List.mem_iff_getElem]; exact ⟨i, by simp; omega, hget'⟩)
     show listed.toList.count false - 1 + 0 <= f
     omega
    have hnext : ∀ (a' : Act) (σ' : Sg), Le σ σ' -> Half ops al.length F h N (listed.setIfInBounds i true) σ' a' -> wpAny P md ops Q f (listed.setIfInBounds i true) a' σ'.w := by
     intro a' σ' hl' hh'
     refine ih _ a' σ' (by simp [hsz]) (fun k hk1 hk2 => ?_) (hle.trans hl') hh' hcount
     rw [getD_set (by omega), if_neg (by omega)]
     exact htail k hk1 hk2
    have hseen' : ∀ t, seen ops al.length (listed.setIfInBounds i true) t -> (ops[i]?).bind (·.dst) ≠ some t -> seen ops al.length listed t := by
     intro t ht hne k hk hkd
     have := ht k hk hkd
     rw [getD_set (by omega)] at this
     by_cases hik : i = k
     ·subst hik; exact absurd hkd hne
     ·rwa [if_neg hik] at this
    have hbind : (ops[i]?).bind (·.dst) = o.dst := by rw [hoi]; rfl
    have does : (∃ av, aopQ P ao.op F h av /\ ∀ d, ao.dst = some d -> get F d = some av) -> Oper.wp P o a σ.w (wpAny P md ops Q f (listed.setIfInBounds i true)) Q := by
     rintro ⟨av, hqa, hfd⟩
     have hqa' : aop P ao.op (filt (seen ops al.length listed) F) h (fun av' h' => av' = av /\ h' = h) := by
      rw [aop_congr (e1 := filt (seen ops al.length listed) F) (e2 := F)]
      ·exact hqa
      ·intro x hx
       cases x with
       | c a => rfl
       | t n =>
        refine hlook n ?_
        simp only [AOper.looks, List.mem_append, List.mem_filterMap]
        exact .inl ⟨.t n, hx, rfl⟩
     refine Oper.wp_mono (fun a' w' hb => ?_) (aop_wp hop hst hd hqa' Q)
     obtain ⟨σ', h', av', rfl, l1, s1, rfl, rfl⟩ := hb
     refine hnext a' σ' l1 ⟨s1.inv, ?_, s1.size, s1.defers⟩
     intro t bv hg
     rw [get_filt] at hg
     split at hg
     ·rename_i hs
      by_cases hdt : o.dst = some t
      ·have := hfd t (by rw [hdst]; exact hdt)
       rw [this] at hg; cases hg
       exact s1.env t av' (by rw [get_putE, if_pos hdt])
      ·exact s1.env t bv (by rw [get_putE, if_neg hdt, get_filt, if_pos (hseen' t hs (by rw [hbind]; exact hdt))]; exact hg)
     ·cases hg
    unfold wpOp
    rw [hoi]
    simp only
    unfold Fact at hfact
    rcases hguard with ⟨hg1, hg2⟩ | ⟨j, b, t, hg1, hg2, hg3⟩
    ·have hw : Region.wanted o (yielded ops a.tmps) = true := by simp [Region.wanted, hg1]
     rw [if_pos hw]
     rw [hg2] at hfact
     exact .inl (does hfact)
    ·rw [hg2] at hfact
     have skip : (∀ d, ao.dst = some d -> get F d = some (.tuple [])) -> wpAny P md ops Q f (listed.setIfInBounds i true) (a.put o.dst undef) σ.w := by
      intro hno
      have s1 := hst.skipped o.dst hd
      refine hnext _ σ (Le.refl σ) ⟨s1.inv, ?_, s1.size, s1.defers⟩
      intro u bv hg
      rw [get_filt] at hg
      split at hg
      ·rename_i hs
       by_cases hdt : o.dst = some u
       ·have := hno u (by rw [hdst]; exact hdt)
        rw [this] at hg; cases hg
        exact s1.env u _ (by rw [get_dropE, if_pos hdt])
       ·exact s1.env u bv (by rw [get_dropE, if_neg hdt, get_filt, if_pos (hseen' u hs (by rw [hbind]; exact hdt))]; exact hg)
      ·cases hg
     rcases hfact with ⟨c, hgt, hyes, hno⟩ | ⟨hgt, hno⟩
     ·have hy : yielded ops a.tmps j = some c := yielded_of (env := filt (seen ops al.length listed) F) hg3 hh.env (by rw [hlook t (by simp [AOper.looks, hg2])]; exact hgt)
      by_cases hcb : c = b
      ·have hw : Region.wanted o (yielded ops a.tmps) = true := by simp [Region.wanted, hg1, hy, hcb]
       rw [if_pos hw]
       exact .inl (does (hyes hcb))
      ·have hw : Region.wanted o (yielded ops a.tmps) = false := by simp [Region.wanted, hg1, hy, hcb]
       rw [hw]
       simp only [Bool.false_eq_true, if_false]
       exact skip (hno hcb)
     ·have hy : yielded ops a.tmps j = none := yielded_none (env := filt (seen ops al.length listed) F) hg3 hh.env (by rw [hlook t (by simp [AOper.looks, hg2])]; exact hgt)
      have hw : Region.wanted o (yielded ops a.tmps) = false := by simp [Region.wanted, hg1, hy]
      rw [hw]
      simp only [Bool.false_eq_true, if_false]
      exact skip hno
def drawOK (ops : Array Oper) (al : List AOper) : Bool :=
 orderOK ops al.length al && okq al && decide (al.length <= ops.size) &&
 (List.range al.length).all fun i => (List.range i).all fun j => !(((ops[i]?).bind (·.dst)).isSome && (ops[i]?).bind (·.dst) == (ops[j]?).bind (·.dst))
theorem drawn_sound {id : Nat} {ops : Array Oper} {al tl : List AOper} (hq : compOps P N ops (ops.toList.take al.length) = some al) (ht : compOps P N ops (ops.toList.drop al.length) = some tl) (hok : drawOK ops al = true)
  {Q : Exit -> Env -> AHeap -> Prop} (hs : St σ h env N a) (hv : vq P al env h fun F => vops P tl F h fun env' h' => Q .normal env' h') : (Code.region id ops true).wp P (Lifted σ N Q) a σ.w := by
 simp only [drawOK, Bool.and_eq_true, decide_eq_true_eq] at hok
 obtain ⟨⟨⟨h1, h2⟩, h3⟩, h4⟩ := hok
 have ho := order_of h1
 obtain ⟨F, k1, k2, k3⟩ := vq_facts al env h2 hv
 have huniq : ∀ i j t, (ops[i]?).bind (·.dst) = some t -> (ops[j]?).bind (·.dst) = some t -> i < al.length -> j < al.length -> i = j := by
  have key : ∀ i j t, (ops[i]?).bind (·.dst) = some t -> (ops[j]?).bind (·.dst) = some t -> i < al.length -> j < i -> False := by
   intro i j t hi hj hil hji
   have := List.all_eq_true.1 (List.all_eq_true.1 h4 i (List.mem_range.2 hil)) j (List.mem_range.2 hji)
   simp [hi, hj] at this
  intro i j t hi hj hil hjl
  by_cases h' : i = j
  ·exact h'
  ·rcases Nat.lt_or_ge i j with hlt | hge
   ·exact (key j i t hj hi hjl hlt).elim
   ·exact (key i j t hi hj hil (by omega)).elim
 have hd : Past σ.w { σ.w with drawn := σ.w.drawn + 1 } := ⟨Nat.le_refl _, fun _ _ => rfl, rfl, rfl, rfl⟩
 let σ1 : Sg := { σ with w := { σ.w with drawn := σ.w.drawn + 1 } }
 have hle1 : Le σ σ1 := Le.world hd
 have hi1 : Inv h σ1 := hs.inv.world hd
 obtain ⟨hlen, hget⟩ := compOps_get hq
 have every : ∀ md : Region.Mode, wpAny P md ops (Lifted σ N Q) ops.size (Array.replicate ops.size false) a { σ.w with drawn := σ.w.drawn + 1 } := by
  intro md
  refine head_any (σ₀ := σ1) hq h3 ho k3 huniq ?_ ops.size _ a σ1 (by simp) (fun i _ hi => by simp [hi]) (Le.refl _) ?_ ?_
  ·intro σ2 a2 l2 s2
   have hlen2 : (ops.toList.drop al.length).length = ops.size - al.length := by simp
   rw [← hlen2]
   refine vops_sound (σ₀ := σ1) (K := fun env' h' => Q .normal env' h') (fun σ3 h3 env3 a3 l3 s3 q3 => ⟨trivial, σ3, h3, env3, rfl, hle1.trans l3, s3, q3⟩) _ _ tl σ2 h F a2 (fun j hj => ?_) ht l2 s2 k1
   rw [List.getElem?_drop, Array.getElem?_toList]
  ·refine ⟨hi1, ?_, hs.size, hs.defers⟩
   intro t av hg
   rw [get_filt] at hg
   split at hg
   ·rename_i hsn
    have hw : writes t al = false := by
     cases hwb : writes t al with
     | false => rfl
     | true =>
      exfalso
      unfold writes at hwb
      rw [List.any_eq_true] at hwb
      obtain ⟨o, hmem, hod⟩ := hwb
      obtain ⟨i, hi⟩ := List.mem_iff_getElem?.1 hmem
      have hil : i < al.length := (List.getElem?_eq_some_iff.1 hi).1
      have hops : ops[i]? = some ops[i] := Array.getElem?_eq_getElem (by omega)
      obtain ⟨ao, hao, hco⟩ := hget i ops[i] (by rw [List.getElem?_take, if_pos hil]; simpa using hops)
      rw [hi] at hao; cases hao
      have := (compOper_some hco).2.2.1
      have hf := hsn i hil (by rw [hops]; simp only [Option.bind_some]; rw [← this]; simpa using hod)
      simp [Array.getD_eq_getD_getElem?, Array.getElem?_replicate, show i < ops.size by omega] at hf
    rw [k2 t hw] at hg
    obtain ⟨x, q1, q2⟩ := hs.env t av hg
    exact ⟨x, q1, q2.mono hle1⟩
   ·cases hg
  ·simp
 refine wp_region_draw fun t => ?_
 unfold Region.schedule
 split
 ·exact wpAny_sound ops.size t _ a _ (every .any)
 ·exact wpAny_sound ops.size (t / 2) _ a _ (every _)
end
def ordOf (ops : Array Oper) (m : Nat) : List (List Nat) := (List.range m).map fun i => (List.range m).filter fun j => ahead ops i j
theorem ordOf_mem {ops : Array Oper} {m i k : Nat} (h : k ∈ (ordOf ops m).getD i []) : k < m /\ ahead ops i k = true := by
 unfold ordOf at h
 rw [List.getD_eq_getElem?_getD, List.getElem?_map] at h
 cases hr : (List.range m)[i]? with
 | none => rw [hr] at h; simp at h
 | some j =>
  have hi : i < m := by
   have := (List.getElem?_eq_some_iff.1 hr).1
   simpa using this
  rw [List.getElem?_range hi] at hr
  cases hr
  rw [List.getElem?_range hi] at h
  simp only [Option.map_some, Option.getD_some, List.mem_filter, List.mem_range] at h
  exact h
def hA (h : AHeap) (az : List (Nat × List AV)) (lst : Nat -> Bool) : AHeap := ⟨h.blks ++ az.map (fun p => if lst p.1 = true then some p.2 else none), h.bufs, h.globs⟩
def hCur (h : AHeap) (az : List (Nat × List AV)) (hs : List AHeap) (lst : Nat -> Bool) : Nat -> Option AHeap
 | 0 => some (hA h az lst)
 | j + 1 => hs[j + 1]?
def cloA : List (List Nat) -> List (List Nat) -> List (List Nat)
 | acc, [] => acc
 | acc, r :: rs => cloA (acc ++ [r ++ r.flatMap fun j => acc.getD j []]) rs
def clo (ord : List (List Nat)) : List (List Nat) := cloA [] ord
theorem cloA_get : ∀ (rs acc : List (List Nat)) (i : Nat), i < acc.length -> (cloA acc rs).getD i [] = acc.getD i []
 | [], _, _, _ => rfl
 | r :: rs, acc, i, h => by
  simp only [cloA]
  rw [cloA_get rs _ i (by simp; omega)]
  simp only [List.getD_eq_getElem?_getD, List.getElem?_append_left h]
theorem cloA_len : ∀ (rs acc : List (List Nat)), (cloA acc rs).length = acc.length + rs.length
 | [], _ => rfl
 | r :: rs, acc => by simp only [cloA]; rw [cloA_len rs]; simp; omega
theorem cloA_new : ∀ (rs acc : List (List Nat)) (i : Nat), i < rs.length -> ∀ k ∈ (cloA acc rs).getD (acc.length + i) [], k ∈ rs.getD i [] ∨ ∃ j, j ∈ rs.getD i [] /\ j < acc.length + i /\ k ∈ (cloA acc rs).getD j []
 | [], _, i, h => by simp at h
 | r :: rs, acc, 0, h => by
  intro k hk
  simp only [cloA] at hk ⊢
  have h0 := cloA_get rs (acc ++ [r ++ r.flatMap fun j => acc.getD j []]) (acc.length + 0) (by simp)
  rw [h0] at hk
  simp only [Nat.add_zero, List.getD_eq_getElem?_getD, List.getElem?_append_right (Nat.le_refl _), Nat.sub_self, List.getElem?_cons_zero, Option.getD_some, List.mem_append, List.mem_flatMap] at hk
  rcases hk with hk | ⟨j, hj, hk⟩
  ·exact .inl (by simpa using hk)
  ·have hlt : j < acc.length := by
    by_cases hlt : j < acc.length
    ·exact hlt
    ·rw [List.getElem?_eq_none (by omega)] at hk; simp at hk
   refine .inr ⟨j, by simpa using hj, by omega, ?_⟩
   rw [cloA_get rs _ j (by simp; omega)]
   simpa [List.getD_eq_getElem?_getD, List.getElem?_append_left hlt] using hk
 | r :: rs, acc, i + 1, h => by
  intro k hk
  simp only [cloA] at hk ⊢
  have := cloA_new rs (acc ++ [r ++ r.flatMap fun j => acc.getD j []]) i (by simpa using h) k (by simpa [Nat.add_assoc, Nat.add_comm 1 i] using hk)
  rcases this with h1 | ⟨j, h1, h2, h3⟩
  ·exact .inl (by simpa using h1)
  ·exact .inr ⟨j, by simpa using h1, by simp at h2; omega, h3⟩
theorem clo_mem {ord : List (List Nat)} {i k : Nat} (h : k ∈ (clo ord).getD i []) : k ∈ ord.getD i [] ∨ ∃ j, j ∈ ord.getD i [] /\ j < i /\ k ∈ (clo ord).getD j [] := by
 by_cases hi : i < ord.length
 ·have := cloA_new ord [] i hi k (by simpa [clo] using h)
  simpa [clo] using this
 ·have hl := cloA_len ord []
  rw [List.getD_eq_getElem?_getD, List.getElem?_eq_none (by unfold clo; simp at hl; omega)] at h
  simp at h
theorem clo_of : ∀ {ord : List (List Nat)} {i k : Nat}, k ∈ ord.getD i [] -> k ∈ (clo ord).getD i [] := by
 have key : ∀ (rs acc : List (List Nat)) (i : Nat), i < rs.length -> ∀ k ∈ rs.getD i [], k ∈ (cloA acc rs).getD (acc.length + i) [] := by
  intro rs
  induction rs with
  | nil => intro acc i h; simp at h
  | cons r rs ih =>
   intro acc i h k hk
   simp only [cloA]
   cases i with
   | zero =>
    rw [cloA_get rs _ _ (by simp)]
    simp only [Nat.add_zero, List.getD_eq_getElem?_getD, List.getElem?_append_right (Nat.le_refl _), Nat.sub_self, List.getElem?_cons_zero, Option.getD_some, List.mem_append]
    exact .inl (by simpa using hk)
   | succ i =>
    have := ih (acc ++ [r ++ r.flatMap fun j => acc.getD j []]) i (by simpa using h) k (by simpa using hk)
    simpa [Nat.add_assoc, Nat.add_comm 1 i] using this
 intro ord i k h
 by_cases hi : i < ord.length
 ·simpa [clo] using key ord [] i hi k h
 ·rw [List.getD_eq_getElem?_getD, List.getElem?_eq_none (by omega)] at h; simp at h
theorem clo_listed {ops : Array Oper} {m : Nat} {L : Nat -> Prop} (hc : ∀ k i, k < m -> L k -> i ∈ (ordOf ops m).getD k [] -> L i) : ∀ n k, k < n -> k < m -> L k -> ∀ i ∈ (clo (ordOf ops m)).getD k [], L i := by
 intro n
 induction n with
 | zero => intro k h; omega
 | succ n ih =>
  intro k hk hm hl i hi
  rcases clo_mem hi with h1 | ⟨j, h1, h2, h3⟩
  ·exact hc k i hm hl h1
  ·exact ih j (by omega) (ordOf_mem h1).1 (hc k j hm hl h1) i h3
def DoesN (P : Program) (F : Env) (h0 : AHeap) (az : List (Nat × List AV)) (hs : List AHeap) (ord : List (List Nat)) (fl : List (Option Nat)) (i : Nat) (o : AOper) : Option Nat -> Prop
 | some n => ∃ av h h', hs[n]? = some h /\ hs[n + 1]? = some h' /\ aop P o.op F h (fun a b => a = av /\ b = h') /\ ∀ d, o.dst = some d -> get F d = some av
 | none => ∃ av j0 j1, j0 < hs.length /\ (∀ j lst h, j0 <= j -> j <= j1 -> hCur h0 az hs lst j = some h -> aopQ P o.op F h av) /\ (∀ k n : Nat, fl[k]? = some (some n) -> n < j0 -> k ∈ ord.getD i []) /\ (hs.length <= j1 + 1 ∨ ∃ k : Nat, fl[k]? = some (some j1) /\ i ∈ ord.getD k []) /\
   ∀ d, o.dst = some d -> get F d = some av
def FactN (P : Program) (F : Env) (h0 : AHeap) (az : List (Nat × List AV)) (hs : List AHeap) (ord : List (List Nat)) (fl : List (Option Nat)) (i : Nat) (o : AOper) (n : Option Nat) : Prop :=
 let skip := n = none /\ ∀ d, o.dst = some d -> get F d = some (.tuple [])
 match o.guard with
 | none => DoesN P F h0 az hs ord fl i o n
 | some (t, want) => (∃ b, get F t = some (.v (.bool b)) /\ (b = want -> DoesN P F h0 az hs ord fl i o n) /\ (b ≠ want -> skip)) ∨ (get F t = some (.tuple []) /\ skip)
structure Noise (P : Program) (ord : List (List Nat)) (al : List AOper) (env F : Env) (h h' : AHeap) (az : List (Nat × List AV)) (hs : List AHeap) (fl : List (Option Nat)) : Prop where
 len : fl.length = al.length
 chain : ∀ i k a b : Nat, i < k -> fl[i]? = some (some a) -> fl[k]? = some (some b) -> a < b /\ i ∈ ord.getD k []
 onto : ∀ j : Nat, j + 1 < hs.length -> ∃ i : Nat, fl[i]? = some (some j)
 first : hs[0]? = some (hA h az fun _ => true)
 last : ∃ n, hs.length = n + 1 /\ hs[n]? = some h'
 bound : ∀ i n : Nat, fl[i]? = some (some n) -> n + 1 < hs.length
 keep : ∀ t, writes t al = false -> get F t = get env t
 new : ∀ (q : Nat) (p : Nat × List AV), az[q]? = some p -> ∃ o, al[p.1]? = some o /\ o.op = .alloc p.2 /\ o.guard = none /\ fl[p.1]? = some none /\ ∀ d, o.dst = some d -> get F d = some (.ptr (h.blks.length + q) 0)
 inj : ∀ (q r : Nat) (p s : Nat × List AV), az[q]? = some p -> az[r]? = some s -> p.1 = s.1 -> q = r
 afirst : ∀ (k n : Nat), fl[k]? = some (some n) -> ∀ p ∈ az, p.1 ∈ ord.getD k []
 fact : ∀ (i : Nat) (o : AOper) (n : Option Nat), al[i]? = some o -> fl[i]? = some n -> (∃ (q : Nat) (p : Nat × List AV), az[q]? = some p /\ p.1 = i) ∨ FactN P F h az hs ord fl i o n
theorem DoesN.clo {P : Program} {F : Env} {h0 : AHeap} {az : List (Nat × List AV)} {hs : List AHeap} {ord : List (List Nat)} {fl : List (Option Nat)} {i : Nat} {o : AOper} {n : Option Nat} (hd : DoesN P F h0 az hs ord fl i o n) : DoesN P F h0 az hs (clo ord) fl i o n := by
 cases n with
 | some n => exact hd
 | none =>
  obtain ⟨av, j0, j1, h1, h2, h3, h4, h5⟩ := hd
  refine ⟨av, j0, j1, h1, h2, fun k n hk hn => clo_of (h3 k n hk hn), ?_, h5⟩
  rcases h4 with h4 | ⟨k, h4, h6⟩
  ·exact .inl h4
  ·exact .inr ⟨k, h4, clo_of h6⟩
theorem Noise.clo {P : Program} {ord : List (List Nat)} {al : List AOper} {env F : Env} {h h' : AHeap} {az : List (Nat × List AV)} {hs : List AHeap} {fl : List (Option Nat)} (hn : Noise P ord al env F h h' az hs fl) : Noise P (clo ord) al env F h h' az hs fl where
 len := hn.len
 chain i k a b hik h1 h2 := ⟨(hn.chain i k a b hik h1 h2).1, clo_of (hn.chain i k a b hik h1 h2).2⟩
 onto := hn.onto
 first := hn.first
 last := hn.last
 bound := hn.bound
 keep := hn.keep
 new := hn.new
 inj := hn.inj
 afirst k n hk p hp := clo_of (hn.afirst k n hk p hp)
 fact i o n hi hn' := by
  rcases hn.fact i o n hi hn' with h1 | h1
  ·exact .inl h1
  ·refine .inr ?_
   unfold FactN at h1 ⊢
   split at h1
   ·exact h1.clo
   ·rcases h1 with ⟨b, q1, q2, q3⟩ | h1
    ·exact .inl ⟨b, q1, fun hb => (q2 hb).clo, q3⟩
    ·exact .inr h1
section
variable {P : Program} {σ : Sg} {h : AHeap} {env : Env} {N : Nat} {a : Act}
theorem reserve_ok (hi : Inv h σ) (n : Nat) : Inv ⟨h.blks ++ List.replicate n none, h.bufs, h.globs⟩ σ := by
 have hget : ∀ (k : Nat) (c : List AV), (h.blks ++ List.replicate n none)[k]? = some (some c) -> h.blks[k]? = some (some c) := by
  intro k c hk
  by_cases hl : k < h.blks.length
  ·rwa [List.getElem?_append_left hl] at hk
  ·rw [List.getElem?_append_right (by omega), List.getElem?_replicate] at hk
   split at hk <;> cases hk
 exact {
  blk := fun k c hk => hi.blk k c (hget k c hk)
  dom := fun k c hk => by
   obtain ⟨x, hx⟩ := hi.dom k c hk
   exact ⟨x, by rw [List.getElem?_append_left (hi.name hk)]; exact hx⟩
  inj := fun k m c x y hx hy => hi.inj k m c x y (hget k x hx) (hget m y hy)
  buf := hi.buf
  bufdom := hi.bufdom
  bufle := hi.bufle
  bufat := hi.bufat
  bufinj := hi.bufinj
  bufblk := hi.bufblk
  outer := hi.outer
  glob := hi.glob }
theorem alloc_at (hi : Inv h σ) {n : Nat} (hn : h.blks[n]? = some none) {cells : List AV} (obj : Obj) (hnew : ∀ σ', Le σ σ' -> σ'.w.heap[σ.w.heap.size]? = some obj -> BlkAt σ' σ.w.heap.size cells) :
  ∃ σ', σ'.w = σ.w.alloc obj /\ Le σ σ' /\ Inv ⟨h.blks.set n (some cells), h.bufs, h.globs⟩ σ' /\ Rel σ' (.ptr n 0) (.pointer (some ⟨σ.w.heap.size, 0, none⟩)) := by
 have hl : n < h.blks.length := (List.getElem?_eq_some_iff.1 hn).1
 have hf : σ.blk n = none := by
  cases hb : σ.blk n with
  | none => rfl
  | some b => obtain ⟨c, hc⟩ := hi.dom n b hb; rw [hn] at hc; cases hc
 let σ' : Sg := { σ with w := σ.w.alloc obj, blk := fun m => if m = n then some σ.w.heap.size else σ.blk m }
 have hp := Past.alloc σ.w obj
 have hslt : ∀ id e b o, σ.buf id = some e -> e.spare b o -> b < σ.w.heap.size := by
  intro id e b o he hs
  obtain ⟨v, hv⟩ := Option.isSome_iff_exists.1 (hi.bufat id e b o he hs).1
  exact cell_lt hv
 have hne : ∀ m b, σ.blk m = some b -> m ≠ n := by rintro m b hm rfl; rw [hf] at hm; cases hm
 have hold : ∀ m b, σ.blk m = some b -> σ'.blk m = some b := by
  intro m b hm
  show (if m = n then some σ.w.heap.size else σ.blk m) = some b
  rw [if_neg (hne m b hm)]; exact hm
 have hinv : ∀ m b, σ'.blk m = some b -> (m = n /\ b = σ.w.heap.size) ∨ (m ≠ n /\ σ.blk m = some b) := by
  intro m b hm
  simp only [σ'] at hm
  split at hm
  ·cases hm; exact .inl ⟨‹_›, rfl⟩
  ·exact .inr ⟨‹_›, hm⟩
 have hle : Le σ σ' := {
  blk := hold
  buf := fun _ e h => ⟨e, h, Nat.le_refl _, rfl, fun _ => rfl⟩
  outer := rfl
  cell := fun b o hb _ => cell_world (hp.old b hb) o
  ext := (Le.world (σ := σ) hp).ext
  whole := fun b hb _ => hp.old b hb
  own := fun b o hb ho => by
   rcases ho with ⟨m, hm⟩ | hx
   ·rcases hinv m b hm with ⟨_, rfl⟩ | ⟨_, hm⟩
    ·omega
    ·exact .inl ⟨m, hm⟩
   ·exact .inr hx
  size := hp.size
  os := hp.os
  tape := hp.tape
  output := hp.output }
 have hget : ∀ (m : Nat) (c : List AV), (h.blks.set n (some cells))[m]? = some (some c) -> (m = n /\ c = cells) ∨ (m ≠ n /\ h.blks[m]? = some (some c)) := by
  intro m c hm
  by_cases hmn : m = n
  ·subst hmn; rw [List.getElem?_set_self hl] at hm; cases hm; exact .inl ⟨rfl, rfl⟩
  ·rw [List.getElem?_set_ne (Ne.symm hmn)] at hm; exact .inr ⟨hmn, hm⟩
 refine ⟨σ', rfl, hle, ?_, .ptr _ _ _ (if_pos rfl)⟩
 exact {
  blk := fun m c hm => by
   rcases hget m c hm with ⟨rfl, rfl⟩ | ⟨hmn, hm⟩
   ·exact ⟨σ.w.heap.size, if_pos rfl, hnew σ' hle (heap_alloc_new _ _)⟩
   ·obtain ⟨b, h1, h2⟩ := hi.blk m c hm
    exact ⟨b, hold m b h1, h2.keep hle (hp.old b h2.lt)⟩
  dom := fun m b hm => by
   rcases hinv m b hm with ⟨rfl, rfl⟩ | ⟨hmn, hm⟩
   ·exact ⟨cells, List.getElem?_set_self hl⟩
   ·obtain ⟨c, hc⟩ := hi.dom m b hm
    exact ⟨c, by rw [List.getElem?_set_ne (Ne.symm hmn)]; exact hc⟩
  inj := fun m k b x y hx hy hx0 hy0 hm hk => by
   rcases hinv m b hm with ⟨m0, m2⟩ | ⟨m1, hm2⟩ <;> rcases hinv k b hk with ⟨k0, k2⟩ | ⟨k1, hk2⟩
   ·omega
   ·have := hi.lt hk2; omega
   ·have := hi.lt hm2; omega
   ·rcases hget m x hx with ⟨h, _⟩ | ⟨_, hx⟩
    ·exact absurd h m1
    ·rcases hget k y hy with ⟨h, _⟩ | ⟨_, hy⟩
     ·exact absurd h k1
     ·exact hi.inj m k b x y hx hy hx0 hy0 hm2 hk2
  buf := hi.buf
  bufdom := hi.bufdom
  bufle := hi.bufle
  bufat := (hi.world hp).bufat
  bufinj := hi.bufinj
  bufblk := fun id e m b o he hs hm => by
   rcases hinv m b hm with ⟨_, rfl⟩ | ⟨_, hm⟩
   ·have := hslt id e _ o he hs; omega
   ·exact hi.bufblk id e m b o he hs hm
  outer := fun b o ho => by
   obtain ⟨h1, h2⟩ := hi.outer b o ho
   exact ⟨Nat.lt_of_lt_of_le h1 hp.size, fun hx => h2 (hle.own b o h1 hx)⟩
  glob := fun g cells hg => (hi.glob g cells hg).mono hle }
theorem compOp_alloc {o : Oper} {cells : List AV} (hc : compOp P o = some (.alloc cells)) : ∃ e, o.op = .alloc e := by
 unfold compOp at hc
 split at hc
 case h_4 e he => exact ⟨e, he⟩
 all_goals
  exfalso
  (try simp only [compCall] at hc)
  (repeat' (first | (cases hc; done) | (simp only [Option.bind_eq_some_iff, Option.map_eq_some_iff] at hc; done) | (obtain ⟨_, _, hc⟩ := hc) | (split at hc) | (simp only [Option.bind_eq_some_iff, Option.map_eq_some_iff] at hc)))
theorem alloc_wp {o : Oper} {cells : List AV} (hc : compOp P o = some (.alloc cells)) (hs : St σ h env N a) (hd : ∀ d, o.dst = some d -> d < N) {n : Nat} (hn : h.blks[n]? = some none) (Q : Exit -> Act -> World -> Prop) :
  o.wp P a σ.w (fun a' w' => ∃ σ', σ'.w = w' /\ Le σ σ' /\ St σ' ⟨h.blks.set n (some cells), h.bufs, h.globs⟩ (putE env o.dst (.ptr n 0)) N a') Q := by
 obtain ⟨e, he⟩ := compOp_alloc hc
 obtain ⟨dst, op, type, pos, after, guard⟩ := o
 simp only at he
 subst he
 simp only [compOp, Option.bind_eq_some_iff, Option.map_eq_some_iff, AOp.alloc.injEq] at hc
 obtain ⟨z, hz, zs, hzs, rfl⟩ := hc
 obtain ⟨σ', g1, g2, g3, g4⟩ := alloc_at hs.inv hn (cells := zs) (.cells z.cells e) fun σ' hle hb => .cells _ z.cells.toList [] e (by simpa using hb) ((ofVs_cells (σ := σ) hzs).mono hle)
 unfold Oper.wp
 have hrun : (execOp a.eval ⟨dst, .alloc e, type, pos, after, guard⟩).run P σ.w = .ok (.value (.pointer (some ⟨σ.w.heap.size, 0, none⟩))) σ'.w := by
  rw [g1]
  simp [execOp, Instr.alloc, zeroOf_run hz, newVar, newRow]
 rw [hrun]
 exact ⟨σ', rfl, g2, hs.put g2 g3 hd g4⟩
structure HalfN (ops : Array Oper) (m : Nat) (F : Env) (h0 : AHeap) (az : List (Nat × List AV)) (hs : List AHeap) (fl : List (Option Nat)) (j : Nat) (N : Nat) (listed : Array Bool) (σ : Sg) (a : Act) : Prop where
 inv : ∃ h, hCur h0 az hs (fun k => listed.getD k true) j = some h /\ Inv h σ
 env : EnvRel σ (filt (seen ops m listed) F) a.tmps
 size : a.tmps.size = N
 defers : a.defers = []
 nums : ∀ i n : Nat, fl[i]? = some (some n) -> (listed.getD i true = true ↔ n < j)
 closed : ∀ k i : Nat, k < m -> listed.getD k true = true -> i ∈ (ordOf ops m).getD k [] -> listed.getD i true = true
set_option maxHeartbeats 1000000 in
theorem head_anyN {md : Region.Mode} {ops : Array Oper} {al : List AOper} {env F : Env} {h h' : AHeap} {az : List (Nat × List AV)} {hs : List AHeap} {fl : List (Option Nat)} (hq : compOps P N ops (ops.toList.take al.length) = some al) (hm : al.length <= ops.size) (ho : Order ops al.length al)
  (hF : Noise P (clo (ordOf ops al.length)) al env F h h' az hs fl)
  {Q : Exit -> Act -> World -> Prop} {σ₀ : Sg} (hend : ∀ σ a, Le σ₀ σ -> St σ h' F N a -> wpOps P ops Q (List.range' al.length (ops.size - al.length)) a σ.w) :
  ∀ (f : Nat) (listed : Array Bool) (a : Act) (σ : Sg) (j : Nat), listed.size = ops.size -> (∀ i, al.length <= i -> i < ops.size -> listed.getD i true = false) -> Le σ₀ σ -> HalfN ops al.length F h az hs fl j N listed σ a -> listed.toList.count false <= f -> wpAny P md ops Q f listed a σ.w := by
 obtain ⟨hlen, hget⟩ := compOps_get hq
 obtain ⟨nl, hnl, hnl2⟩ := hF.last
 have hfin : ∀ (listed : Array Bool) (a : Act) (σ : Sg) (j : Nat), HalfN ops al.length F h az hs fl j N listed σ a -> (∀ i, i < al.length -> listed.getD i true = true) -> St σ h' F N a := by
  intro listed a σ j hh hall
  obtain ⟨hj, h1, h2⟩ := hh.inv
  have hjl : j < hs.length := by
   cases j with
   | zero => omega
   | succ j => exact (List.getElem?_eq_some_iff.1 h1).1
  have hjn : j = nl := by
   by_cases hlt : j + 1 < hs.length
   ·obtain ⟨i, hi⟩ := hF.onto j hlt
    have hil : i < al.length := by rw [← hF.len]; exact (List.getElem?_eq_some_iff.1 hi).1
    have := (hh.nums i j hi).1 (hall i hil)
    omega
   ·omega
  subst hjn
  have h1' : hs[j]? = some hj := by
   cases j with
   | succ j => exact h1
   | zero =>
    rw [hF.first, ← h1]
    show some _ = some _
    congr 1
    unfold hA
    congr 2
    apply List.map_congr_left
    intro p hp
    obtain ⟨q, hq⟩ := List.mem_iff_getElem?.1 hp
    obtain ⟨o, ho1, _⟩ := hF.new q p hq
    have hil : p.1 < al.length := (List.getElem?_eq_some_iff.1 ho1).1
    simp only [hall p.1 hil]
  rw [hnl2] at h1'; cases h1'
  exact ⟨h2, fun t av hg => hh.env t av (by rw [get_filt, if_pos (show seen ops al.length listed t from fun k hk _ => hall k hk)]; exact hg), hh.size, hh.defers⟩
 intro f
 induction f with
 | zero =>
  intro listed a σ j hsz htail hle hh hc
  have hall : ∀ i, i < ops.size -> listed.getD i true = true := by
   intro i hi
   cases hb : listed.getD i true with
   | true => rfl
   | false =>
    exfalso
    have hmem : false ∈ listed.toList := by
     rw [List.mem_iff_getElem?]
     refine ⟨i, ?_⟩
     have : listed[i]? = some listed[i] := Array.getElem?_eq_getElem (by omega)
     simp only [Array.getD_eq_getD_getElem?, this, Option.getD_some] at hb
     simp only [Array.getElem?_toList, this, hb]
    have := List.count_pos_iff.2 hmem
    omega
  have hmn : al.length = ops.size := by
   by_cases he : al.length = ops.size
   ·exact he
   ·have := htail al.length (Nat.le_refl _) (by omega)
    rw [hall _ (by omega)] at this; cases this
  have := hend σ a hle (hfin listed a σ j hh fun i hi => hall i (by omega))
  refine tail_any ho 0 al.length listed a σ.w (Nat.le_refl _) hm (by omega) hsz (fun i hi => by rw [hall i hi]; simp; omega) this
 | succ f ih =>
  intro listed a σ j hsz htail hle hh hc
  by_cases hall : ∀ i, i < al.length -> listed.getD i true = true
  ·refine tail_any ho (f + 1) al.length listed a σ.w (Nat.le_refl _) hm ?_ hsz (fun i hi => ?_) (hend σ a hle (hfin listed a σ j hh hall))
   ·have hcnt : ops.size - al.length <= listed.toList.count false := by
     have hsplit : listed.toList = listed.toList.take al.length ++ listed.toList.drop al.length := (List.take_append_drop _ _).symm
     rw [hsplit, List.count_append]
     have hd : listed.toList.drop al.length = List.replicate (ops.size - al.length) false := by
      apply List.eq_replicate_iff.2
      refine ⟨by simp [hsz], fun b hb => ?_⟩
      obtain ⟨i, hi⟩ := List.mem_iff_getElem?.1 hb
      rw [List.getElem?_drop] at hi
      have hlt := (List.getElem?_eq_some_iff.1 hi).1
      have := htail (al.length + i) (by omega) (by simpa [hsz] using hlt)
      simp only [Array.getElem?_toList] at hi
      simp only [Array.getD_eq_getD_getElem?, hi, Option.getD_some] at this
      exact this
     rw [hd, List.count_replicate]
     simp
    omega
   ·by_cases him : i < al.length
    ·rw [hall i him]; simp [him]
    ·rw [htail i (by omega) hi]; simp [him]
  ·obtain ⟨i0, hi0, hn0⟩ : ∃ i, i < al.length /\ listed.getD i true = false := by
    false_or_by_contra
    rename_i hcon
    exact hall fun i hi => by
     cases hb : listed.getD i true with
     | true => rfl
     | false => exact absurd ⟨i, hi, hb⟩ hcon
   refine ⟨fun hnil => ?_, fun i hi => ?_⟩
   ·obtain ⟨i, hi⟩ := least_ready (md := md) ho hsz ⟨i0, by omega, hn0⟩
    rw [hnil] at hi; cases hi
   ·obtain ⟨hun, o, hoi, hdeps⟩ := mem_ready'.1 hi
    have hin := (Array.getElem?_eq_some_iff.1 hoi).1
    have him : i < al.length := by
     by_cases h' : i < al.length
     ·exact h'
     ·exact absurd hi (ahead_not (ho.tail i hin (by omega) i0 (by omega)) hn0)
    obtain ⟨ao, hao, hco⟩ := hget i o (by rw [List.getElem?_take, if_pos him]; simpa using hoi)
    obtain ⟨hop, hd, hdst, hguard⟩ := compOper_some hco
    obtain ⟨fn, hfn⟩ : ∃ fn, fl[i]? = some fn := ⟨_, List.getElem?_eq_getElem (by rw [hF.len]; exact him)⟩
    have hfact := hF.fact i ao fn hao hfn
    obtain ⟨hj, hjs, hinv⟩ := hh.inv
    have hjl : j < hs.length := by
     cases j with
     | zero => omega
     | succ j => exact (List.getElem?_eq_some_iff.1 hjs).1
    -- behind the first that changes the heap all new boxes are there
    have hnew : 0 < j -> ∀ p ∈ az, listed.getD p.1 true = true := by
     intro hj0 p hp
     obtain ⟨k, hk⟩ := hF.onto 0 (by omega)
     have hkm : k < al.length := by rw [← hF.len]; exact (List.getElem?_eq_some_iff.1 hk).1
     exact clo_listed (L := fun k => listed.getD k true = true) hh.closed (k + 1) k (by omega) hkm ((hh.nums k 0 hk).2 hj0) _ (hF.afirst k 0 hk p hp)
    have hcur : ∀ i, (∀ p ∈ az, p.1 ≠ i) -> hCur h az hs (fun k => (listed.setIfInBounds i true).getD k true) j = hCur h az hs (fun k => listed.getD k true) j := by
     intro i hi
     cases j with
     | succ j => rfl
     | zero =>
      show some _ = some _
      congr 1
      unfold hA
      congr 2
      apply List.map_congr_left
      intro p hp
      by_cases hil : i < listed.size
      ·have := getD_set (listed := listed) (i := i) (j := p.1) (d := true) hil
       rw [if_neg (fun e => hi p hp e.symm)] at this
       simp only [this]
      ·have : listed.setIfInBounds i true = listed := by simp [Array.setIfInBounds, hil]
       simp only [this]
    -- what must stand ahead of it has been listed
    have hahead0 : ∀ k, k ∈ (ordOf ops al.length).getD i [] -> listed.getD k true = true := by
     intro k hk
     have ha := (ordOf_mem hk).2
     cases hb : listed.getD k true with
     | true => rfl
     | false => exact absurd hi (ahead_not ha hb)
    have hahead : ∀ k, k ∈ (clo (ordOf ops al.length)).getD i [] -> listed.getD k true = true := by
     intro k hk
     rcases clo_mem hk with h1 | ⟨j, h1, h2, h3⟩
     ·exact hahead0 k h1
     ·exact clo_listed (L := fun k => listed.getD k true = true) hh.closed (j + 1) j (by omega) (ordOf_mem h1).1 (hahead0 j h1) _ h3
    have hsee : ∀ t ∈ ao.looks, seen ops al.length listed t := by
     intro t ht k hk hkd
     have ha := ho.head i ao him hao t ht k hk hkd
     unfold ahead at ha
     rw [hoi] at ha
     simp only [Array.any_eq_true'] at ha
     obtain ⟨e, he, hb⟩ := ha
     simp only [Bool.and_eq_true, beq_iff_eq] at hb
     have := hdeps e he (binds_any hb.1)
     rw [hb.2, getD_any (by omega) false true] at this
     exact this
    have hlook : ∀ t ∈ ao.looks, get (filt (seen ops al.length listed) F) t = get F t := fun t ht => by rw [get_filt, if_pos (hsee t ht)]
    have hst : St σ hj (filt (seen ops al.length listed) F) N a := ⟨hinv, hh.env, hh.size, hh.defers⟩
    have hcount : (listed.setIfInBounds i true).toList.count false <= f := by
     have hget' : listed.toList[i]'(by simp; omega) = false := by
      have : listed[i]? = some listed[i] := Array.getElem?_eq_getElem (by omega)
      simp only [Array.getD_eq_getD_getElem?, this, Option.getD_some] at hun
      simpa using hun
     have := List.count_set (a := true) (b := false) (l := listed.toList) (i := i) (by simp; omega)
     simp only [Array.toList_setIfInBounds]
     rw [this, hget']
     have hp : 0 < listed.toList.count false := List.count_pos_iff.2 (by rw [List.mem_iff_getElem]; exact ⟨i, by simp; omega, hget'⟩)
     show listed.toList.count false - 1 + 0 <= f
     omega
    have hnext : ∀ (a' : Act) (σ' : Sg) (j' : Nat), Le σ σ' -> HalfN ops al.length F h az hs fl j' N (listed.setIfInBounds i true) σ' a' -> wpAny P md ops Q f (listed.setIfInBounds i true) a' σ'.w := by
     intro a' σ' j' hl' hh'
     refine ih _ a' σ' j' (by simp [hsz]) (fun k hk1 hk2 => ?_) (hle.trans hl') hh' hcount
     rw [getD_set (by omega), if_neg (by omega)]
     exact htail k hk1 hk2
    have hseen' : ∀ t, seen ops al.length (listed.setIfInBounds i true) t -> (ops[i]?).bind (·.dst) ≠ some t -> seen ops al.length listed t := by
     intro t ht hne k hk hkd
     have := ht k hk hkd
     rw [getD_set (by omega)] at this
     by_cases hik : i = k
     ·subst hik; exact absurd hkd hne
     ·rwa [if_neg hik] at this
    have hbind : (ops[i]?).bind (·.dst) = o.dst := by rw [hoi]; rfl
    have hclosed : ∀ k l : Nat, k < al.length -> (listed.setIfInBounds i true).getD k true = true -> l ∈ (ordOf ops al.length).getD k [] -> (listed.setIfInBounds i true).getD l true = true := by
     intro k l hk hkl hl
     rw [getD_set (by omega)]
     by_cases hil : i = l
     ·rw [if_pos hil]
     ·rw [if_neg hil]
      by_cases hik : i = k
      ·subst hik; exact hahead0 l hl
      ·rw [getD_set (by omega), if_neg hik] at hkl
       exact hh.closed k l hk hkl hl
    have quietNums : fl[i]? = some none -> ∀ k n : Nat, fl[k]? = some (some n) -> ((listed.setIfInBounds i true).getD k true = true ↔ n < j) := by
     intro hnone k n hk
     have hik : i ≠ k := by rintro rfl; rw [hnone] at hk; cases hk
     rw [getD_set (by omega), if_neg hik]
     exact hh.nums k n hk
    have cong : ∀ K : AV -> AHeap -> Prop, aop P ao.op F hj K -> aop P ao.op (filt (seen ops al.length listed) F) hj K := by
     intro K hk
     rw [aop_congr (e1 := filt (seen ops al.length listed) F) (e2 := F)]
     ·exact hk
     ·intro x hx
      cases x with
      | c a => rfl
      | t n =>
       refine hlook n ?_
       simp only [AOper.looks, List.mem_append, List.mem_filterMap]
       exact .inl ⟨.t n, hx, rfl⟩
    have envOK : ∀ (σ' : Sg) (a' : Act) (av : AV), EnvRel σ' (putE (filt (seen ops al.length listed) F) o.dst av) a'.tmps -> (∀ d, ao.dst = some d -> get F d = some av) -> EnvRel σ' (filt (seen ops al.length (listed.setIfInBounds i true)) F) a'.tmps := by
     intro σ' a' av he hfd t bv hg
     rw [get_filt] at hg
     split at hg
     ·rename_i hs
      by_cases hdt : o.dst = some t
      ·have := hfd t (by rw [hdst]; exact hdt)
       rw [this] at hg; cases hg
       exact he t av (by rw [get_putE, if_pos hdt])
      ·exact he t bv (by rw [get_putE, if_neg hdt, get_filt, if_pos (hseen' t hs (by rw [hbind]; exact hdt))]; exact hg)
     ·cases hg
    by_cases hisA : ∃ (q : Nat) (p : Nat × List AV), az[q]? = some p /\ p.1 = i
    ·obtain ⟨q, p, hqp, hpi⟩ := hisA
     obtain ⟨o', ho1, ho2, ho3, ho4, ho5⟩ := hF.new q p hqp
     subst hpi
     rw [hao] at ho1; cases ho1
     have hj0 : j = 0 := by
      by_cases hz : j = 0
      ·exact hz
      ·have := hnew (by omega) p (List.mem_of_getElem? hqp)
       rw [hun] at this; cases this
     subst hj0
     have hjs' : hj = hA h az fun k => listed.getD k true := (Option.some.inj hjs).symm
     have hslot : hj.blks[h.blks.length + q]? = some none := by
      rw [hjs']
      simp only [hA]
      rw [List.getElem?_append_right (by omega), Nat.add_sub_cancel_left, List.getElem?_map, hqp]
      simp only [Option.map_some, hun, Bool.false_eq_true, if_false]
     have heq : (⟨hj.blks.set (h.blks.length + q) (some p.2), hj.bufs, hj.globs⟩ : AHeap) = hA h az fun k => (listed.setIfInBounds p.1 true).getD k true := by
      rw [hjs']
      simp only [hA]
      congr 1
      rw [List.set_append_right _ _ (by omega), Nat.add_sub_cancel_left]
      congr 1
      apply List.ext_getElem?
      intro r
      by_cases hrq : q = r
      ·subst hrq
       have hl : q < az.length := (List.getElem?_eq_some_iff.1 hqp).1
       rw [List.getElem?_set_self (by simpa using hl), List.getElem?_map, hqp]
       simp only [Option.map_some]
       have := getD_set (listed := listed) (i := p.1) (j := p.1) (d := true) (by omega)
       rw [if_pos rfl] at this
       simp only [this, if_true]
      ·rw [List.getElem?_set_ne hrq, List.getElem?_map, List.getElem?_map]
       cases hr : az[r]? with
       | none => rfl
       | some s =>
        have := getD_set (listed := listed) (i := p.1) (j := s.1) (d := true) (by omega)
        rw [if_neg (fun e => hrq (hF.inj q r p s hqp hr e))] at this
        simp only [Option.map_some, this]
     unfold wpOp
     rw [hoi]
     simp only
     have hw : Region.wanted o (yielded ops a.tmps) = true := by
      rcases hguard with ⟨hg1, _⟩ | ⟨_, _, _, _, hg2, _⟩
      ·simp [Region.wanted, hg1]
      ·rw [ho3] at hg2; cases hg2
     rw [if_pos hw]
     refine .inl (Oper.wp_mono (fun a' w' hb => ?_) (alloc_wp (ho2 ▸ hop) hst hd hslot Q))
     obtain ⟨σ', rfl, l1, s1⟩ := hb
     exact hnext a' σ' 0 l1 ⟨⟨_, rfl, by rw [← heq]; exact s1.inv⟩, envOK σ' a' _ s1.env ho5, s1.size, s1.defers, quietNums ho4, hclosed⟩
    have hni : ∀ p ∈ az, p.1 ≠ i := by
     intro p hp hpi
     obtain ⟨q, hq⟩ := List.mem_iff_getElem?.1 hp
     exact hisA ⟨q, p, hq, hpi⟩
    have hfact := hfact.resolve_left hisA
    have does : DoesN P F h az hs (clo (ordOf ops al.length)) fl i ao fn -> Oper.wp P o a σ.w (wpAny P md ops Q f (listed.setIfInBounds i true)) Q := by
     intro hdo
     cases fn with
     | none =>
      obtain ⟨av, j0, j1, hj0, hqa, hlo, hhi, hfd⟩ := hdo
      have h0 : j0 <= j := by
       by_cases hlt : j0 <= j
       ·exact hlt
       ·exfalso
        have hb : j + 1 < hs.length := by omega
        obtain ⟨k, hk⟩ := hF.onto j hb
        have := hahead k (hlo k j hk (by omega))
        have := (hh.nums k j hk).1 this
        omega
      have h1 : j <= j1 := by
       rcases hhi with hhi | ⟨k, hk, hik⟩
       ·omega
       ·by_cases hlt : j <= j1
        ·exact hlt
        ·exfalso
         have hkl := (hh.nums k j1 hk).2 (by omega)
         have hkm : k < al.length := by rw [← hF.len]; exact (List.getElem?_eq_some_iff.1 hk).1
         have := clo_listed (L := fun k => listed.getD k true = true) hh.closed (k + 1) k (by omega) hkm hkl _ hik
         rw [hun] at this; cases this
      have hqa' := cong _ (hqa j _ hj h0 h1 hjs)
      refine Oper.wp_mono (fun a' w' hb => ?_) (aop_wp hop hst hd hqa' Q)
      obtain ⟨σ', h', av', rfl, l1, s1, rfl, rfl⟩ := hb
      exact hnext a' σ' j l1 ⟨⟨_, by rw [hcur i hni]; exact hjs, s1.inv⟩, envOK σ' a' av' s1.env hfd, s1.size, s1.defers, quietNums hfn, hclosed⟩
     | some n =>
      obtain ⟨av, h1, h2, e1, e2, hqa, hfd⟩ := hdo
      have hnj : ¬ n < j := fun hlt => by
       have := (hh.nums i n hfn).2 hlt
       rw [hun] at this; cases this
      have hnj2 : n = j := by
       by_cases he : n = j
       ·exact he
       ·exfalso
        have hb : j + 1 < hs.length := by have := (List.getElem?_eq_some_iff.1 e2).1; omega
        obtain ⟨k, hk⟩ := hF.onto j hb
        have hki : k ≠ i := by rintro rfl; rw [hfn] at hk; cases hk; exact he rfl
        rcases Nat.lt_or_ge k i with hlt | hge
        ·have := hahead k (hF.chain k i j n hlt hk hfn).2
         have := (hh.nums k j hk).1 this
         omega
        ·have := (hF.chain i k n j (by omega) hfn hk).1
         omega
      subst hnj2
      have hjs' : hs[n]? = some hj := by
       cases n with
       | succ n => exact hjs
       | zero =>
        rw [hF.first, ← hjs]
        show some _ = some _
        congr 1
        unfold hA
        congr 2
        apply List.map_congr_left
        intro p hp
        simp only [hahead p.1 (hF.afirst i 0 hfn p hp)]
      rw [hjs'] at e1; cases e1
      have hqa' := cong _ hqa
      refine Oper.wp_mono (fun a' w' hb => ?_) (aop_wp hop hst hd hqa' Q)
      obtain ⟨σ', h', av', rfl, l1, s1, rfl, rfl⟩ := hb
      refine hnext a' σ' (n + 1) l1 ⟨⟨_, e2, s1.inv⟩, envOK σ' a' av' s1.env hfd, s1.size, s1.defers, ?_, hclosed⟩
      intro k n' hk
      rw [getD_set (by omega)]
      by_cases hik : i = k
      ·subst hik
       rw [hfn] at hk; cases hk
       rw [if_pos rfl]; simp
      ·rw [if_neg hik, hh.nums k n' hk]
       have hne : n' ≠ n := by
        rintro rfl
        rcases Nat.lt_or_ge i k with hlt | hge
        ·have := (hF.chain i k n' n' hlt hfn hk).1; omega
        ·have := (hF.chain k i n' n' (Nat.lt_of_le_of_ne hge (fun e => hik e.symm)) hk hfn).1; exact absurd this (Nat.lt_irrefl _)
       omega
    unfold wpOp
    rw [hoi]
    simp only
    have skip : (fn = none /\ ∀ d, ao.dst = some d -> get F d = some (.tuple [])) -> wpAny P md ops Q f (listed.setIfInBounds i true) (a.put o.dst undef) σ.w := by
     rintro ⟨rfl, hno⟩
     have s1 := hst.skipped o.dst hd
     refine hnext _ σ j (Le.refl σ) ⟨⟨_, by rw [hcur i hni]; exact hjs, s1.inv⟩, ?_, s1.size, s1.defers, quietNums hfn, hclosed⟩
     intro u bv hg
     rw [get_filt] at hg
     split at hg
     ·rename_i hs
      by_cases hdt : o.dst = some u
      ·have := hno u (by rw [hdst]; exact hdt)
       rw [this] at hg; cases hg
       exact s1.env u _ (by rw [get_dropE, if_pos hdt])
      ·exact s1.env u bv (by rw [get_dropE, if_neg hdt, get_filt, if_pos (hseen' u hs (by rw [hbind]; exact hdt))]; exact hg)
     ·cases hg
    unfold FactN at hfact
    rcases hguard with ⟨hg1, hg2⟩ | ⟨jg, b, t, hg1, hg2, hg3⟩
    ·have hw : Region.wanted o (yielded ops a.tmps) = true := by simp [Region.wanted, hg1]
     rw [if_pos hw]
     rw [hg2] at hfact
     exact .inl (does hfact)
    ·rw [hg2] at hfact
     rcases hfact with ⟨c, hgt, hyes, hno⟩ | ⟨hgt, hno⟩
     ·have hy : yielded ops a.tmps jg = some c := yielded_of (env := filt (seen ops al.length listed) F) hg3 hh.env (by rw [hlook t (by simp [AOper.looks, hg2])]; exact hgt)
      by_cases hcb : c = b
      ·have hw : Region.wanted o (yielded ops a.tmps) = true := by simp [Region.wanted, hg1, hy, hcb]
       rw [if_pos hw]
       exact .inl (does (hyes hcb))
      ·have hw : Region.wanted o (yielded ops a.tmps) = false := by simp [Region.wanted, hg1, hy, hcb]
       rw [hw]
       simp only [Bool.false_eq_true, if_false]
       exact skip (hno hcb)
     ·have hy : yielded ops a.tmps jg = none := yielded_none (env := filt (seen ops al.length listed) F) hg3 hh.env (by rw [hlook t (by simp [AOper.looks, hg2])]; exact hgt)
      have hw : Region.wanted o (yielded ops a.tmps) = false := by simp [Region.wanted, hg1, hy]
      rw [hw]
      simp only [Bool.false_eq_true, if_false]
      exact skip hno
theorem drawn_soundN {id : Nat} {ops : Array Oper} {al tl : List AOper} (hq : compOps P N ops (ops.toList.take al.length) = some al) (ht : compOps P N ops (ops.toList.drop al.length) = some tl) (hok : drawOK ops al = true)
  {Q : Exit -> Env -> AHeap -> Prop} (hs : St σ h env N a) {F : Env} {h' : AHeap} {az : List (Nat × List AV)} {hl : List AHeap} {fl : List (Option Nat)} (hn : Noise P (clo (ordOf ops al.length)) al env F h h' az hl fl) (hv : vops P tl F h' fun env' h' => Q .normal env' h') : (Code.region id ops true).wp P (Lifted σ N Q) a σ.w := by
 simp only [drawOK, Bool.and_eq_true, decide_eq_true_eq] at hok
 obtain ⟨⟨⟨h1, h2⟩, h3⟩, h4⟩ := hok
 have ho := order_of h1
 have hd : Past σ.w { σ.w with drawn := σ.w.drawn + 1 } := ⟨Nat.le_refl _, fun _ _ => rfl, rfl, rfl, rfl⟩
 let σ1 : Sg := { σ with w := { σ.w with drawn := σ.w.drawn + 1 } }
 have hle1 : Le σ σ1 := Le.world hd
 have hi1 : Inv h σ1 := hs.inv.world hd
 obtain ⟨hlen, hget⟩ := compOps_get hq
 have hrep : ∀ i, i < ops.size -> (Array.replicate ops.size false).getD i true = false := fun i hi => by simp [Array.getD_eq_getD_getElem?, Array.getElem?_replicate, hi]
 have every : ∀ md : Region.Mode, wpAny P md ops (Lifted σ N Q) ops.size (Array.replicate ops.size false) a { σ.w with drawn := σ.w.drawn + 1 } := by
  intro md
  refine head_anyN (σ₀ := σ1) hq h3 ho hn ?_ ops.size _ a σ1 0 (by simp) (fun i _ hi => hrep i hi) (Le.refl _) ?_ ?_
  ·intro σ2 a2 l2 s2
   have hlen2 : (ops.toList.drop al.length).length = ops.size - al.length := by simp
   rw [← hlen2]
   refine vops_sound (σ₀ := σ1) (K := fun env' h' => Q .normal env' h') (fun σ3 h3 env3 a3 l3 s3 q3 => ⟨trivial, σ3, h3, env3, rfl, hle1.trans l3, s3, q3⟩) _ _ tl σ2 h' F a2 (fun j hj => ?_) ht l2 s2 hv
   rw [List.getElem?_drop, Array.getElem?_toList]
  ·refine ⟨⟨_, rfl, ?_⟩, ?_, hs.size, hs.defers, ?_, ?_⟩
   ·have : hA h az (fun k => (Array.replicate ops.size false).getD k true) = ⟨h.blks ++ List.replicate az.length none, h.bufs, h.globs⟩ := by
     unfold hA
     congr 2
     apply List.ext_getElem?
     intro q
     rw [List.getElem?_map, List.getElem?_replicate]
     cases hq : az[q]? with
     | none =>
      have : az.length <= q := List.getElem?_eq_none_iff.1 hq
      rw [if_neg (by omega)]; rfl
     | some p =>
      have hql : q < az.length := (List.getElem?_eq_some_iff.1 hq).1
      obtain ⟨o, ho1, _⟩ := hn.new q p hq
      have hil : p.1 < al.length := (List.getElem?_eq_some_iff.1 ho1).1
      rw [if_pos hql]
      simp only [Option.map_some, hrep p.1 (show p.1 < ops.size by omega)]
      rfl
    rw [this]
    exact reserve_ok hi1 az.length
   ·intro t av hg
    rw [get_filt] at hg
    split at hg
    ·rename_i hsn
     have hw : writes t al = false := by
      cases hwb : writes t al with
      | false => rfl
      | true =>
       exfalso
       unfold writes at hwb
       rw [List.any_eq_true] at hwb
       obtain ⟨o, hmem, hod⟩ := hwb
       obtain ⟨i, hi⟩ := List.mem_iff_getElem?.1 hmem
       have hil : i < al.length := (List.getElem?_eq_some_iff.1 hi).1
       have hops : ops[i]? = some ops[i] := Array.getElem?_eq_getElem (by omega)
       obtain ⟨ao, hao, hco⟩ := hget i ops[i] (by rw [List.getElem?_take, if_pos hil]; simpa using hops)
       rw [hi] at hao; cases hao
       have := (compOper_some hco).2.2.1
       have hf := hsn i hil (by rw [hops]; simp only [Option.bind_some]; rw [← this]; simpa using hod)
       rw [hrep i (by omega)] at hf; cases hf
     rw [hn.keep t hw] at hg
     obtain ⟨x, q1, q2⟩ := hs.env t av hg
     exact ⟨x, q1, q2.mono hle1⟩
    ·cases hg
   ·intro i n hi
    have hil : i < al.length := by rw [← hn.len]; exact (List.getElem?_eq_some_iff.1 hi).1
    rw [hrep i (by omega)]
    simp
   ·intro k i hil hkl
    rw [hrep k (by omega)] at hkl; cases hkl
  ·simp
 refine wp_region_draw fun t => ?_
 unfold Region.schedule
 split
 ·exact wpAny_sound ops.size t _ a _ (every .any)
 ·exact wpAny_sound ops.size (t / 2) _ a _ (every _)
end
def headLen (ops : Array Oper) : Nat := ((List.range (ops.size + 1)).find? fun m => (List.range ops.size).all fun i => decide (i < m) || (List.range i).all fun j => ahead ops i j).getD ops.size
def compCode (P : Program) (N : Nat) : Code -> Option ACode
 | .skip => some .skip
 | .region _ ops false => (compOps P N ops ops.toList).map .region
 | .region _ ops true => (compOps P N ops (ops.toList.take (headLen ops))).bind fun al => (compOps P N ops (ops.toList.drop (headLen ops))).bind fun tl =>
  if drawOK ops al = true /\ al.length = headLen ops then some (.drawn (ordOf ops al.length) al tl) else none
 | .seq a b => (compCode P N a).bind fun a => (compCode P N b).map fun b => .seq a b
 | .cond c a b => (cOpd c).bind fun c => (compCode P N a).bind fun a => (compCode P N b).map fun b => .cond c a b
 | .block id a => (compCode P N a).map fun a => .block id a
 | .loop a => (compCode P N a).map fun a => .loop a
 | .exit id => some (.exit id)
 | .ret => some .ret
 | .scope a => (compCode P N a).map .scope
 | .label l => some (.label l)
 | .goto l => some (.goto l)
 | _ => none
def asem (P : Program) (N : Nat) (ac : ACode) (Q : Exit -> Env -> AHeap -> Prop) (env : Env) (h : AHeap) : Prop :=
 ∀ c, compCode P N c = some ac -> ∀ (σ : Sg) (a : Act), St σ h env N a -> c.wp P (Lifted σ N Q) a σ.w
def thenA (K : Env -> AHeap -> Prop) (Q : Exit -> Env -> AHeap -> Prop) : Exit -> Env -> AHeap -> Prop
 | .normal, env, h => K env h
 | e, env, h => Q e env h
def inBlockA (id : Nat) (Q : Exit -> Env -> AHeap -> Prop) : Exit -> Env -> AHeap -> Prop
 | .exit i, env, h => if i = id then Q .normal env h else Q (.exit i) env h
 | e, env, h => Q e env h
def EnvLe : Env -> Env -> Prop
 | [], _ => True
 | (t, av) :: e, env => get env t = some av /\ EnvLe e env
theorem EnvLe.get {env : Env} : ∀ {e : Env}, EnvLe e env -> ∀ t av, Lift.get e t = some av -> Lift.get env t = some av
 | [], _, t, av, h => by simp [Lift.get] at h
 | (u, b) :: e, h, t, av, hg => by
  simp only [Lift.get] at hg
  split at hg
  ·rename_i hu; subst hu; cases hg; exact h.1
  ·exact EnvLe.get h.2 t av hg
section
variable {P : Program} {N : Nat} {Q : Exit -> Env -> AHeap -> Prop} {env : Env} {h : AHeap}
theorem Lifted.up {σ σ' : Sg} (hl : Le σ σ') {e : Exit} {a : Act} {w : World} (hh : Lifted σ' N Q e a w) : Lifted σ N Q e a w := by
 obtain ⟨h1, σ2, h2, env2, q1, q2, q3, q4⟩ := hh
 exact ⟨h1, σ2, h2, env2, q1, hl.trans q2, q3, q4⟩
theorem asem_skip (hq : Q .normal env h) : asem P N .skip Q env h := by
 intro c hc σ a hs
 cases c <;> (try simp only [compCode, Option.bind_eq_some_iff, Option.map_eq_some_iff] at hc)
 case skip => exact wp_skip ⟨trivial, σ, h, env, rfl, Le.refl σ, hs, hq⟩
 case region id ops d =>
  cases d <;> simp only [compCode, Option.bind_eq_some_iff, Option.map_eq_some_iff] at hc
  ·obtain ⟨_, _, hx⟩ := hc; cases hx
  ·obtain ⟨_, _, _, _, hx⟩ := hc; split at hx <;> cases hx
 all_goals first
  | (cases hc; done)
  | (obtain ⟨_, _, hx⟩ := hc; cases hx; done)
  | (obtain ⟨_, _, _, _, hx⟩ := hc; cases hx; done)
  | (obtain ⟨_, _, _, _, _, _, hx⟩ := hc; cases hx; done)
theorem asem_exit {id : Nat} (hq : Q (.exit id) env h) : asem P N (.exit id) Q env h := by
 intro c hc σ a hs
 cases c <;> (try simp only [compCode, Option.bind_eq_some_iff, Option.map_eq_some_iff] at hc)
 case exit => cases hc; exact wp_exit ⟨trivial, σ, h, env, rfl, Le.refl σ, hs, hq⟩
 case region id ops d =>
  cases d <;> simp only [compCode, Option.bind_eq_some_iff, Option.map_eq_some_iff] at hc
  ·obtain ⟨_, _, hx⟩ := hc; cases hx
  ·obtain ⟨_, _, _, _, hx⟩ := hc; split at hx <;> cases hx
 all_goals first
  | (cases hc; done)
  | (obtain ⟨_, _, hx⟩ := hc; cases hx; done)
  | (obtain ⟨_, _, _, _, hx⟩ := hc; cases hx; done)
  | (obtain ⟨_, _, _, _, _, _, hx⟩ := hc; cases hx; done)
theorem asem_ret (hq : Q .ret env h) : asem P N .ret Q env h := by
 intro c hc σ a hs
 cases c <;> (try simp only [compCode, Option.bind_eq_some_iff, Option.map_eq_some_iff] at hc)
 case ret => exact wp_ret ⟨trivial, σ, h, env, rfl, Le.refl σ, hs, hq⟩
 case region id ops d =>
  cases d <;> simp only [compCode, Option.bind_eq_some_iff, Option.map_eq_some_iff] at hc
  ·obtain ⟨_, _, hx⟩ := hc; cases hx
  ·obtain ⟨_, _, _, _, hx⟩ := hc; split at hx <;> cases hx
 all_goals first
  | (cases hc; done)
  | (obtain ⟨_, _, hx⟩ := hc; cases hx; done)
  | (obtain ⟨_, _, _, _, hx⟩ := hc; cases hx; done)
  | (obtain ⟨_, _, _, _, _, _, hx⟩ := hc; cases hx; done)
theorem asem_region {ops : List AOper} (hv : vops P ops env h (fun env' h' => Q .normal env' h')) : asem P N (.region ops) Q env h := by
 intro c hc σ a hs
 cases c <;> (try simp only [compCode, Option.bind_eq_some_iff, Option.map_eq_some_iff] at hc)
 case region id ops' d =>
  cases d <;> simp only [compCode, Option.bind_eq_some_iff, Option.map_eq_some_iff] at hc
  ·obtain ⟨al, hal, hx⟩ := hc
   cases hx
   refine wp_region ?_
   have := vops_sound (Q := Lifted σ N Q) (σ₀ := σ) (K := fun env' h' => Q .normal env' h') (fun σ3 h3 env3 a3 l3 s3 q3 => ⟨trivial, σ3, h3, env3, rfl, l3, s3, q3⟩) ops'.toList 0 ops σ h env a (fun j hj => by simp) hal (Le.refl σ) hs hv
   rw [List.range_eq_range']
   simpa using this
  ·obtain ⟨_, _, _, _, hx⟩ := hc; split at hx <;> cases hx
 all_goals first
  | (cases hc; done)
  | (obtain ⟨_, _, hx⟩ := hc; cases hx; done)
  | (obtain ⟨_, _, _, _, hx⟩ := hc; cases hx; done)
  | (obtain ⟨_, _, _, _, _, _, hx⟩ := hc; cases hx; done)
theorem asem_drawn {ord : List (List Nat)} {al tl : List AOper} (hv : vq P al env h fun F => vops P tl F h fun env' h' => Q .normal env' h') : asem P N (.drawn ord al tl) Q env h := by
 intro c hc σ a hs
 cases c <;> (try simp only [compCode, Option.bind_eq_some_iff, Option.map_eq_some_iff] at hc)
 case region id ops' d =>
  cases d <;> simp only [compCode, Option.bind_eq_some_iff, Option.map_eq_some_iff] at hc
  ·obtain ⟨_, _, hx⟩ := hc; cases hx
  ·obtain ⟨al', hal, tl', htl, hx⟩ := hc
   split at hx
   ·rename_i hcond
    cases hx
    obtain ⟨c2, c3⟩ := hcond
    rw [← c3] at hal htl
    exact drawn_sound hal htl c2 hs hv
   ·cases hx
 all_goals first
  | (cases hc; done)
  | (obtain ⟨_, _, hx⟩ := hc; cases hx; done)
  | (obtain ⟨_, _, _, _, hx⟩ := hc; cases hx; done)
  | (obtain ⟨_, _, _, _, _, _, hx⟩ := hc; cases hx; done)
theorem asem_drawnC {ord : List (List Nat)} {al tl : List AOper} {F : Env} {h' : AHeap} {az : List (Nat × List AV)} {hl : List AHeap} {fl : List (Option Nat)} (hn : Noise P (clo ord) al env F h h' az hl fl) (hv : vops P tl F h' fun env' h' => Q .normal env' h') : asem P N (.drawn ord al tl) Q env h := by
 intro c hc σ a hs
 cases c <;> (try simp only [compCode, Option.bind_eq_some_iff, Option.map_eq_some_iff] at hc)
 case region id ops' d =>
  cases d <;> simp only [compCode, Option.bind_eq_some_iff, Option.map_eq_some_iff] at hc
  ·obtain ⟨_, _, hx⟩ := hc; cases hx
  ·obtain ⟨al', hal, tl', htl, hx⟩ := hc
   split at hx
   ·rename_i hcond
    cases hx
    obtain ⟨c2, c3⟩ := hcond
    rw [← c3] at hal htl
    exact drawn_soundN hal htl c2 hs hn hv
   ·cases hx
 all_goals first
  | (cases hc; done)
  | (obtain ⟨_, _, hx⟩ := hc; cases hx; done)
  | (obtain ⟨_, _, _, _, hx⟩ := hc; cases hx; done)
  | (obtain ⟨_, _, _, _, _, _, hx⟩ := hc; cases hx; done)
theorem asem_drawnN {ord : List (List Nat)} {al tl : List AOper} {F : Env} {h' : AHeap} {az : List (Nat × List AV)} {hl : List AHeap} {fl : List (Option Nat)} (hn : Noise P ord al env F h h' az hl fl) (hv : vops P tl F h' fun env' h' => Q .normal env' h') : asem P N (.drawn ord al tl) Q env h := asem_drawnC hn.clo hv
theorem asem_seq {x y : ACode} (hx : asem P N x (thenA (asem P N y Q) Q) env h) : asem P N (.seq x y) Q env h := by
 intro c hc σ a hs
 cases c <;> (try simp only [compCode, Option.bind_eq_some_iff, Option.map_eq_some_iff] at hc)
 case seq cx cy =>
  obtain ⟨x', hx', y', hy', he⟩ := hc
  cases he
  refine wp_seq (wp_mono (hx cx hx' σ a hs) ?_)
  intro e a' w' hh
  obtain ⟨h1, σ2, h2, env2, rfl, q2, q3, q4⟩ := hh
  cases e with
  | normal => exact wp_mono (q4 cy hy' σ2 a' q3) fun e a w hh => hh.up q2
  | panic _ => exact h1.elim
  | outgrown => exact h1.elim
  | exit _ => exact ⟨trivial, σ2, h2, env2, rfl, q2, q3, q4⟩
  | goto _ => exact ⟨trivial, σ2, h2, env2, rfl, q2, q3, q4⟩
  | ret => exact ⟨trivial, σ2, h2, env2, rfl, q2, q3, q4⟩
 case region id ops d =>
  cases d <;> simp only [compCode, Option.bind_eq_some_iff, Option.map_eq_some_iff] at hc
  ·obtain ⟨_, _, hx⟩ := hc; cases hx
  ·obtain ⟨_, _, _, _, hx⟩ := hc; split at hx <;> cases hx
 all_goals first
  | (cases hc; done)
  | (obtain ⟨_, _, hx⟩ := hc; cases hx; done)
  | (obtain ⟨_, _, _, _, hx⟩ := hc; cases hx; done)
  | (obtain ⟨_, _, _, _, _, _, hx⟩ := hc; cases hx; done)
theorem asem_cond {c : AOpd} {x y : ACode} (hv : wv (c.ev env) fun v => match v with
  | .v (.bool b) => (b = true -> asem P N x Q env h) /\ (b = false -> asem P N y Q env h)
  | _ => False) : asem P N (.cond c x y) Q env h := by
 intro cc hc σ a hs
 cases cc <;> (try simp only [compCode, Option.bind_eq_some_iff, Option.map_eq_some_iff] at hc)
 case cond co cx cy =>
  obtain ⟨c', hc', x', hx', y', hy', he⟩ := hc
  cases he
  obtain ⟨av, hr, hk⟩ := opd hs.env hc' hv
  generalize hce : a.eval co = ce at hr
  split at hk
  ·rename_i b
   cases hr with
   | v _ _ =>
   cases b with
   | true => exact wp_cond_true hce (hk.1 rfl cx hx' σ a hs)
   | false => exact wp_cond_false hce (hk.2 rfl cy hy' σ a hs)
  ·exact hk.elim
 case region id ops d =>
  cases d <;> simp only [compCode, Option.bind_eq_some_iff, Option.map_eq_some_iff] at hc
  ·obtain ⟨_, _, hx⟩ := hc; cases hx
  ·obtain ⟨_, _, _, _, hx⟩ := hc; split at hx <;> cases hx
 all_goals first
  | (cases hc; done)
  | (obtain ⟨_, _, hx⟩ := hc; cases hx; done)
  | (obtain ⟨_, _, _, _, hx⟩ := hc; cases hx; done)
  | (obtain ⟨_, _, _, _, _, _, hx⟩ := hc; cases hx; done)
theorem asem_block {id : Nat} {x : ACode} (hx : asem P N x (inBlockA id Q) env h) : asem P N (.block id x) Q env h := by
 intro c hc σ a hs
 cases c <;> (try simp only [compCode, Option.bind_eq_some_iff, Option.map_eq_some_iff] at hc)
 case block i cx =>
  obtain ⟨x', hx', he⟩ := hc
  cases he
  refine wp_block (wp_mono (hx cx hx' σ a hs) ?_)
  intro e a' w' hh
  obtain ⟨h1, σ2, h2, env2, rfl, q2, q3, q4⟩ := hh
  cases e with
  | panic _ => exact h1.elim
  | outgrown => exact h1.elim
  | normal => exact ⟨trivial, σ2, h2, env2, rfl, q2, q3, q4⟩
  | goto _ => exact ⟨trivial, σ2, h2, env2, rfl, q2, q3, q4⟩
  | ret => exact ⟨trivial, σ2, h2, env2, rfl, q2, q3, q4⟩
  | exit i =>
   simp only [inBlockA] at q4
   simp only [Exit.inBlock]
   split
   ·rename_i hi; rw [if_pos hi] at q4; exact ⟨trivial, σ2, h2, env2, rfl, q2, q3, q4⟩
   ·rename_i hi; rw [if_neg hi] at q4; exact ⟨trivial, σ2, h2, env2, rfl, q2, q3, q4⟩
 case region id ops d =>
  cases d <;> simp only [compCode, Option.bind_eq_some_iff, Option.map_eq_some_iff] at hc
  ·obtain ⟨_, _, hx⟩ := hc; cases hx
  ·obtain ⟨_, _, _, _, hx⟩ := hc; split at hx <;> cases hx
 all_goals first
  | (cases hc; done)
  | (obtain ⟨_, _, hx⟩ := hc; cases hx; done)
  | (obtain ⟨_, _, _, _, hx⟩ := hc; cases hx; done)
  | (obtain ⟨_, _, _, _, _, _, hx⟩ := hc; cases hx; done)
theorem asem_loop {x : ACode} (I : Nat -> Env -> AHeap -> Prop) (n₀ : Nat) (e₀ : Env) (h₀ : EnvLe e₀ env /\ I n₀ e₀ h)
  (round : ∀ n e h, I n e h -> asem P N x (thenA (fun env' h' => ∃ n' e', n' < n /\ EnvLe e' env' /\ I n' e' h') Q) e h) : asem P N (.loop x) Q env h := by
 intro c hc σ a hs
 cases c <;> (try simp only [compCode, Option.bind_eq_some_iff, Option.map_eq_some_iff] at hc)
 case loop cx =>
  obtain ⟨x', hx', he⟩ := hc
  cases he
  refine wp_loop_ghost (fun n a w => ∃ σ' e h', σ'.w = w /\ Le σ σ' /\ St σ' h' e N a /\ I n e h') n₀ ⟨σ, e₀, h, rfl, Le.refl σ, ⟨hs.inv, fun t av hg => hs.env t av (h₀.1.get t av hg), hs.size, hs.defers⟩, h₀.2⟩ ?_
  rintro n a w ⟨σ', e, h', rfl, l1, s1, hI⟩
  refine wp_mono (round n e h' hI cx hx' σ' a s1) ?_
  intro ex a' w' hh
  obtain ⟨h1, σ2, h2, env2, rfl, q2, q3, q4⟩ := hh
  cases ex with
  | panic _ => exact h1.elim
  | outgrown => exact h1.elim
  | normal =>
   obtain ⟨n', e', hn, hel, hI'⟩ := q4
   exact ⟨n', hn, σ2, e', h2, rfl, l1.trans q2, ⟨q3.inv, fun t av hg => q3.env t av (hel.get t av hg), q3.size, q3.defers⟩, hI'⟩
  | goto _ => exact ⟨trivial, σ2, h2, env2, rfl, l1.trans q2, q3, q4⟩
  | ret => exact ⟨trivial, σ2, h2, env2, rfl, l1.trans q2, q3, q4⟩
  | exit i => exact ⟨trivial, σ2, h2, env2, rfl, l1.trans q2, q3, q4⟩
 case region id ops d =>
  cases d <;> simp only [compCode, Option.bind_eq_some_iff, Option.map_eq_some_iff] at hc
  ·obtain ⟨_, _, hx⟩ := hc; cases hx
  ·obtain ⟨_, _, _, _, hx⟩ := hc; split at hx <;> cases hx
 all_goals first
  | (cases hc; done)
  | (obtain ⟨_, _, hx⟩ := hc; cases hx; done)
  | (obtain ⟨_, _, _, _, hx⟩ := hc; cases hx; done)
  | (obtain ⟨_, _, _, _, _, _, hx⟩ := hc; cases hx; done)
theorem asem_mono {x : ACode} {Q' : Exit -> Env -> AHeap -> Prop} (hx : asem P N x Q env h) (hq : ∀ e env h, Q e env h -> Q' e env h) : asem P N x Q' env h := by
 intro c hc σ a hs
 refine wp_mono (hx c hc σ a hs) ?_
 rintro e a' w' ⟨h1, σ2, h2, env2, q1, q2, q3, q4⟩
 exact ⟨h1, σ2, h2, env2, q1, q2, q3, hq _ _ _ q4⟩
end
theorem wp_scope_ghost {P : Program} {a : Act} {w : World} {Q : Exit -> Act -> World -> Prop} {c rest : Code} (l : Nat) (J : Nat -> Act -> World -> Prop) (hf : findLabel c l = some rest)
  (first : c.wp P (Exit.jump l (fun a w => ∃ n, J n a w) Q) a w)
  (pass : ∀ n a w, J n a w -> rest.wp P (Exit.jump l (fun a' w' => ∃ n', n' < n /\ J n' a' w') Q) a w) : (Code.scope c).wp P Q a w := by
 intro b k cs
 have hg : gotoIn l (.inScope c :: k) = some (.code rest :: .inScope c :: k) := by simp [gotoIn, hf]
 have key : ∀ n a w, J n a w -> ∃ e a' w', Q e a' w' /\ Arrives P (lone (b.at a (.code rest :: .inScope c :: k)) cs w) b k cs e a' w' := by
  intro n
  induction n using Nat.strongRecOn with
  | _ n ih =>
   intro a w hJ
   obtain ⟨e, a₁, w₁, hq, harr⟩ := pass n a w hJ b (.inScope c :: k) cs
   cases e with
   | normal => exact ⟨.normal, a₁, w₁, hq, Steps.trans harr (.one step_inScope)⟩
   | exit id => exact ⟨.exit id, a₁, w₁, hq, fun k' hk => harr k' (by simp [exitTo, hk])⟩
   | goto l' =>
    obtain ⟨rfl, n', hlt, hJ'⟩ := hq
    obtain ⟨e₂, a₂, w₂, hq₂, harr₂⟩ := ih n' hlt a₁ w₁ hJ'
    exact ⟨e₂, a₂, w₂, hq₂, .of_steps (harr _ hg) harr₂⟩
   | ret => exact ⟨_, a₁, w₁, hq, harr⟩
   | panic ch => exact ⟨_, a₁, w₁, hq, harr⟩
   | outgrown => exact ⟨_, a₁, w₁, hq, harr⟩
 obtain ⟨e, a₁, w₁, hq, harr⟩ := first b (.inScope c :: k) cs
 cases e with
 | normal => exact ⟨.normal, a₁, w₁, hq, .head step_scope (Steps.trans harr (.one step_inScope))⟩
 | exit id => exact ⟨.exit id, a₁, w₁, hq, fun k' hk => .head step_scope (harr k' (by simp [exitTo, hk]))⟩
 | goto l' =>
  obtain ⟨rfl, n', hJ'⟩ := hq
  obtain ⟨e₂, a₂, w₂, hq₂, harr₂⟩ := key n' a₁ w₁ hJ'
  exact ⟨e₂, a₂, w₂, hq₂, .of_steps (.head step_scope (harr _ hg)) harr₂⟩
 | ret => exact ⟨_, a₁, w₁, hq, .of_steps (.one step_scope) harr⟩
 | panic ch => exact ⟨_, a₁, w₁, hq, .of_steps (.one step_scope) harr⟩
 | outgrown => exact ⟨_, a₁, w₁, hq, .of_steps (.one step_scope) harr⟩
def aFind : ACode -> Nat -> Option ACode
 | .seq a b, l => match aFind a l with
  | some rest => some (.seq rest b)
  | none => aFind b l
 | .label l', l => if l' == l then some .skip else none
 | _, _ => none
theorem aFind_ok {P : Program} {N : Nat} (l : Nat) : ∀ {c : Code} {ac : ACode}, compCode P N c = some ac ->
  (∀ ar, aFind ac l = some ar -> ∃ r, findLabel c l = some r /\ compCode P N r = some ar) /\ (aFind ac l = none -> findLabel c l = none) := by
 intro c
 induction c with
 | seq x y ihx ihy =>
  intro ac hc
  simp only [compCode, Option.bind_eq_some_iff, Option.map_eq_some_iff] at hc
  obtain ⟨x', hx, y', hy, rfl⟩ := hc
  obtain ⟨f1, f2⟩ := ihx hx
  obtain ⟨g1, g2⟩ := ihy hy
  simp only [aFind, findLabel]
  cases hax : aFind x' l with
  | some rx =>
   obtain ⟨r, h1, h2⟩ := f1 rx hax
   simp only [h1]
   refine ⟨fun ar h => ?_, fun h => by cases h⟩
   cases h
   exact ⟨_, rfl, by simp [compCode, h2, hy]⟩
  | none =>
   simp only [f2 hax]
   exact ⟨g1, g2⟩
 | label l' =>
  intro ac hc
  simp only [compCode] at hc
  cases hc
  simp only [aFind, findLabel]
  split
  ·exact ⟨fun ar h => by cases h; exact ⟨_, rfl, rfl⟩, fun h => by cases h⟩
  ·exact ⟨(fun ar h => by cases h), fun _ => rfl⟩
 | region id ops d =>
  intro ac hc
  cases d <;> simp only [compCode, Option.bind_eq_some_iff, Option.map_eq_some_iff] at hc
  ·obtain ⟨_, _, rfl⟩ := hc; exact ⟨(fun ar h => by simp [aFind] at h), fun _ => rfl⟩
  ·obtain ⟨_, _, _, _, hx⟩ := hc
   split at hx <;> cases hx
   exact ⟨(fun ar h => by simp [aFind] at h), fun _ => rfl⟩
 | _ =>
  intro ac hc
  simp only [compCode, Option.bind_eq_some_iff, Option.map_eq_some_iff] at hc
  first
   | (cases hc; done)
   | (cases hc; exact ⟨(fun ar h => by simp [aFind] at h), fun _ => rfl⟩)
   | (obtain ⟨_, _, rfl⟩ := hc; exact ⟨(fun ar h => by simp [aFind] at h), fun _ => rfl⟩)
   | (obtain ⟨_, _, _, _, rfl⟩ := hc; exact ⟨(fun ar h => by simp [aFind] at h), fun _ => rfl⟩)
   | (obtain ⟨_, _, _, _, _, _, rfl⟩ := hc; exact ⟨(fun ar h => by simp [aFind] at h), fun _ => rfl⟩)
def jumpA (l : Nat) (J : Env -> AHeap -> Prop) (Q : Exit -> Env -> AHeap -> Prop) : Exit -> Env -> AHeap -> Prop
 | .goto l', env, h => l' = l /\ J env h
 | e, env, h => Q e env h
def noGotoA (Q : Exit -> Env -> AHeap -> Prop) : Exit -> Env -> AHeap -> Prop
 | .goto _, _, _ => False
 | e, env, h => Q e env h
section
variable {P : Program} {N : Nat} {Q : Exit -> Env -> AHeap -> Prop} {env : Env} {h : AHeap}
theorem scope_inv {c : Code} {x : ACode} (hc : compCode P N c = some (.scope x)) : ∃ c', c = .scope c' /\ compCode P N c' = some x := by
 cases c <;> (try simp only [compCode, Option.bind_eq_some_iff, Option.map_eq_some_iff] at hc)
 case scope c' => obtain ⟨x', h1, h2⟩ := hc; cases h2; exact ⟨c', rfl, h1⟩
 case region id ops d =>
  cases d <;> simp only [compCode, Option.bind_eq_some_iff, Option.map_eq_some_iff] at hc
  ·obtain ⟨_, _, hx⟩ := hc; cases hx
  ·obtain ⟨_, _, _, _, hx⟩ := hc; split at hx <;> cases hx
 all_goals first
  | (cases hc; done)
  | (obtain ⟨_, _, hx⟩ := hc; cases hx; done)
  | (obtain ⟨_, _, _, _, hx⟩ := hc; cases hx; done)
  | (obtain ⟨_, _, _, _, _, _, hx⟩ := hc; cases hx; done)
theorem asem_label {l : Nat} (hq : Q .normal env h) : asem P N (.label l) Q env h := by
 intro c hc σ a hs
 cases c <;> (try simp only [compCode, Option.bind_eq_some_iff, Option.map_eq_some_iff] at hc)
 case label => exact wp_label ⟨trivial, σ, h, env, rfl, Le.refl σ, hs, hq⟩
 case region id ops d =>
  cases d <;> simp only [compCode, Option.bind_eq_some_iff, Option.map_eq_some_iff] at hc
  ·obtain ⟨_, _, hx⟩ := hc; cases hx
  ·obtain ⟨_, _, _, _, hx⟩ := hc; split at hx <;> cases hx
 all_goals first
  | (cases hc; done)
  | (obtain ⟨_, _, hx⟩ := hc; cases hx; done)
  | (obtain ⟨_, _, _, _, hx⟩ := hc; cases hx; done)
  | (obtain ⟨_, _, _, _, _, _, hx⟩ := hc; cases hx; done)
theorem asem_goto {l : Nat} (hq : Q (.goto l) env h) : asem P N (.goto l) Q env h := by
 intro c hc σ a hs
 cases c <;> (try simp only [compCode, Option.bind_eq_some_iff, Option.map_eq_some_iff] at hc)
 case goto => cases hc; exact wp_goto ⟨trivial, σ, h, env, rfl, Le.refl σ, hs, hq⟩
 case region id ops d =>
  cases d <;> simp only [compCode, Option.bind_eq_some_iff, Option.map_eq_some_iff] at hc
  ·obtain ⟨_, _, hx⟩ := hc; cases hx
  ·obtain ⟨_, _, _, _, hx⟩ := hc; split at hx <;> cases hx
 all_goals first
  | (cases hc; done)
  | (obtain ⟨_, _, hx⟩ := hc; cases hx; done)
  | (obtain ⟨_, _, _, _, hx⟩ := hc; cases hx; done)
  | (obtain ⟨_, _, _, _, _, _, hx⟩ := hc; cases hx; done)
theorem asem_scope {x : ACode} (hx : asem P N x (noGotoA Q) env h) : asem P N (.scope x) Q env h := by
 intro c hc σ a hs
 obtain ⟨c', rfl, hc'⟩ := scope_inv hc
 refine wp_scope_straight (wp_mono (hx c' hc' σ a hs) ?_)
 rintro e a' w' ⟨h1, σ2, h2, env2, rfl, q2, q3, q4⟩
 cases e with
 | panic _ => exact h1.elim
 | outgrown => exact h1.elim
 | goto _ => exact q4.elim
 | normal => exact ⟨trivial, σ2, h2, env2, rfl, q2, q3, q4⟩
 | ret => exact ⟨trivial, σ2, h2, env2, rfl, q2, q3, q4⟩
 | exit i => exact ⟨trivial, σ2, h2, env2, rfl, q2, q3, q4⟩
theorem asem_jumps {x rest : ACode} (l : Nat) (hf : aFind x l = some rest) (I : Nat -> Env -> AHeap -> Prop)
  (first : asem P N x (jumpA l (fun env' h' => ∃ n e, EnvLe e env' /\ I n e h') Q) env h)
  (pass : ∀ n e h, I n e h -> asem P N rest (jumpA l (fun env' h' => ∃ n' e', n' < n /\ EnvLe e' env' /\ I n' e' h') Q) e h) : asem P N (.scope x) Q env h := by
 intro c hc σ a hs
 obtain ⟨c', rfl, hc'⟩ := scope_inv hc
 obtain ⟨r, hr, hrc⟩ := (aFind_ok l hc').1 rest hf
 refine wp_scope_ghost l (fun n a w => ∃ σ' e h', σ'.w = w /\ Le σ σ' /\ St σ' h' e N a /\ I n e h') hr (wp_mono (first c' hc' σ a hs) ?_) ?_
 ·rintro e a' w' ⟨h1, σ2, h2, env2, rfl, q2, q3, q4⟩
  cases e with
  | panic _ => exact h1.elim
  | outgrown => exact h1.elim
  | goto l' =>
   obtain ⟨rfl, n, e, hel, hI⟩ := q4
   exact ⟨rfl, n, σ2, e, h2, rfl, q2, ⟨q3.inv, fun t av hg => q3.env t av (hel.get t av hg), q3.size, q3.defers⟩, hI⟩
  | normal => exact ⟨trivial, σ2, h2, env2, rfl, q2, q3, q4⟩
  | ret => exact ⟨trivial, σ2, h2, env2, rfl, q2, q3, q4⟩
  | exit i => exact ⟨trivial, σ2, h2, env2, rfl, q2, q3, q4⟩
 ·rintro n a w ⟨σ', e, h', rfl, l1, s1, hI⟩
  refine wp_mono (pass n e h' hI r hrc σ' a s1) ?_
  rintro e a' w' ⟨h1, σ2, h2, env2, rfl, q2, q3, q4⟩
  cases e with
  | panic _ => exact h1.elim
  | outgrown => exact h1.elim
  | goto l' =>
   obtain ⟨rfl, n', e', hn, hel, hI'⟩ := q4
   exact ⟨rfl, n', hn, σ2, e', h2, rfl, l1.trans q2, ⟨q3.inv, fun t av hg => q3.env t av (hel.get t av hg), q3.size, q3.defers⟩, hI'⟩
  | normal => exact ⟨trivial, σ2, h2, env2, rfl, l1.trans q2, q3, q4⟩
  | ret => exact ⟨trivial, σ2, h2, env2, rfl, l1.trans q2, q3, q4⟩
  | exit i => exact ⟨trivial, σ2, h2, env2, rfl, l1.trans q2, q3, q4⟩
end
mutual
def plain : AV -> Bool
 | .v _ => true
 | .ptr _ _ => false
 | .elt cells _ => plainL cells
 | .nil => true
 | .sl els tok => (match tok with | .own _ => false | _ => true) && plainLL els
 | .agg cells => plainL cells
 | .tuple vs => plainL vs
 | .iface _ x => plain x
 | .clo _ first captured => plainL first && plainL captured
 | .glob _ => true
 | .row _ _ _ _ _ => false
 | .it _ _ => false
def plainL : List AV -> Bool
 | [] => true
 | a :: r => plain a && plainL r
def plainLL : List (List AV) -> Bool
 | [] => true
 | a :: r => plainL a && plainLL r
end
theorem plainL_get : ∀ {l : List AV}, plainL l = true -> ∀ (i : Nat) (av : AV), l[i]? = some av -> plain av = true
 | [], _, i, av, h => by simp at h
 | a :: r, hp, i, av, h => by
  simp only [plainL, Bool.and_eq_true] at hp
  cases i with
  | zero => simp at h; subst h; exact hp.1
  | succ i => exact plainL_get hp.2 i av (by simpa using h)
theorem plainLL_get : ∀ {l : List (List AV)}, plainLL l = true -> ∀ (i : Nat) (el : List AV), l[i]? = some el -> plainL el = true
 | [], _, i, av, h => by simp at h
 | a :: r, hp, i, av, h => by
  simp only [plainLL, Bool.and_eq_true] at hp
  cases i with
  | zero => simp at h; subst h; exact hp.1
  | succ i => exact plainLL_get hp.2 i av (by simpa using h)
theorem plainLL_map {α : Type} (f : α -> List AV) (l : List α) (h : ∀ x ∈ l, plainL (f x) = true) : plainLL (l.map f) = true := by
 induction l with
 | nil => rfl
 | cons x l ih => simp only [List.map_cons, plainLL, Bool.and_eq_true]; exact ⟨h x (by simp), ih fun y hy => h y (by simp [hy])⟩
def bare (w : World) (outer : Nat -> Nat -> Prop) : Sg := ⟨w, fun _ => none, fun _ => none, outer⟩
theorem bare_own (w : World) (outer : Nat -> Nat -> Prop) (b o : Nat) : ¬ (bare w outer).own b o := by
 rintro (⟨n, h⟩ | ⟨id, e, h, _⟩) <;> cases h
theorem bare_open (w : World) (outer : Nat -> Nat -> Prop) (b o : Nat) : (bare w outer).open_ b o ↔ outer b o := ⟨fun h => h.elim id fun h => (bare_own w outer b o h).elim, .inl⟩
def Globs (w : World) (outer : Nat -> Nat -> Prop) (gl : List (Nat × List AV)) : Prop := ∀ g cells, (g, cells) ∈ gl -> Rel (bare w outer) (.elt cells 0) (.pointer (some ⟨g, 0, none⟩))
theorem bare_inv {w : World} {outer : Nat -> Nat -> Prop} {gl : List (Nat × List AV)} (h : ∀ b o, outer b o -> b < w.heap.size) (hg : Globs w outer gl) : Inv ⟨[], [], gl⟩ (bare w outer) where
 blk n cells hn := by simp at hn
 dom n b hn := by cases hn
 inj n m b c c' hc hc' _ _ hn := by cases hn
 buf id c hc := by simp at hc
 bufdom id e he := by cases he
 bufle id e he := by cases he
 bufat id e b o he := by cases he
 bufinj i j e f b o he := by cases he
 bufblk id e n b o he := by cases he
 outer b o ho := ⟨h b o ho, bare_own w outer b o⟩
 glob := hg
theorem Rel.down {σ : Sg} {av : AV} {x : Value} (hr : Rel σ av x) : plain av = true -> ∀ {w : World} {outer : Nat -> Nat -> Prop}, w = σ.w -> (∀ b o, outer b o -> σ.open_ b o) -> Rel (bare w outer) av x := by
 intro hp w outer hw ho
 subst hw
 induction hr with
 | v x hx => exact .v x hx
 | ptr n off b hb => simp [plain] at hp
 | elt cells off b o xs hc _ ih =>
  simp only [plain] at hp
  exact .elt cells off b o xs (fun i av hi => ⟨(hc i av hi).1, fun h => (hc i av hi).2.1 (ho _ _ ((bare_open _ _ _ _).1 h)), (hc i av hi).2.2⟩) fun i av hi => ih i av hi (plainL_get hp i av hi)
 | nil => exact .nil
 | glob n => exact .glob n
 | row n off size len capm b cap hb hc hm hx => simp [plain] at hp
 | sl0 tok ht =>
  refine .sl0 tok ?_
  cases tok with
  | no => trivial
  | full => exact ht
  | own id => simp [plain] at hp
 | slx tok a cap ht hc =>
  refine .slx tok a cap ?_ hc
  cases tok with
  | no => trivial
  | full => exact ht
  | own id => simp [plain] at hp
 | sl els tok b o cap size xs hs hcap ht hz hc _ ih =>
  simp only [plain, Bool.and_eq_true] at hp
  refine .sl els tok b o cap size xs hs hcap ?_ ?_ (fun i el hi j av hj => ⟨(hc i el hi j av hj).1, fun h => (hc i el hi j av hj).2.1 (ho _ _ ((bare_open _ _ _ _).1 h)), (hc i el hi j av hj).2.2⟩) fun i el hi j av hj => ih i el hi j av hj (plainL_get (plainLL_get hp.2 i el hi) j av hj)
  ·cases tok with
   | no => trivial
   | full => exact ht
   | own id => simp at hp
  ·intro id e hid he; cases he
 | agg cells xs hn hc x hx _ ih => simp only [plain] at hp; exact .agg cells xs hn hc x hx fun i av hi => ih i av hi (plainL_get hp i av hi)
 | tuple vs xs hn x hx _ ih => simp only [plain] at hp; exact .tuple vs xs hn x hx fun i av hi => ih i av hi (plainL_get hp i av hi)
 | iface t av x _ ih => simp only [plain] at hp; exact .iface t av x (ih hp)
 | clo fn first captured fs cs hn hm x y hx hy _ _ ih1 ih2 =>
  simp only [plain, Bool.and_eq_true] at hp
  exact .clo fn first captured fs cs hn hm x y hx hy (fun i av hi => ih1 i av hi (plainL_get hp.1 i av hi)) fun i av hi => ih2 i av hi (plainL_get hp.2 i av hi)
theorem Rel.up {σ σ₁ : Sg} {av : AV} {x : Value} (hr : Rel σ₁ av x) : (∀ n, σ₁.blk n = none) -> (∀ n, σ₁.buf n = none) -> σ₁.w = σ.w -> (∀ b o, σ.open_ b o -> σ₁.open_ b o) -> Rel σ av x := by
 intro hb hbuf hw ho
 induction hr with
 | v x hx => exact .v x hx
 | ptr n off b h => rw [hb] at h; cases h
 | elt cells off b o xs hc _ ih => exact .elt cells off b o xs (fun i av hi => ⟨by rw [← hw]; exact (hc i av hi).1, fun h => (hc i av hi).2.1 (ho _ _ h), (hc i av hi).2.2⟩) ih
 | nil => exact .nil
 | glob n => exact .glob n
 | row n off size len capm b cap h hc hm hx => rw [hb] at h; cases h
 | sl0 tok ht =>
  refine .sl0 tok ?_
  cases tok with
  | no => trivial
  | full => exact ht
  | own id => obtain ⟨e, h, _⟩ := ht; rw [hbuf] at h; cases h
 | slx tok a cap ht hc =>
  refine .slx tok a cap ?_ hc
  cases tok with
  | no => trivial
  | full => exact ht
  | own id => obtain ⟨e, h, _⟩ := ht; rw [hbuf] at h; cases h
 | sl els tok b o cap size xs hs hcap ht hz hc _ ih =>
  refine .sl els tok b o cap size xs hs hcap ?_ ?_ (fun i el hi j av hj => ⟨by rw [← hw]; exact (hc i el hi j av hj).1, fun h => (hc i el hi j av hj).2.1 (ho _ _ h), (hc i el hi j av hj).2.2⟩) ih
  ·cases tok with
   | no => trivial
   | full => exact ht
   | own id => obtain ⟨e, h, _⟩ := ht; rw [hbuf] at h; cases h
  ·intro id e hid he
   subst hid
   obtain ⟨e', h, _⟩ := ht; rw [hbuf] at h; cases h
 | agg cells xs hn hc x hx _ ih => exact .agg cells xs hn hc x hx ih
 | tuple vs xs hn x hx _ ih => exact .tuple vs xs hn x hx ih
 | iface t av x _ ih => exact .iface t av x ih
 | clo fn first captured fs cs hn hm x y hx hy _ _ ih1 ih2 => exact .clo fn first captured fs cs hn hm x y hx hy ih1 ih2
def thawN : Nat -> AHeap -> AV -> AV
 | 0, _, a => a
 | k + 1, h, a => match a with
  | .row n off size len cap => match rowAt h n off size len with
   | some els => .sl (els.map fun el => el.map fun c => thawN k h (wk1 c)) .no
   | none => a
  | .sl els tok => .sl (els.map fun el => el.map fun c => thawN k h (wk1 c)) tok
  | .agg cells => .agg (cells.map fun c => thawN k h (wk1 c))
  | .tuple vs => .tuple (vs.map fun c => thawN k h (wkA c))
  | a => a
theorem thawN_cell : ∀ (k : Nat) (h : AHeap) (a : AV), (thawN k h a).isCell = a.isCell
 | 0, _, _ => rfl
 | k + 1, h, a => by
  cases a with
  | row n off size len cap =>
   simp only [thawN]
   cases rowAt h n off size len <;> rfl
  | _ => rfl
theorem plainL_map_get {f : AV -> AV} {l : List AV} (h : plainL (l.map f) = true) {i : Nat} {a : AV} (ha : l[i]? = some a) : plain (f a) = true := plainL_get h i _ (by rw [List.getElem?_map, ha]; rfl)
theorem Rel.thaw {h : AHeap} {σ : Sg} (hi : Inv h σ) : ∀ (k : Nat) (av : AV) (x : Value), Rel σ av x -> plain (thawN k h av) = true -> Rel (bare σ.w σ.outer) (thawN k h av) x := by
 have hout : ∀ b o, σ.outer b o -> σ.open_ b o := fun b o ho => .inl ho
 intro k
 induction k with
 | zero => intro av x hr hp; exact hr.down hp rfl hout
 | succ k ih =>
  intro av x hr hp
  have cell : ∀ (c : AV) (y : Value), Rel σ c y -> plain (thawN k h (Lift.wk1 c)) = true -> Rel (bare σ.w σ.outer) (thawN k h (Lift.wk1 c)) y := fun c y hc hpc => ih _ _ hc.wk1 hpc
  have iscell : ∀ c, (thawN k h (Lift.wk1 c)).isCell = c.isCell := fun c => by rw [thawN_cell, wk1_cell]
  cases hr with
  | row n off size len capm b cap hb hc hm hx =>
   simp only [thawN] at hp ⊢
   cases hra : rowAt h n off size len with
   | none => rw [hra] at hp; simp [plain] at hp
   | some els =>
    rw [hra] at hp
    simp only [plain, Bool.true_and] at hp
    by_cases hlen : len = 0
    ·subst hlen
     simp only [rowAt, if_true, Option.some.injEq] at hra
     subst hra
     exact .slx _ _ _ trivial (.inl rfl)
    simp only [rowAt, if_neg hlen] at hra
    split at hra
    ·rename_i cells hcs
     split at hra
     ·rename_i hcond
      obtain ⟨hno, hle⟩ := hcond
      simp only [Option.some.injEq] at hra
      obtain ⟨b', hb', hbk⟩ := hi.blk n cells hcs
      rw [hb] at hb'; cases hb'
      obtain ⟨cs, rest, elem, hheap, hcc⟩ := hbk.plain hno
      have hsub := hcc.sub off (len * size) hle
      have hl : ((cells.drop off).take (len * size)).length = len * size := by simp; omega
      obtain ⟨c1, c2, c3⟩ := chunk_flat size len _ hl
      rw [hra] at c1 c2 c3
      have hown : ∀ o, ¬ (bare σ.w σ.outer).open_ b o := by
       intro o ho
       exact (hi.outer b o ((bare_open _ _ _ _).1 ho)).2 (.inl ⟨n, hb⟩)
      have key : ∀ (i : Nat) (el : List AV), els[i]? = some el -> ∀ (j : Nat) (av : AV), el[j]? = some av -> ∃ y, σ.w.cell? ⟨b, off + i * size + j, none⟩ = some y /\ Rel σ av y /\ av.isCell = true := by
       intro i el hiel j av hj
       have hel : el.length = size := c2 el (List.mem_of_getElem? hiel)
       have hjl : j < size := by rw [← hel]; exact (List.getElem?_eq_some_iff.1 hj).1
       have hf := flat_get els c2 i j hjl
       rw [hiel, Option.bind_some, hj, c1] at hf
       obtain ⟨hcell, y, hy, hrel⟩ := hsub.2 _ av hf
       refine ⟨y, ?_, hrel, hcell⟩
       rw [List.getElem?_take] at hy
       split at hy
       ·rw [List.getElem?_drop] at hy
        have hlt := (List.getElem?_eq_some_iff.1 hy).1
        rw [blk_cell hheap, ← Array.getElem?_toList, List.toList_toArray, Nat.add_assoc, List.getElem?_append_left hlt]
        exact hy
       ·cases hy
      have := Rel.sl (σ := bare σ.w σ.outer) (els.map fun el => el.map fun c => thawN k h (Lift.wk1 c)) .no b off cap size (fun i j => (σ.w.cell? ⟨b, off + i * size + j, none⟩).getD undef)
       (fun i el hiel => by
        simp only [List.getElem?_map, Option.map_eq_some_iff] at hiel
        obtain ⟨el', h1, rfl⟩ := hiel
        rw [List.length_map]; exact c2 el' (List.mem_of_getElem? h1))
       (by rw [List.length_map, c3]; exact hc) trivial (fun id e hid => by cases hid)
       (fun i el hiel j av hj => by
        simp only [List.getElem?_map, Option.map_eq_some_iff] at hiel
        obtain ⟨el', h1, rfl⟩ := hiel
        simp only [List.getElem?_map, Option.map_eq_some_iff] at hj
        obtain ⟨av', h2, rfl⟩ := hj
        obtain ⟨y, k1, k2, k3⟩ := key i el' h1 j av' h2
        exact ⟨by show σ.w.cell? _ = _; rw [k1]; rfl, hown _, by rw [iscell]; exact k3⟩)
       (fun i el hiel j av hj => by
        simp only [List.getElem?_map, Option.map_eq_some_iff] at hiel
        obtain ⟨el', h1, rfl⟩ := hiel
        simp only [List.getElem?_map, Option.map_eq_some_iff] at hj
        obtain ⟨av', h2, rfl⟩ := hj
        obtain ⟨y, k1, k2, k3⟩ := key i el' h1 j av' h2
        rw [k1]
        exact cell av' y k2 (plainL_map_get (f := fun c => thawN k h (Lift.wk1 c)) (plainLL_get hp i _ (by rw [List.getElem?_map, h1]; rfl)) h2))
      rw [List.length_map, c3] at this
      exact this
     ·cases hra
    ·cases hra
  | sl0 tok ht =>
   simp only [thawN, List.map_nil] at hp ⊢
   exact (Rel.sl0 tok ht).down hp rfl hout
  | slx tok a cap ht hc =>
   simp only [thawN, List.map_nil] at hp ⊢
   exact (Rel.slx tok a cap ht hc).down hp rfl hout
  | sl els tok b o cap size xs hs hcap ht hz hc hr =>
   simp only [thawN, plain, Bool.and_eq_true] at hp ⊢
   have := Rel.sl (σ := bare σ.w σ.outer) (els.map fun el => el.map fun c => thawN k h (Lift.wk1 c)) tok b o cap size xs
    (fun i el hiel => by
     simp only [List.getElem?_map, Option.map_eq_some_iff] at hiel
     obtain ⟨el', h1, rfl⟩ := hiel
     rw [List.length_map]; exact hs i el' h1)
    (by rw [List.length_map]; exact hcap)
    (by
     rw [List.length_map]
     cases tok with
     | no => trivial
     | full => exact ht
     | own id => simp at hp)
    (fun id e hid he => by cases he)
    (fun i el hiel j av hj => by
     simp only [List.getElem?_map, Option.map_eq_some_iff] at hiel
     obtain ⟨el', h1, rfl⟩ := hiel
     simp only [List.getElem?_map, Option.map_eq_some_iff] at hj
     obtain ⟨av', h2, rfl⟩ := hj
     obtain ⟨k1, k2, k3⟩ := hc i el' h1 j av' h2
     exact ⟨k1, fun h => k2 (.inl ((bare_open _ _ _ _).1 h)), by rw [iscell]; exact k3⟩)
    (fun i el hiel j av hj => by
     simp only [List.getElem?_map, Option.map_eq_some_iff] at hiel
     obtain ⟨el', h1, rfl⟩ := hiel
     simp only [List.getElem?_map, Option.map_eq_some_iff] at hj
     obtain ⟨av', h2, rfl⟩ := hj
     exact cell av' _ (hr i el' h1 j av' h2) (plainL_map_get (f := fun c => thawN k h (Lift.wk1 c)) (plainLL_get hp.2 i _ (by rw [List.getElem?_map, h1]; rfl)) h2))
   rw [List.length_map] at this
   exact this
  | agg cells xs hn hc x hx hr =>
   simp only [thawN, plain] at hp ⊢
   refine .agg _ xs (by rw [List.length_map]; exact hn) (fun i av hiv => ?_) x (fun i av hiv => ?_) (fun i av hiv => ?_)
   all_goals
    simp only [List.getElem?_map, Option.map_eq_some_iff] at hiv
    obtain ⟨av', h2, rfl⟩ := hiv
   ·rw [iscell]; exact hc i av' h2
   ·exact hx i av' h2
   ·exact cell av' _ (hr i av' h2) (plainL_map_get hp h2)
  | tuple vs xs hn x hx hr =>
   simp only [thawN, plain] at hp ⊢
   refine .tuple _ xs (by rw [List.length_map]; exact hn) x (fun i av hiv => ?_) (fun i av hiv => ?_)
   all_goals
    simp only [List.getElem?_map, Option.map_eq_some_iff] at hiv
    obtain ⟨av', h2, rfl⟩ := hiv
   ·exact hx i av' h2
   ·exact ih _ _ (hr i av' h2).wkA (plainL_map_get hp h2)
  | v x hx => exact .v x hx
  | ptr n off b hb => simp [thawN, plain] at hp
  | elt cells off b o xs hc hr => exact (Rel.elt cells off b o xs hc hr).down hp rfl hout
  | nil => exact .nil
  | glob n => exact .glob n
  | iface t av x hr => exact (Rel.iface t av x hr).down hp rfl hout
  | clo fn first captured fs cs hn hm x y hx hy h1 h2 => exact (Rel.clo fn first captured fs cs hn hm x y hx hy h1 h2).down hp rfl hout
def isV : AV -> Bool
 | .v _ => true
 | .agg cells => cells.all fun | .v _ => true | _ => false
 | _ => false
def bareV : AV -> Bool
 | .tuple vs => vs.all isV
 | a => isV a
theorem isV_rel {σ σ' : Sg} {av : AV} {x : Value} (hv : isV av = true) (hr : Rel σ av x) : Rel σ' av x := by
 cases hr <;> simp only [isV] at hv <;> (try (cases hv; done))
 case v hx => exact .v _ hx
 case agg cells xs hn hc x hx hr =>
  refine .agg cells xs hn hc x hx fun i av hiv => ?_
  have := List.all_eq_true.1 hv av (List.mem_of_getElem? hiv)
  have h1 := hr i av hiv
  cases av <;> simp at this
  cases h1 with
  | v _ h => exact .v _ h
theorem bareV_rel {σ σ' : Sg} {av : AV} {x : Value} (hv : bareV av = true) (hr : Rel σ av x) : Rel σ' av x := by
 by_cases ht : ∃ vs, av = .tuple vs
 ·obtain ⟨vs, rfl⟩ := ht
  cases hr with
  | tuple vs xs hn x hx hr =>
   simp only [bareV] at hv
   exact .tuple vs xs hn x hx fun i av hiv => isV_rel (List.all_eq_true.1 hv av (List.mem_of_getElem? hiv)) (hr i av hiv)
 ·refine isV_rel ?_ hr
  cases av with
  | tuple vs => exact absurd ⟨vs, rfl⟩ ht
  | _ => exact hv
def PureC (P : Program) (gl : List (Nat × List AV)) (f : FuncId) (args : List AV) (R : AV -> Prop) : Prop :=
 Callable P f /\ ∀ (w : World) (outer : Nat -> Nat -> Prop) (cargs : Array Value), (∀ b o, outer b o -> b < w.heap.size) -> Globs w outer gl -> Rels (bare w outer) args cargs.toList ->
  Calls P f cargs w fun e w' => ∃ av x, e = .returned x /\ Past w w' /\ Rel (bare w' outer) av x /\ R av
def plainG (gl : List (Nat × List AV)) : Bool := gl.all fun p => plainL p.2
theorem pure_call {P : Program} {f : FuncId} {args args' : List AV} {R : AV -> Prop} {h : AHeap} {K : AV -> AHeap -> Prop} (hf : PureC P h.globs f args R) (hgl : plainG h.globs = true) (ha : args'.map wk = args) (hp : plainL args = true) (hk : ∀ av, R av -> K av h) : ACall P f args' h K := by
 refine ⟨hf.1, fun σ cargs hi hr => ?_⟩
 have hopen : ∀ b o, σ.open_ b o -> b < σ.w.heap.size := by
  rintro b o (ho | ⟨n, hn⟩ | ⟨id, e, he, hs⟩)
  ·exact (hi.outer b o ho).1
  ·exact hi.lt hn
  ·obtain ⟨v, hv⟩ := Option.isSome_iff_exists.1 (hi.bufat id e b o he hs).1
   exact cell_lt hv
 have hrels : Rels (bare σ.w σ.open_) args cargs.toList := by
  refine ⟨by rw [hr.1, ← ha]; simp, fun i av hav => ?_⟩
  have hav' := hav
  rw [← ha] at hav
  simp only [List.getElem?_map, Option.map_eq_some_iff] at hav
  obtain ⟨b, hb, rfl⟩ := hav
  obtain ⟨x, h1, h2⟩ := hr.2 i b hb
  exact ⟨x, h1, h2.wk.down (plainL_get hp i _ hav') rfl fun _ _ h => h⟩
 have hglobs : Globs σ.w σ.open_ h.globs := fun g cells hg => (hi.glob g cells hg).down (by simp only [plain]; exact List.all_eq_true.1 hgl _ hg) rfl fun _ _ h => h
 refine (hf.2 σ.w σ.open_ cargs hopen hglobs hrels).mono fun e w' hq => ?_
 obtain ⟨av, x, rfl, hpast, hrel, hR⟩ := hq
 exact ⟨{ σ with w := w' }, h, av, x, rfl, rfl, Le.world hpast, hi.world hpast, hrel.up (fun _ => rfl) (fun _ => rfl) rfl (fun b o ho => .inl ho), hk av hR⟩
theorem pure_call_v {P : Program} {f : FuncId} {args args' : List AV} {R : AV -> Prop} {h : AHeap} {K : AV -> AHeap -> Prop} (k : Nat) (hf : PureC P h.globs f args R) (hgl : plainG h.globs = true) (ha : args'.map (fun a => thawN k h (wk a)) = args) (hp : plainL args = true) (hv : ∀ av, R av -> bareV av = true) (hk : ∀ av, R av -> K av h) : ACall P f args' h K := by
 refine ⟨hf.1, fun σ cargs hi hr => ?_⟩
 have hrels : Rels (bare σ.w σ.outer) args cargs.toList := by
  refine ⟨by rw [hr.1, ← ha]; simp, fun i av hav => ?_⟩
  have hav' := hav
  rw [← ha] at hav
  simp only [List.getElem?_map, Option.map_eq_some_iff] at hav
  obtain ⟨b, hb, rfl⟩ := hav
  obtain ⟨x, h1, h2⟩ := hr.2 i b hb
  exact ⟨x, h1, Rel.thaw hi k _ _ h2.wk (plainL_get hp i _ hav')⟩
 have hglobs : Globs σ.w σ.outer h.globs := fun g cells hg => (hi.glob g cells hg).down (by simp only [plain]; exact List.all_eq_true.1 hgl _ hg) rfl fun _ _ h => .inl h
 refine (hf.2 σ.w σ.outer cargs (fun b o ho => (hi.outer b o ho).1) hglobs hrels).mono fun e w' hq => ?_
 obtain ⟨av, x, rfl, hpast, hrel, hR⟩ := hq
 exact ⟨{ σ with w := w' }, h, av, x, rfl, rfl, Le.world hpast, hi.world hpast, bareV_rel (hv av hR) hrel, hk av hR⟩
inductive ARes where
 | tmp (t : Nat)
 | cell (t : Nat) (n : Option Nat)
def compRes (P : Program) : List ResultVar -> Option (List ARes)
 | [] => some []
 | .tmp t :: r => (compRes P r).map fun l => .tmp t :: l
 | .cell a t :: r => (aggSize P t).bind fun n => (compRes P r).map fun l => .cell a n :: l
def outs (env : Env) (h : AHeap) : List ARes -> (List AV -> Prop) -> Prop
 | [], K => K []
 | .tmp t :: r, K => wv (get env t) fun av => outs env h r fun l => K (av :: l)
 | .cell t n :: r, K => wv (get env t) fun p => loaded h n p fun av => outs env h r fun l => K (av :: l)
def retv : List AV -> AV
 | [a] => a
 | l => .tuple l
def getFn (P : Program) (f : FuncId) : Option (Nat × ACode × List ARes) :=
 (P.funcs[f]?).bind fun fn => fn.body.bind fun c => (compCode P fn.ntmps c).bind fun ac => (compRes P fn.results.toList).bind fun rs => if fn.name == "runtime.NumGoroutine" then none else some (fn.ntmps, ac, rs)
theorem getFn_some {P : Program} {f : FuncId} {N : Nat} {ac : ACode} {rs : List ARes} (h : getFn P f = some (N, ac, rs)) :
  ∃ fn c, P.funcs[f]? = some fn /\ fn.body = some c /\ fn.ntmps = N /\ compCode P N c = some ac /\ compRes P fn.results.toList = some rs /\ (fn.name == "runtime.NumGoroutine") = false := by
 simp only [getFn, Option.bind_eq_some_iff] at h
 obtain ⟨fn, h1, c, h2, ac', h3, rs', h4, h5⟩ := h
 split at h5
 ·cases h5
 ·rename_i hn
  cases h5
  exact ⟨fn, c, h1, h2, rfl, h3, h4, by simpa using hn⟩
def envOf : Nat -> List AV -> Env
 | _, [] => []
 | k, a :: r => (k, a) :: envOf (k + 1) r
theorem get_envOf : ∀ (l : List AV) (k t : Nat) (av : AV), get (envOf k l) t = some av -> k <= t /\ l[t - k]? = some av
 | [], k, t, av, h => by simp [envOf, get] at h
 | a :: r, k, t, av, h => by
  simp only [envOf, get] at h
  split at h
  ·rename_i hk; subst hk; cases h; simp
  ·rename_i hk
   obtain ⟨h1, h2⟩ := get_envOf r (k + 1) t av h
   refine ⟨by omega, ?_⟩
   rw [show t - k = (t - (k + 1)) + 1 by omega]
   simpa using h2
def fnPost (rs : List ARes) (K : AV -> AHeap -> Prop) (e : Exit) (env : Env) (h : AHeap) : Prop :=
 match e with
 | .normal | .ret => outs env h rs fun l => K (retv l) h
 | _ => False
section
variable {P : Program} {σ : Sg} {h : AHeap} {env : Env} {N : Nat} {a : Act}
theorem outs_ok (hi : Inv h σ) {tmps : Array Value} (he : EnvRel σ env tmps) : ∀ {rl : List ResultVar} {rs : List ARes}, compRes P rl = some rs -> ∀ {K : List AV -> Prop}, outs env h rs K ->
  ∃ l xs, K l /\ xs.length = l.length /\ (∀ (i : Nat) (av : AV), l[i]? = some av -> ∃ x, xs[i]? = some x /\ Rel σ av x) /\
   (rl.mapM fun (r : ResultVar) => (match r with | .tmp t => pure (tmps.getD t undef) | .cell a t => do loadVar t (← asAddr (tmps.getD a undef)) : Sem Value)).run P σ.w = .ok xs σ.w
 | [], rs, hc, K, hk => by simp [compRes] at hc; subst hc; exact ⟨[], [], hk, rfl, fun i av h => by simp at h, rfl⟩
 | .tmp t :: r, rs, hc, K, hk => by
  simp only [compRes, Option.map_eq_some_iff] at hc
  obtain ⟨rs', hr, rfl⟩ := hc
  obtain ⟨av, hg, hk⟩ := wv_some hk
  obtain ⟨x, h1, h2⟩ := he t av hg
  obtain ⟨l, xs, q1, q2, q3, q4⟩ := outs_ok hi he hr hk
  refine ⟨av :: l, x :: xs, q1, by simp [q2], fun i b hb => ?_, ?_⟩
  ·cases i with
   | zero => simp at hb; subst hb; exact ⟨x, rfl, h2⟩
   | succ i => exact q3 i b (by simpa using hb)
  ·have : tmps.getD t undef = x := by simp [h1]
   simp only [List.mapM_cons, Sem.run_bind, Sem.run_pure, Result.andThen_ok, this]
   rw [q4]
   rfl
 | .cell a t :: r, rs, hc, K, hk => by
  simp only [compRes, Option.bind_eq_some_iff, Option.map_eq_some_iff] at hc
  obtain ⟨n, hn, rs', hr, rfl⟩ := hc
  obtain ⟨p, hg, hk⟩ := wv_some hk
  obtain ⟨px, h1, h2⟩ := he a p hg
  obtain ⟨av, y, hk, hrel, hload⟩ := load_ok (P := P) hi hn h2 hk
  obtain ⟨l, xs, q1, q2, q3, q4⟩ := outs_ok hi he hr hk
  refine ⟨av :: l, y :: xs, q1, by simp [q2], fun i b hb => ?_, ?_⟩
  ·cases i with
   | zero => simp at hb; subst hb; exact ⟨y, rfl, hrel⟩
   | succ i => exact q3 i b (by simpa using hb)
  ·have hpx : tmps.getD a undef = px := by simp [h1]
   have hp : ∃ ad, px = .pointer (some ad) := by
    cases h2 <;> first | exact ⟨_, rfl⟩ | (simp [loaded, place] at hk) | skip
    all_goals (rename_i hk0; simp [loaded, place] at hk0)
   obtain ⟨ad, rfl⟩ := hp
   have hl2 : (loadVar t ad).run P σ.w = .ok y σ.w := by simpa [Instr.loadAt, Instr.sureAddr] using hload
   have ha2 : (asAddr (.pointer (some ad))).run P σ.w = .ok ad σ.w := rfl
   simp only [List.mapM_cons, Sem.run_bind, hpx, ha2, Sem.run_pure, Result.andThen_ok, hl2]
   rw [q4]
   rfl
theorem fn_calls {f : FuncId} {ac : ACode} {rs : List ARes} (hf : getFn P f = some (N, ac, rs)) {args : List AV} {K : AV -> AHeap -> Prop} (hn : args.length <= N)
  (hbody : asem P N ac (fnPost rs K) (envOf 0 args) h) : ∀ (σ : Sg) (cargs : Array Value), Inv h σ -> Rels σ args cargs.toList ->
  Calls P f cargs σ.w fun e w' => ∃ σ' h' av x, e = .returned x /\ σ'.w = w' /\ Le σ σ' /\ Inv h' σ' /\ Rel σ' av x /\ K av h' := by
 intro σ cargs hi hr
 obtain ⟨fn, c, h1, h2, h3, h4, h5, h6⟩ := getFn_some hf
 have hsz : cargs.size = args.length := by simpa using hr.1
 have hst : St σ h (envOf 0 args) N { tmps := cargs ++ Array.replicate (fn.ntmps - cargs.size) undef, defers := [] } := by
  refine ⟨hi, fun t av hg => ?_, by simp; omega, rfl⟩
  obtain ⟨_, g2⟩ := get_envOf args 0 t av hg
  obtain ⟨x, q1, q2⟩ := hr.2 _ av g2
  refine ⟨x, ?_, q2⟩
  simp only [Nat.sub_zero] at q1
  have hlt : t < cargs.size := by
   have := (List.getElem?_eq_some_iff.1 q1).1
   simpa using this
  simp only [Array.getElem?_toList] at q1
  simp [Array.getElem?_append_left hlt, q1]
 refine calls_of_wp h1 h2 (wp_mono (hbody c h4 σ _ hst) ?_)
 intro e a' w' hh
 obtain ⟨g1, σ2, h2', env2, rfl, q2, q3, q4⟩ := hh
 have fin : (outs env2 h2' rs fun l => K (retv l) h2') -> a'.defers = [] /\ ∃ v, (results fn a'.tmps).run P σ2.w = .ok v σ2.w /\ ∃ σ' h' av x, Ending.returned v = .returned x /\ σ'.w = σ2.w /\ Le σ σ' /\ Inv h' σ' /\ Rel σ' av x /\ K av h' := by
  intro ho
  obtain ⟨l, xs, k1, k2, k3, k4⟩ := outs_ok (P := P) q3.inv q3.env h5 ho
  have hrun : (fn.results.mapM fun (r : ResultVar) => (match r with | .tmp t => pure (a'.tmps.getD t undef) | .cell a t => do loadVar t (← asAddr (a'.tmps.getD a undef)) : Sem Value)).run P σ2.w = .ok xs.toArray σ2.w := by
   rw [Array.mapM_eq_mapM_toList]
   simp only [Sem.run_map, k4, Result.andThen_ok]
  have hres : (results fn a'.tmps).run P σ2.w = .ok (if hx : xs.toArray.size = 1 then xs.toArray[0] else .tuple xs.toArray) σ2.w := by
   unfold results
   rw [Sem.run_bind]
   have := hrun
   refine Eq.trans (congrArg (fun r => Result.andThen r _) this) ?_
   simp only [Result.andThen_ok, Sem.run_pure]
  refine ⟨q3.defers, _, hres, σ2, h2', retv l, _, rfl, rfl, q2, q3.inv, ?_, k1⟩
  match l, xs, k2, k3 with
  | [b], [y], _, k3 =>
   obtain ⟨x, e1, e2⟩ := k3 0 b rfl
   simp at e1
   subst e1
   simpa [retv] using e2
  | [], [], _, _ => exact Rel.tuple_mk rfl fun i av hi => by simp at hi
  | b1 :: b2 :: l, y1 :: y2 :: xs, k2, k3 =>
   rw [dif_neg (by simp)]
   exact Rel.tuple_mk (by simpa using k2) fun i av hi => by
    obtain ⟨x, e1, e2⟩ := k3 i av hi
    exact ⟨x, by simpa using e1, e2⟩
 cases e with
 | normal => exact fin q4
 | ret => exact fin q4
 | panic _ => exact g1.elim
 | outgrown => exact g1.elim
 | exit _ => exact q4.elim
 | goto _ => exact q4.elim
theorem callable_of {f : FuncId} {ac : ACode} {rs : List ARes} (hf : getFn P f = some (N, ac, rs)) : Callable P f := by
 obtain ⟨fn, c, h1, h2, _, _, _, h6⟩ := getFn_some hf
 exact ⟨fn, h1, by rw [h2]; rfl, h6⟩
theorem call_of {f : FuncId} {ac : ACode} {rs : List ARes} (hf : getFn P f = some (N, ac, rs)) {args : List AV} {K : AV -> AHeap -> Prop} (hn : args.length <= N)
  (hbody : asem P N ac (fnPost rs K) (envOf 0 args) h) : ACall P f args h K := ⟨callable_of hf, fn_calls hf hn hbody⟩
theorem pure_of {gl : List (Nat × List AV)} {f : FuncId} {ac : ACode} {rs : List ARes} (hf : getFn P f = some (N, ac, rs)) {args : List AV} {R : AV -> Prop} (hn : args.length <= N)
  (hbody : asem P N ac (fnPost rs fun av _ => plain (wk av) = true /\ R (wk av)) (envOf 0 args) ⟨[], [], gl⟩) : PureC P gl f args R := by
 refine ⟨callable_of hf, fun w outer cargs ho hg hr => ?_⟩
 refine (fn_calls hf hn hbody (bare w outer) cargs (bare_inv ho hg) hr).mono fun e w' hq => ?_
 obtain ⟨σ', h', av, x, rfl, rfl, g2, g3, g4, g5, g6⟩ := hq
 refine ⟨wk av, x, rfl, ⟨g2.size, fun b hb => g2.whole b hb (fun o => bare_own w outer b o), g2.os, g2.tape, g2.output⟩, ?_, g6⟩
 refine g4.wk.down g5 rfl fun b o hbo => .inl ?_
 rw [g2.outer]; exact hbo
theorem pure_of_thaw {gl : List (Nat × List AV)} {f : FuncId} {ac : ACode} {rs : List ARes} (k : Nat) (hf : getFn P f = some (N, ac, rs)) {args : List AV} {R : AV -> Prop} (hn : args.length <= N)
  (hbody : asem P N ac (fnPost rs fun av h => plain (thawN k h (wk av)) = true /\ R (thawN k h (wk av))) (envOf 0 args) ⟨[], [], gl⟩) : PureC P gl f args R := by
 refine ⟨callable_of hf, fun w outer cargs ho hg hr => ?_⟩
 refine (fn_calls hf hn hbody (bare w outer) cargs (bare_inv ho hg) hr).mono fun e w' hq => ?_
 obtain ⟨σ', h', av, x, rfl, rfl, g2, g3, g4, g5, g6⟩ := hq
 refine ⟨_, x, rfl, ⟨g2.size, fun b hb => g2.whole b hb (fun o => bare_own w outer b o), g2.os, g2.tape, g2.output⟩, ?_, g6⟩
 have := Rel.thaw g3 k _ _ g4.wk g5
 rw [g2.outer] at this
 exact this
theorem asem_cond_b {c : AOpd} {x y : ACode} {Q : Exit -> Env -> AHeap -> Prop} {b : Bool} (hc : c.ev env = some (.v (.bool b))) (h1 : b = true -> asem P N x Q env h) (h2 : b = false -> asem P N y Q env h) : asem P N (.cond c x y) Q env h := by
 refine asem_cond ?_
 rw [hc]
 exact ⟨h1, h2⟩
end
structure A (P : Program) (o : AOp) (env : Env) (h : AHeap) (K : AV -> AHeap -> Prop) : Prop where
 out : aop P o env h K
structure V (P : Program) (l : List AOper) (env : Env) (h : AHeap) (K : Env -> AHeap -> Prop) : Prop where
 out : vops P l env h K
structure C (P : Program) (N : Nat) (ac : ACode) (Q : Exit -> Env -> AHeap -> Prop) (env : Env) (h : AHeap) : Prop where
 out : asem P N ac Q env h
section
variable {P : Program} {h : AHeap} {env : Env} {N : Nat} {K : AV -> AHeap -> Prop} {x y z : AOpd} {a b c : AV}
theorem a_call {g : FuncId} {f : AOpd} {args : List AOpd} {l : List AV} (hf : f.ev env = some (.clo (.func g) [] [])) (ha : evs env args = some l) (hk : ACall P g l h K) : A P (.call f args) env h K := ⟨by
 simp only [aop, hf, ha, wv, callOn, List.nil_append, List.append_nil]; exact hk⟩
theorem a_callv {g : FuncId} {f : AOpd} {args : List AOpd} {l r s : List AV} (hf : f.ev env = some (.clo (.func g) r s)) (ha : evs env args = some l) (hk : ACall P g (r ++ l ++ s) h K) : A P (.call f args) env h K := ⟨by
 simp only [aop, hf, ha, wv, callOn]; exact hk⟩
theorem a_minmax {mx : Bool} {args : List AOpd} {l : List AV} {v : Value} (ha : evs env args = some l) (hv : mmx mx l = some v) (hk : K (.v v) h) : A P (.minmax mx args) env h K := ⟨by simp only [aop, ha, hv, picked]; exact hk⟩
end
section
variable {P : Program} {h : AHeap} {env : Env} {N : Nat}
variable {Q : Exit -> Env -> AHeap -> Prop}
theorem c_region {ops : List AOper} (hv : V P ops env h fun env' h' => Q .normal env' h') : C P N (.region ops) Q env h := ⟨asem_region hv.out⟩
theorem c_skip (hq : Q .normal env h) : C P N .skip Q env h := ⟨asem_skip hq⟩
theorem c_exit {id : Nat} (hv : Q (.exit id) env h) : C P N (.exit id) Q env h := ⟨asem_exit hv⟩
theorem c_ret (hv : Q .ret env h) : C P N .ret Q env h := ⟨asem_ret hv⟩
theorem c_label {l : Nat} (hq : Q .normal env h) : C P N (.label l) Q env h := ⟨asem_label hq⟩
end
def cbin (op : BinOp) (x y : Value) : Option Value :=
 match op, x, y with
 | .eql, .string a, .string b => some (.bool (a.data.toList == b.data.toList))
 | .neq, .string a, .string b => some (.bool (!(a.data.toList == b.data.toList)))
 | .lss, .string a, .string b => some (.bool (Op.bytesLess a.data.toList b.data.toList))
 | .add, .string a, .string b => if a.data.toList.length + b.data.toList.length <= 9223372036854775807 then some (.string ⟨⟨a.data.toList ++ b.data.toList⟩⟩) else none
 | .quo, .int k a, .int k' b => if k = k' /\ b ≠ 0 then some (.int k (k.wrap (a.tdiv b))) else none
 | .rem, .int k a, .int k' b => if k = k' /\ b ≠ 0 then some (.int k (a.tmod b)) else none
 | .shl, .int k a, .int _ b => if 0 <= b then some (.int k (k.wrap (a * 2 ^ min b.toNat k.bits))) else none
 | .shr, .int k a, .int _ b => if 0 <= b then some (.int k (a.fdiv (2 ^ min b.toNat k.bits))) else none
 | .add, .int k a, .int k' b => if k = k' then some (.int k (k.wrap (a + b))) else none
 | .sub, .int k a, .int k' b => if k = k' then some (.int k (k.wrap (a - b))) else none
 | .mul, .int k a, .int k' b => if k = k' then some (.int k (k.wrap (a * b))) else none
 | .and, .int k a, .int k' b => if k = k' then some (.int k (bitsOf .and k a b)) else none
 | .or, .int k a, .int k' b => if k = k' then some (.int k (bitsOf .or k a b)) else none
 | .xor, .int k a, .int k' b => if k = k' then some (.int k (bitsOf .xor k a b)) else none
 | .andNot, .int k a, .int k' b => if k = k' then some (.int k (bitsOf .andNot k a b)) else none
 | .eql, .int k a, .int k' b => if k = k' then some (.bool (a == b)) else none
 | .neq, .int k a, .int k' b => if k = k' then some (.bool (a != b)) else none
 | .lss, .int k a, .int k' b => if k = k' then some (.bool (decide (a < b))) else none
 | .leq, .int k a, .int k' b => if k = k' then some (.bool (decide (a <= b))) else none
 | .gtr, .int k a, .int k' b => if k = k' then some (.bool (decide (b < a))) else none
 | .geq, .int k a, .int k' b => if k = k' then some (.bool (decide (b <= a))) else none
 | _, _, _ => none
theorem cat_list (a b : ByteArray) : a ++ b = ⟨⟨a.data.toList ++ b.data.toList⟩⟩ := by
 apply ByteArray.ext
 apply Array.ext'
 rw [ByteArray.data_append, Array.toList_append]
theorem cbin_ok {op : BinOp} {x y r : Value} (h : cbin op x y = some r) : ∃ c : Prop, c /\ pbin op x y = some (c, r) := by
  unfold cbin at h
  split at h
  · cases h; exact ⟨True, trivial, by simp only [pbin, ByteArray.toList_eq]⟩
  · cases h; exact ⟨True, trivial, by simp only [pbin, ByteArray.toList_eq]⟩
  · cases h; exact ⟨True, trivial, by simp only [pbin, ByteArray.toList_eq]⟩
  · split at h
    · rename_i a b hc
      cases h
      refine ⟨_, hc, ?_⟩
      simp only [pbin]
      rw [cat_list]
      rfl
    · cases h
  · split at h
    · rename_i hc; cases h; exact ⟨_, hc.2, by simp only [pbin]; rw [if_pos hc.1]⟩
    · cases h
  · split at h
    · rename_i hc; cases h; exact ⟨_, hc.2, by simp only [pbin]; rw [if_pos hc.1]⟩
    · cases h
  · split at h
    · rename_i hc; cases h; exact ⟨_, hc, by simp only [pbin]⟩
    · cases h
  · split at h
    · rename_i hc; cases h; exact ⟨_, hc, by simp only [pbin]⟩
    · cases h
  all_goals first
    | (cases h; done)
    | (split at h
       · rename_i hc; cases h; exact ⟨True, trivial, by simp only [pbin]; rw [if_pos hc]⟩
       · cases h)
def loadedF (h : AHeap) (n : Option Nat) (p : AV) : Option AV :=
 (place h p).bind fun q => match n with
  | none => q.1[q.2]?
  | some n => if q.2 + n <= q.1.length then some (.agg ((q.1.drop q.2).take n)) else none
theorem loadedF_ok {h : AHeap} {n : Option Nat} {p a : AV} {K : AV -> Prop} (he : loadedF h n p = some a) (hk : K a) : loaded h n p K := by
 simp only [loadedF, Option.bind_eq_some_iff] at he
 obtain ⟨⟨cells, off⟩, h1, h2⟩ := he
 simp only [loaded, h1]
 cases n with
 | none => simp only at h2 ⊢; simp only [h2]; exact hk
 | some n =>
  simp only at h2 ⊢
  split at h2
  ·rename_i hc; cases h2; exact ⟨hc, hk⟩
  ·cases h2
def storedF (h : AHeap) (size : Nat) (p x : AV) : Option AHeap :=
 match p with
 | .ptr n off => match h.blks[n]? with
  | some (some cells) => if noIt cells = true /\ x.cells.length = size /\ off + size <= cells.length /\ x.isTuple = false then some ⟨h.blks.set n (some (splice cells off x.cells)), h.bufs, h.globs⟩ else none
  | _ => none
 | _ => none
theorem storedF_ok {h h' : AHeap} {n : Nat} {p x : AV} {K : AHeap -> Prop} (he : storedF h n p x = some h') (hk : K h') : stored h n p x K := by
 unfold storedF at he
 unfold stored
 split at he
 ·split at he
  ·rename_i hb
   simp only [hb]
   split at he
   ·rename_i hc; cases he; exact ⟨hc, hk⟩
   ·cases he
  ·cases he
 ·cases he
def binnedF (op : BinOp) (x y : AV) : Option AV :=
 match x, y with
 | .v a, .v b => (cbin op a b).map .v
 | _, _ => none
theorem binnedF_ok {op : BinOp} {x y a : AV} {K : AV -> Prop} (he : binnedF op x y = some a) (hk : K a) : binned op x y K := by
 unfold binnedF at he
 split at he
 ·simp only [Option.map_eq_some_iff] at he
  obtain ⟨r, h1, rfl⟩ := he
  obtain ⟨c, hc, hp⟩ := cbin_ok h1
  simp only [binned, hp]
  exact ⟨hc, hk⟩
 ·cases he
def eqF (c : EqK) (x y : AV) : Option Bool :=
 match c, x, y with
 | .bool, .v (.bool a), .v (.bool b) => some (a == b)
 | .slice, .nil, .nil => some true
 | .slice, .sl (_ :: _) _, .nil => some false
 | .slice, .nil, .sl (_ :: _) _ => some false
 | .slice, .row _ _ _ _ _, .nil => some false
 | .slice, .nil, .row _ _ _ _ _ => some false
 | .func, .clo _ _ _, .v .nilFunc => some false
 | .func, .v .nilFunc, .clo _ _ _ => some false
 | .func, .v .nilFunc, .v .nilFunc => some true
 | .ptr, .ptr _ _, .v (.pointer none) => some false
 | .ptr, .elt _ _, .v (.pointer none) => some false
 | .ptr, .v (.pointer none), .v (.pointer none) => some true
 | .iface, .iface _ _, .v .nilIface => some false
 | .iface, .v .nilIface, .iface _ _ => some false
 | .iface, .v .nilIface, .v .nilIface => some true
 | .flat ks, .agg xs, .agg ys => flatEq ks xs ys
 | _, _, _ => none
theorem eqF_ok {c : EqK} {x y : AV} {b : Bool} {K : Bool -> Prop} (he : eqF c x y = some b) (hk : K b) : eqOf c x y K := by
 unfold eqF at he
 split at he <;> first | (cases he; done) | (cases he; exact hk) | (cases he; exact .inl ⟨by simp, hk⟩) | (simp only [eqOf, he, flatOn]; exact hk)
def unF (op : UnOp) (x : AV) : Option AV :=
 match op, x with
 | .not, .v (.bool b) => some (.v (.bool (!b)))
 | .neg, .v (.int k n) => some (.v (.int k (k.wrap (0 - n))))
 | .xor, .v (.int k n) => some (.v (.int k (bitsOf .xor k (if k.signed then -1 else k.max) n)))
 | _, _ => none
theorem unF_ok {op : UnOp} {x a : AV} {K : AV -> Prop} (he : unF op x = some a) (hk : K a) : unned op x K := by
 unfold unF at he
 split at he <;> first | (cases he; done) | (cases he; exact hk)
def elsBytes : List (List AV) -> Option (List UInt8)
 | [] => some []
 | [.v (.int .u8 n)] :: r => if 0 <= n /\ n < 256 then (elsBytes r).map fun l => UInt8.ofNat n.toNat :: l else none
 | _ => none
theorem elsBytes_ok : ∀ {els : List (List AV)} {l : List UInt8}, elsBytes els = some l -> els = byteEls l
 | [], l, h => by cases h; rfl
 | el :: r, l, h => by
  unfold elsBytes at h
  split at h
  ·rename_i heq; cases heq
  ·rename_i n r' heq
   cases heq
   split at h
   ·rename_i hn
    simp only [Option.map_eq_some_iff] at h
    obtain ⟨l', h1, rfl⟩ := h
    rw [elsBytes_ok h1]
    have : ((UInt8.ofNat n.toNat).toNat : Int) = n := by
     rw [UInt8.toNat_ofNat']; omega
    simp only [byteEls, List.map_cons, this]
   ·cases h
  ·cases h
def convF (c : CK) (x : AV) : Option AV :=
 match c, x with
 | .num k, .v (.int _ n) => some (.v (.int k (k.wrap n)))
 | .chr, .v (.int _ n) => some (.v (.string (Utf8.encode n)))
 | .same, .v (.string s) => some (.v (.string s))
 | .str, .nil => some (.v (.string ⟨⟨[]⟩⟩))
 | .str, .sl els _ => (elsBytes els).map fun l => .v (.string ⟨⟨l⟩⟩)
 | _, _ => none
theorem convF_ok {c : CK} {x a : AV} {K : AV -> Prop} (he : convF c x = some a) (hk : K a) : conved c x K := by
 unfold convF at he
 split at he
 ·cases he; exact hk
 ·cases he; exact hk
 ·cases he; exact hk
 ·cases he; exact hk
 ·simp only [Option.map_eq_some_iff] at he
  obtain ⟨l, h1, rfl⟩ := he
  exact ⟨l, elsBytes_ok h1, hk⟩
 ·cases he
def cutS (p : AV) (lo hi : Option AV) : Option AV :=
 match p with
 | .v (.string s) => (boundOf 0 lo).bind fun l => (boundOf s.data.toList.length hi).bind fun u =>
  if 0 <= l /\ l <= u /\ u <= (s.data.toList.length : Int) then some (.v (.string ⟨⟨(s.data.toList.take u.toNat).drop l.toNat⟩⟩)) else none
 | _ => none
theorem cut_same (s : ByteArray) (l u : Nat) : s.extract l u = ⟨⟨(s.data.toList.take u).drop l⟩⟩ := by
 apply ByteArray.ext
 apply Array.ext'
 rw [ByteArray.data_extract]
 simp [List.extract, List.drop_take]
theorem cutS_ok {p a : AV} {lo hi : Option AV} {K : AV -> Prop} (he : cutS p lo hi = some a) (hk : K a) : slicedS p lo hi K := by
 unfold cutS at he
 split at he
 ·rename_i s
  simp only [Option.bind_eq_some_iff] at he
  obtain ⟨l, h1, u, h2, h3⟩ := he
  split at h3
  ·rename_i hc
   cases h3
   have hs : s.data.toList.length = s.size := Array.length_toList
   rw [hs] at h2 hc
   simp only [slicedS, h1, h2]
   rw [cut_same]
   exact ⟨hc, hk⟩
  ·cases h3
 ·cases he
def sized (size : Nat) : List (List AV) -> Bool
 | [] => true
 | el :: r => decide (el.length = size) && sized size r
theorem sized_ok {size : Nat} : ∀ {l : List (List AV)}, sized size l = true -> ∀ el ∈ l, el.length = size
 | [], _, el, h => by simp at h
 | a :: r, hs, el, h => by
  simp only [sized, Bool.and_eq_true, decide_eq_true_eq] at hs
  rcases List.mem_cons.1 h with rfl | h
  ·exact hs.1
  ·exact sized_ok hs.2 el h
def cutV (size : Nat) (p : AV) (lo hi mx : Option AV) : Option AV :=
 match p, mx with
 | .nil, _ => (boundOf 0 lo).bind fun l => (boundOf 0 hi).bind fun u => (boundOf 0 mx).bind fun m => if l = 0 /\ u = 0 /\ m = 0 then some .nil else none
 | .sl els tok, none => (boundOf 0 lo).bind fun l => (boundOf els.length hi).bind fun u =>
  if (0 <= l /\ l <= u /\ u <= (els.length : Int)) /\ sized size els = true then some (.sl ((els.take u.toNat).drop l.toNat) (match lo, hi with | none, none => tok | _, _ => .no)) else none
 | .sl els tok, some (.v (.int _ m)) => (boundOf 0 lo).bind fun l => (boundOf els.length hi).bind fun u =>
  if (0 <= l /\ l <= u /\ u <= (els.length : Int)) /\ sized size els = true /\ m = u /\ hi.isSome = true then some (.sl ((els.take u.toNat).drop l.toNat) .full) else none
 | .row n off sz len cap, none => (boundOf 0 lo).bind fun l => (boundOf len hi).bind fun u =>
  if (0 <= l /\ l <= u /\ u <= (len : Int)) /\ sz = size then (if l < (len : Int) then some (.row n (off + l.toNat * size) size (u.toNat - l.toNat) (cap - l.toNat)) else some (.sl [] .no)) else none
 | .row n off sz len cap, some (.v (.int _ m)) => (boundOf 0 lo).bind fun l => (boundOf len hi).bind fun u =>
  if (0 <= l /\ l <= u /\ u <= (len : Int)) /\ sz = size /\ m = u /\ hi.isSome = true then (if l < u then some (.row n (off + l.toNat * size) size (u.toNat - l.toNat) (u.toNat - l.toNat)) else some (.sl [] .full)) else none
 | _, _ => none
theorem cutV_ok {size : Nat} {p a : AV} {lo hi mx : Option AV} {K : AV -> Prop} (he : cutV size p lo hi mx = some a) (hk : K a) : slicedV size p lo hi mx K := by
 unfold cutV at he
 split at he
 ·simp only [Option.bind_eq_some_iff] at he
  obtain ⟨l, h1, u, h2, m, h3, h4⟩ := he
  split at h4
  ·rename_i hc; cases h4; simp only [slicedV, h1, h2, h3]; exact ⟨hc, hk⟩
  ·cases h4
 ·simp only [Option.bind_eq_some_iff] at he
  obtain ⟨l, h1, u, h2, h4⟩ := he
  split at h4
  ·rename_i hc; cases h4; simp only [slicedV, h1, h2]; exact ⟨hc.1, sized_ok hc.2, hk⟩
  ·cases h4
 ·simp only [Option.bind_eq_some_iff] at he
  obtain ⟨l, h1, u, h2, h4⟩ := he
  split at h4
  ·rename_i hc; cases h4; simp only [slicedV, h1, h2]
   refine ⟨hc.1, sized_ok hc.2.1, hc.2.2.1, ?_, hk⟩
   intro hn; rw [hn] at hc; exact absurd hc.2.2.2 (by simp)
  ·cases h4
 ·simp only [Option.bind_eq_some_iff] at he
  obtain ⟨l, h1, u, h2, h4⟩ := he
  split at h4
  ·rename_i hc
   simp only [slicedV, h1, h2]
   refine ⟨hc.1, hc.2, ?_⟩
   split at h4
   ·rename_i hl; cases h4; rw [if_pos hl]; exact hk
   ·rename_i hl; cases h4; rw [if_neg hl]; exact hk
  ·cases h4
 ·simp only [Option.bind_eq_some_iff] at he
  obtain ⟨l, h1, u, h2, h4⟩ := he
  split at h4
  ·rename_i hc
   simp only [slicedV, h1, h2]
   refine ⟨hc.1, hc.2.1, ⟨hc.2.2.1, fun hn => by rw [hn] at hc; exact absurd hc.2.2.2 (by simp)⟩, ?_⟩
   split at h4
   ·rename_i hl; cases h4; rw [if_pos hl]; exact hk
   ·rename_i hl; cases h4; rw [if_neg hl]; exact hk
  ·cases h4
 ·cases he
def moveF (n : Nat) (p : AV) : Option AV :=
 match p with
 | .ptr k off => some (.ptr k (off + n))
 | .elt cells off => some (.elt cells (off + n))
 | _ => none
theorem moveF_ok {n : Nat} {p a : AV} {K : AV -> Prop} (he : moveF n p = some a) (hk : K a) : moved n p K := by
 unfold moveF at he
 split at he <;> first | (cases he; done) | (cases he; exact hk)
def partF (n : Option Nat) (off : Nat) (x : AV) : Option AV :=
 match x, n with
 | .agg cells, none => cells[off]?
 | .agg cells, some n => if off + n <= cells.length then some (.agg ((cells.drop off).take n)) else none
 | _, _ => none
theorem partF_ok {n : Option Nat} {off : Nat} {x a : AV} {K : AV -> Prop} (he : partF n off x = some a) (hk : K a) : parted n off x K := by
 unfold partF at he
 split at he
 ·simp only [parted, he]; exact hk
 ·split at he
  ·rename_i hc; cases he; exact ⟨hc, hk⟩
  ·cases he
 ·cases he
def idxSF (p i : AV) : Option AV :=
 match p, i with
 | .v (.string s), .v (.int _ n) => if 0 <= n /\ n < (s.data.toList.length : Int) then some (.v (.int .u8 (byteAt s n.toNat))) else none
 | _, _ => none
theorem idxSF_ok {p i a : AV} {K : AV -> Prop} (he : idxSF p i = some a) (hk : K a) : indexedS p i K := by
 unfold idxSF at he
 split at he
 ·rename_i s _ n
  split at he
  ·rename_i hc
   cases he
   have hs : s.data.toList.length = s.size := Array.length_toList
   rw [hs] at hc
   exact ⟨hc, hk⟩
  ·cases he
 ·cases he
def idxVF (len size : Nat) (n : Option Nat) (p i : AV) : Option AV :=
 match i with
 | .v (.int _ j) => if 0 <= j /\ j < (len : Int) then partF n (j.toNat * size) p else none
 | _ => none
theorem idxVF_ok {len size : Nat} {n : Option Nat} {p i a : AV} {K : AV -> Prop} (he : idxVF len size n p i = some a) (hk : K a) : indexedV len size n p i K := by
 unfold idxVF at he
 split at he
 ·split at he
  ·rename_i hc; exact ⟨hc, partF_ok he hk⟩
  ·cases he
 ·cases he
def idxF (size : Nat) (p i : AV) : Option AV :=
 match p, i with
 | .sl els _, .v (.int _ n) => if (0 <= n /\ n < (els.length : Int)) /\ (els.getD n.toNat []).length = size then some (.elt (els.getD n.toNat []) 0) else none
 | .row r off sz len _, .v (.int _ n) => if (0 <= n /\ n < (len : Int)) /\ sz = size then some (.ptr r (off + n.toNat * size)) else none
 | _, _ => none
theorem idxF_ok {size : Nat} {p i a : AV} {K : AV -> Prop} (he : idxF size p i = some a) (hk : K a) : indexed size p i K := by
 unfold idxF at he
 split at he
 ·split at he
  ·rename_i hc; cases he; exact ⟨hc.1, hc.2, hk⟩
  ·cases he
 ·split at he
  ·rename_i hc; cases he; exact ⟨hc.1, hc.2, hk⟩
  ·cases he
 ·cases he
def idxAF (len size : Nat) (p i : AV) : Option AV :=
 match i with
 | .v (.int _ n) => if 0 <= n /\ n < (len : Int) then moveF (n.toNat * size) p else none
 | _ => none
theorem idxAF_ok {len size : Nat} {p i a : AV} {K : AV -> Prop} (he : idxAF len size p i = some a) (hk : K a) : indexedA len size p i K := by
 unfold idxAF at he
 split at he
 ·split at he
  ·rename_i hc; exact ⟨hc, moveF_ok he hk⟩
  ·cases he
 ·cases he
def assertF (t : TypeId) (ok : Bool) (zero x : AV) : Option AV :=
 match x, ok with
 | .iface u y, true => some (if u = t then .tuple [y, .v (.bool true)] else .tuple [zero, .v (.bool false)])
 | .iface u y, false => if u = t then some y else none
 | .v .nilIface, true => some (.tuple [zero, .v (.bool false)])
 | _, _ => none
theorem assertF_ok {t : TypeId} {ok : Bool} {zero x a : AV} {K : AV -> Prop} (he : assertF t ok zero x = some a) (hk : K a) : asserted t ok zero x K := by
 unfold assertF at he
 split at he
 ·cases he
  simp only [asserted]
  split
  ·rename_i hu; rw [if_pos hu] at hk; exact hk
  ·rename_i hu; rw [if_neg hu] at hk; exact ⟨by simp, hk⟩
 ·split at he
  ·rename_i hu; cases he; simp only [asserted]; rw [if_pos hu]; exact hk
  ·cases he
 ·cases he; exact ⟨rfl, hk⟩
 ·cases he
def extractF (i : Nat) (x : AV) : Option AV :=
 match x with
 | .tuple vs => vs[i]?
 | _ => none
theorem extractF_ok {i : Nat} {x a : AV} {K : AV -> Prop} (he : extractF i x = some a) (hk : K a) : extracted i x K := by
 unfold extractF at he
 split at he
 ·simp only [extracted, he]; exact hk
 ·cases he
def lenF (str : Bool) (x : AV) : Option AV :=
 match str, x with
 | true, .v (.string s) => some (.v (.int .i64 s.data.toList.length))
 | false, .nil => some (.v (.int .i64 0))
 | false, .sl els _ => some (.v (.int .i64 els.length))
 | false, .row _ _ _ len _ => some (.v (.int .i64 len))
 | _, _ => none
theorem lenF_ok {s : Bool} {x a : AV} {K : AV -> Prop} (he : lenF s x = some a) (hk : K a) : lenned s x K := by
 unfold lenF at he
 split at he
 ·cases he
  rename_i s
  have hs : s.data.toList.length = s.size := Array.length_toList
  rw [hs] at hk; exact hk
 ·cases he; exact hk
 ·cases he; exact hk
 ·cases he; exact hk
 ·cases he
def appF (h : AHeap) (size bytes : Nat) (x y : AV) : Option (AV × AHeap) :=
 (elsH h size y).bind fun ys => if sized size ys = true then
  match x with
  | .nil => if ys.length * bytes <= 140737488355328 then some (.sl ys (.own h.bufs.length), ⟨h.blks, h.bufs ++ [(ys.length, size)], h.globs⟩) else none
  | .sl els .full => if sized size els = true /\ (els.length + ys.length) * bytes <= 140737488355328 then some (.sl (els ++ ys) (.own h.bufs.length), ⟨h.blks, h.bufs ++ [(els.length + ys.length, size)], h.globs⟩) else none
  | .sl els (.own id) => if sized size els = true /\ h.bufs[id]? = some (els.length, size) /\ (els.length + ys.length) * bytes <= 140737488355328 then some (.sl (els ++ ys) (.own id), ⟨h.blks, h.bufs.set id (els.length + ys.length, size), h.globs⟩) else none
  | .row n off sz len cap => if sz = size /\ (len + ys.length) * bytes <= 140737488355328 then match h.blks[n]? with
    | some (some cells) => if noIt cells = true /\ off + len * size <= cells.length then
      if len + ys.length <= cap then some (.row n off size (len + ys.length) cap, ⟨h.blks.set n (some (cells.take (off + len * size) ++ ys.flatten ++ cells.drop (off + len * size + ys.flatten.length))), h.bufs, h.globs⟩)
      else if off = 0 /\ cells.length = len * size then some (.row h.blks.length 0 size (len + ys.length) (len + ys.length), ⟨h.blks.set n (some []) ++ [some (cells ++ ys.flatten)], h.bufs, h.globs⟩) else none
     else none
    | _ => none
   else none
  | _ => none
 else none
theorem appF_ok {h h' : AHeap} {size bytes : Nat} {x y a : AV} {K : AV -> AHeap -> Prop} (he : appF h size bytes x y = some (a, h')) (hk : K a h') : appended h size bytes x y K := by
 simp only [appF, Option.bind_eq_some_iff] at he
 obtain ⟨ys, h1, h2⟩ := he
 simp only [appended, h1]
 split at h2
 ·rename_i hs
  refine ⟨sized_ok hs, ?_⟩
  split at h2
  ·split at h2
   ·rename_i hc; cases h2; exact ⟨hc, hk⟩
   ·cases h2
  ·split at h2
   ·rename_i hc; cases h2; exact ⟨sized_ok hc.1, hc.2, hk⟩
   ·cases h2
  ·split at h2
   ·rename_i hc; cases h2; exact ⟨sized_ok hc.1, hc.2.1, hc.2.2, hk⟩
   ·cases h2
  ·split at h2
   ·rename_i hc
    refine ⟨hc.1, hc.2, ?_⟩
    split at h2
    ·rename_i hb
     simp only [hb]
     split at h2
     ·rename_i hin
      refine ⟨hin, ?_⟩
      split at h2
      ·rename_i hl; cases h2; rw [if_pos hl]; exact hk
      ·rename_i hl
       rw [if_neg hl]
       split at h2
       ·rename_i hw; cases h2; exact ⟨hw, hk⟩
       ·cases h2
     ·cases h2
    ·cases h2
   ·cases h2
  ·cases h2
 ·cases h2
def appRF (h : AHeap) (size bytes : Nat) (x y : AV) : Option (AV × AHeap) :=
 (elsH h size y).bind fun ys => if sized size ys = true /\ ys.length ≠ 0 then
  match x with
  | .nil => if ys.length * bytes <= 140737488355328 then some (.row h.blks.length 0 size ys.length ys.length, ⟨h.blks ++ [some ys.flatten], h.bufs, h.globs⟩) else none
  | .sl els .full => if sized size els = true /\ (els.length + ys.length) * bytes <= 140737488355328 then some (.row h.blks.length 0 size (els.length + ys.length) (els.length + ys.length), ⟨h.blks ++ [some (els.flatten ++ ys.flatten)], h.bufs, h.globs⟩) else none
  | _ => none
 else none
theorem appRF_ok {h h' : AHeap} {size bytes : Nat} {x y a : AV} {K : AV -> AHeap -> Prop} (he : appRF h size bytes x y = some (a, h')) (hk : K a h') : appendedR h size bytes x y K := by
 simp only [appRF, Option.bind_eq_some_iff] at he
 obtain ⟨ys, h1, h2⟩ := he
 simp only [appendedR, h1]
 split at h2
 ·rename_i hs
  refine ⟨⟨sized_ok hs.1, fun hn => hs.2 (by rw [hn]; rfl)⟩, ?_⟩
  split at h2
  ·split at h2
   ·rename_i hc; cases h2; exact ⟨hc, hk⟩
   ·cases h2
  ·split at h2
   ·rename_i hc; cases h2; exact ⟨sized_ok hc.1, hc.2, hk⟩
   ·cases h2
  ·cases h2
 ·cases h2
abbrev Callee := FuncId -> List AV -> AHeap -> Option (AV × AHeap)
def stay (h : AHeap) (o : Option AV) : Option (AV × AHeap) := o.map fun a => (a, h)
def makeF (h : AHeap) (size bytes : Nat) (zero : List AV) (x y : AV) : Option (AV × AHeap) :=
 match x, y with
 | .v (.int _ l), .v (.int _ c) => if 0 <= l /\ l <= c /\ c * bytes <= 140737488355328 then some (.row h.blks.length 0 size l.toNat c.toNat, ⟨h.blks ++ [some (zerosOf size c.toNat zero)], h.bufs, h.globs⟩) else none
 | _, _ => none
theorem makeF_ok {h h' : AHeap} {size bytes : Nat} {zero : List AV} {x y a : AV} {K : AV -> AHeap -> Prop} (he : makeF h size bytes zero x y = some (a, h')) (hk : K a h') : made h size bytes zero x y K := by
 unfold makeF at he
 split at he
 ·split at he
  ·rename_i hc; cases he; exact ⟨hc, hk⟩
  ·cases he
 ·cases he
def rangeF (h : AHeap) (x : AV) : Option (AV × AHeap) :=
 match x with
 | .v (.string s) => some (.ptr h.blks.length 0, ⟨h.blks ++ [some [.it s 0]], h.bufs, h.globs⟩)
 | _ => none
theorem rangeF_ok {h h' : AHeap} {x a : AV} {K : AV -> AHeap -> Prop} (he : rangeF h x = some (a, h')) (hk : K a h') : ranged h x K := by
 unfold rangeF at he
 split at he
 ·cases he; exact hk
 ·cases he
def nextF (h : AHeap) (x : AV) : Option (AV × AHeap) :=
 match x with
 | .ptr n 0 => match h.blks[n]? with
  | some (some [.it s p]) => if p < s.data.toList.length then some (.tuple [.v (.bool true), .v (.int .i64 p), .v (.int .i32 (Utf8.decode s p).1)], ⟨h.blks.set n (some [.it s (p + (Utf8.decode s p).2)]), h.bufs, h.globs⟩) else some (.tuple [.v (.bool false)], h)
  | _ => none
 | _ => none
theorem nextF_ok {h h' : AHeap} {x a : AV} {K : AV -> AHeap -> Prop} (he : nextF h x = some (a, h')) (hk : K a h') : nexted h x K := by
 unfold nextF at he
 unfold nexted
 split at he
 ·split at he
  ·rename_i s p hb
   have hs : s.data.toList.length = s.size := Array.length_toList
   rw [hs] at he
   simp only [hb]
   split at he
   ·rename_i hp; cases he; exact ⟨fun _ => hk, fun h => absurd hp h⟩
   ·rename_i hp; cases he; exact ⟨fun h => absurd h hp, fun _ => hk⟩
  ·cases he
 ·cases he
def aopF (md : Bool) (call : Callee) (o : AOp) (env : Env) (h : AHeap) : Option (AV × AHeap) :=
 match o with
 | .mv x => stay h (x.ev env)
 | .pick c a b => (c.ev env).bind fun c => match c with
  | .v (.bool true) => stay h (a.ev env)
  | .v (.bool false) => stay h (b.ev env)
  | _ => none
 | .alloc cells => some (.ptr h.blks.length 0, ⟨h.blks ++ [some cells], h.bufs, h.globs⟩)
 | .box x => (x.ev env).bind fun a => if a.isTuple = false then some (.ptr h.blks.length 0, ⟨h.blks ++ [some a.cells], h.bufs, h.globs⟩) else none
 | .build zero parts => (evp env parts).bind fun ps => (fills zero ps).map fun cells => (.agg cells, h)
 | .sliceLit size len zeros parts => (evp env parts).bind fun ps => (fills zeros ps).bind fun cells => if cells.length = len * size then some (.sl (chunk size len (cells.map wk1)) .full, h) else none
 | .load n x => (x.ev env).bind fun p => stay h (loadedF h n p)
 | .store size p x => (p.ev env).bind fun p => (x.ev env).bind fun x => (storedF h size p x).map fun h' => (.tuple [], h')
 | .nilCheck x => (x.ev env).bind fun a => match a with
  | .ptr n o => some (.ptr n o, h)
  | .elt l o => some (.elt l o, h)
  | .clo (.func f) l r => some (.clo (.func f) l r, h)
  | _ => none
 | .bin op x y => (x.ev env).bind fun x => (y.ev env).bind fun y => stay h (binnedF op x y)
 | .eq c yes x y => (x.ev env).bind fun x => (y.ev env).bind fun y => (eqF c x y).map fun b => (.v (.bool (if yes then b else !b)), h)
 | .un op x => (x.ev env).bind fun x => stay h (unF op x)
 | .conv c x => (x.ev env).bind fun x => stay h (convF c x)
 | .iface t x => (x.ev env).map fun a => (.iface t a, h)
 | .func fn first captured => (evs env first).bind fun f => (evs env captured).map fun c => (.clo fn f c, h)
 | .sliceS x lo hi => (x.ev env).bind fun x => (evo env lo).bind fun lo => (evo env hi).bind fun hi => stay h (cutS x lo hi)
 | .sliceV size x lo hi mx => (x.ev env).bind fun x => (evo env lo).bind fun lo => (evo env hi).bind fun hi => (evo env mx).bind fun mx => stay h (cutV size x lo hi mx)
 | .fieldAddr off x => (x.ev env).bind fun x => stay h (moveF off x)
 | .field n off x => (x.ev env).bind fun x => stay h (partF n off x)
 | .idxS x i => (x.ev env).bind fun x => (i.ev env).bind fun i => stay h (idxSF x i)
 | .idxV len size n x i => (x.ev env).bind fun x => (i.ev env).bind fun i => stay h (idxVF len size n x i)
 | .idxSl size x i => (x.ev env).bind fun x => (i.ev env).bind fun i => stay h (idxF size x i)
 | .idxA len size x i => (x.ev env).bind fun x => (i.ev env).bind fun i => stay h (idxAF len size x i)
 | .assertT t ok zero x => (x.ev env).bind fun x => stay h (assertF t ok zero x)
 | .extract i x => (x.ev env).bind fun x => stay h (extractF i x)
 | .len str x => (x.ev env).bind fun x => stay h (lenF str x)
 | .append size bytes x y => (x.ev env).bind fun x => (y.ev env).bind fun y => if md = true /\ size ≠ 1 then (match appRF h size bytes x y with | some r => some r | none => appF h size bytes x y) else appF h size bytes x y
 | .call f args => (f.ev env).bind fun f => (evs env args).bind fun l => match f with
  | .clo (.func g) first captured => call g (first ++ l ++ captured) h
  | _ => none
 | .bytes x => (x.ev env).bind fun x => match x with
  | .v (.string s) => some (.sl (byteEls s.data.toList) (.own h.bufs.length), ⟨h.blks, h.bufs ++ [(s.data.toList.length, 1)], h.globs⟩)
  | _ => none
 | .minmax mx args => (evs env args).bind fun l => (mmx mx l).map fun v => (.v v, h)
 | .make size bytes zero x y => (x.ev env).bind fun x => (y.ev env).bind fun y => makeF h size bytes zero x y
 | .range x => (x.ev env).bind fun x => rangeF h x
 | .next x => (x.ev env).bind fun x => nextF h x
def CallOK (P : Program) (call : Callee) : Prop := ∀ f args h a h', call f args h = some (a, h') -> ∀ K : AV -> AHeap -> Prop, K a h' -> ACall P f args h K
theorem stay_some {h h' : AHeap} {o : Option AV} {a : AV} (he : stay h o = some (a, h')) : o = some a /\ h' = h := by
 unfold stay at he
 simp only [Option.map_eq_some_iff, Prod.mk.injEq] at he
 obtain ⟨b, h1, rfl, rfl⟩ := he
 exact ⟨h1, rfl⟩
theorem aopF_ok {P : Program} {md : Bool} {call : Callee} (hc : CallOK P call) {o : AOp} {env : Env} {h h' : AHeap} {a : AV} {K : AV -> AHeap -> Prop} (he : aopF md call o env h = some (a, h')) (hk : K a h') : aop P o env h K := by
 cases o <;> simp only [aopF, Option.bind_eq_some_iff, Option.map_eq_some_iff] at he <;> simp only [aop]
 case mv x => obtain ⟨h1, rfl⟩ := stay_some he; simp only [h1, wv]; exact hk
 case pick c x y =>
  obtain ⟨cv, h1, h2⟩ := he
  simp only [h1, wv]
  split at h2
  ·obtain ⟨h3, rfl⟩ := stay_some h2; simp only [pickOn, h3]; exact ⟨fun _ => hk, fun h => by cases h⟩
  ·obtain ⟨h3, rfl⟩ := stay_some h2; simp only [pickOn, h3]; exact ⟨(fun h => by cases h), fun _ => hk⟩
  ·cases h2
 case alloc cells => cases he; exact hk
 case box x =>
  obtain ⟨b, h1, h2⟩ := he
  split at h2
  ·rename_i ht; cases h2; simp only [h1, wv]; exact ⟨ht, hk⟩
  ·cases h2
 case build z ps =>
  obtain ⟨q, h1, cells, h2, h3⟩ := he
  cases h3
  simp only [h1, h2]; exact hk
 case sliceLit s l z ps =>
  obtain ⟨q, h1, cells, h2, h3⟩ := he
  split at h3
  ·rename_i hl; cases h3; simp only [h1, h2]; exact ⟨hl, hk⟩
  ·cases h3
 case load n x => obtain ⟨p, h1, h2⟩ := he; obtain ⟨h3, rfl⟩ := stay_some h2; simp only [h1, wv]; exact loadedF_ok h3 hk
 case store n p x => obtain ⟨p, h1, x, h2, h3, h4, h5⟩ := he; cases h5; simp only [h1, h2, wv]; exact storedF_ok h4 hk
 case nilCheck x =>
  obtain ⟨b, h1, h2⟩ := he
  simp only [h1, wv, nilOn]
  split at h2 <;> first | (cases h2; exact hk) | (cases h2; done)
 case bin op x y => obtain ⟨x, h1, y, h2, h3⟩ := he; obtain ⟨h4, rfl⟩ := stay_some h3; simp only [h1, h2, wv]; exact binnedF_ok h4 hk
 case eq c yes x y => obtain ⟨x, h1, y, h2, b, h3, h4⟩ := he; cases h4; simp only [h1, h2, wv]; exact eqF_ok h3 hk
 case un op x => obtain ⟨x, h1, h3⟩ := he; obtain ⟨h4, rfl⟩ := stay_some h3; simp only [h1, wv]; exact unF_ok h4 hk
 case conv c x => obtain ⟨x, h1, h3⟩ := he; obtain ⟨h4, rfl⟩ := stay_some h3; simp only [h1, wv]; exact convF_ok h4 hk
 case iface t x => obtain ⟨x, h1, h3⟩ := he; cases h3; simp only [h1, wv]; exact hk
 case func fn f c => obtain ⟨x, h1, y, h2, h3⟩ := he; cases h3; simp only [h1, h2]; exact hk
 case sliceS x lo hi => obtain ⟨x, h1, lo, h2, hi, h3, h4⟩ := he; obtain ⟨h5, rfl⟩ := stay_some h4; simp only [h1, h2, h3, wv]; exact cutS_ok h5 hk
 case sliceV s x lo hi mx => obtain ⟨x, h1, lo, h2, hi, h3, mx, h4, h5⟩ := he; obtain ⟨h6, rfl⟩ := stay_some h5; simp only [h1, h2, h3, h4, wv]; exact cutV_ok h6 hk
 case fieldAddr off x => obtain ⟨x, h1, h3⟩ := he; obtain ⟨h4, rfl⟩ := stay_some h3; simp only [h1, wv]; exact moveF_ok h4 hk
 case field n off x => obtain ⟨x, h1, h3⟩ := he; obtain ⟨h4, rfl⟩ := stay_some h3; simp only [h1, wv]; exact partF_ok h4 hk
 case idxS x y => obtain ⟨x, h1, y, h2, h3⟩ := he; obtain ⟨h4, rfl⟩ := stay_some h3; simp only [h1, h2, wv]; exact idxSF_ok h4 hk
 case idxV l s n x y => obtain ⟨x, h1, y, h2, h3⟩ := he; obtain ⟨h4, rfl⟩ := stay_some h3; simp only [h1, h2, wv]; exact idxVF_ok h4 hk
 case idxSl s x y => obtain ⟨x, h1, y, h2, h3⟩ := he; obtain ⟨h4, rfl⟩ := stay_some h3; simp only [h1, h2, wv]; exact idxF_ok h4 hk
 case idxA l s x y => obtain ⟨x, h1, y, h2, h3⟩ := he; obtain ⟨h4, rfl⟩ := stay_some h3; simp only [h1, h2, wv]; exact idxAF_ok h4 hk
 case assertT t ok z x => obtain ⟨x, h1, h3⟩ := he; obtain ⟨h4, rfl⟩ := stay_some h3; simp only [h1, wv]; exact assertF_ok h4 hk
 case extract i x => obtain ⟨x, h1, h3⟩ := he; obtain ⟨h4, rfl⟩ := stay_some h3; simp only [h1, wv]; exact extractF_ok h4 hk
 case len s x => obtain ⟨x, h1, h3⟩ := he; obtain ⟨h4, rfl⟩ := stay_some h3; simp only [h1, wv]; exact lenF_ok h4 hk
 case append s t x y =>
  obtain ⟨x, h1, y, h2, h3⟩ := he
  simp only [h1, h2, wv]
  split at h3
  ·split at h3
   ·rename_i r hr; cases h3; exact .inr (appRF_ok hr hk)
   ·exact .inl (appF_ok h3 hk)
  ·exact .inl (appF_ok h3 hk)
 case call f args =>
  obtain ⟨fv, h1, l, h2, h3⟩ := he
  simp only [h1, h2, wv]
  split at h3
  ·exact hc _ _ _ _ _ h3 K hk
  ·cases h3
 case bytes x =>
  obtain ⟨x, h1, h2⟩ := he
  simp only [h1, wv]
  split at h2
  ·cases h2; exact hk
  ·cases h2
 case minmax mx l => obtain ⟨x, h1, v, h2, h3⟩ := he; cases h3; simp only [h1, h2, picked]; exact hk
 case make s t z x y => obtain ⟨x, h1, y, h2, h3⟩ := he; simp only [h1, h2, wv]; exact makeF_ok h3 hk
 case range x => obtain ⟨x, h1, h2⟩ := he; simp only [h1, wv]; exact rangeF_ok h2 hk
 case next x => obtain ⟨x, h1, h2⟩ := he; simp only [h1, wv]; exact nextF_ok h2 hk
def guardF (env : Env) (g : Option (Nat × Bool)) : Option Bool :=
 match g with
 | none => some true
 | some (t, want) => (get env t).bind fun v => match v with
  | .v (.bool b) => some (b == want)
  | .tuple [] => some false
  | _ => none
theorem guardF_ok {env : Env} {g : Option (Nat × Bool)} {b : Bool} {y n : Prop} (he : guardF env g = some b) (hk : if b = true then y else n) : guarded env g y n := by
 cases g with
 | none => cases he; exact hk
 | some p =>
  obtain ⟨t, want⟩ := p
  simp only [guardF, Option.bind_eq_some_iff] at he
  obtain ⟨v, h1, h2⟩ := he
  simp only [guarded, h1, wv]
  split at h2
  ·rename_i c
   cases h2
   simp only
   cases c <;> cases want
   ·exact ⟨fun _ => hk, fun h => by cases h⟩
   ·exact ⟨(fun h => by cases h), fun _ => hk⟩
   ·exact ⟨(fun h => by cases h), fun _ => hk⟩
   ·exact ⟨fun _ => hk, fun h => by cases h⟩
  ·cases h2; exact hk
  ·cases h2
def vopsF (md : Bool) (call : Callee) : List AOper -> Env -> AHeap -> Option (Env × AHeap)
 | [], env, h => some (env, h)
 | o :: r, env, h => (guardF env o.guard).bind fun b => match b with
  | true => (aopF md call o.op env h).bind fun p => vopsF md call r (putE env o.dst p.1) p.2
  | false => vopsF md call r (dropE env o.dst) h
theorem vopsF_ok {P : Program} {md : Bool} {call : Callee} (hc : CallOK P call) : ∀ {l : List AOper} {env : Env} {h : AHeap} {r : Env × AHeap} {K : Env -> AHeap -> Prop}, vopsF md call l env h = some r -> K r.1 r.2 -> vops P l env h K
 | [], env, h, r, K, he, hk => by cases he; exact hk
 | o :: l, env, h, r, K, he, hk => by
  simp only [vopsF, Option.bind_eq_some_iff] at he
  obtain ⟨b, h1, h2⟩ := he
  refine guardF_ok h1 ?_
  cases b with
  | true =>
   simp only [Option.bind_eq_some_iff] at h2
   obtain ⟨⟨a, h'⟩, h3, h4⟩ := h2
   exact aopF_ok (K := fun av h' => vops P l (putE env o.dst av) h' K) hc h3 (vopsF_ok hc h4 hk)
  | false => exact vopsF_ok hc h2 hk
def quietOp : AOp -> Bool
 | .alloc _ | .box _ | .store _ _ _ | .append _ _ _ _ | .bytes _ | .make _ _ _ _ _ | .range _ | .next _ => false
 | _ => true
def vqF (md : Bool) (call : Callee) : List AOper -> Env -> AHeap -> Option Env
 | [], env, h => some env
 | o :: r, env, h => (guardF env o.guard).bind fun b => match b with
  | true => if quietOp o.op = true then (aopF md call o.op env h).bind fun p => vqF md call r (putE env o.dst p.1) h else none
  | false => vqF md call r (dropE env o.dst) h
theorem aopF_quiet {md : Bool} {call : Callee} (hq : ∀ f args h a h', call f args h = some (a, h') -> h' = h) {o : AOp} {env : Env} {h h' : AHeap} {a : AV} (ho : quietOp o = true) (he : aopF md call o env h = some (a, h')) : h' = h := by
 cases o <;> simp only [aopF, Option.bind_eq_some_iff, Option.map_eq_some_iff] at he <;> (try (cases ho; done))
 case mv x => exact (stay_some he).2
 case pick c x y => obtain ⟨cv, h1, h2⟩ := he; split at h2 <;> first | exact (stay_some h2).2 | cases h2
 case build z ps => obtain ⟨q, h1, cells, h2, h3⟩ := he; cases h3; rfl
 case sliceLit s l z ps =>
  obtain ⟨q, h1, cells, h2, h3⟩ := he
  split at h3 <;> cases h3; rfl
 case load n x => obtain ⟨p, h1, h2⟩ := he; exact (stay_some h2).2
 case nilCheck x => obtain ⟨b, h1, h2⟩ := he; split at h2 <;> cases h2 <;> rfl
 case bin op x y => obtain ⟨x, h1, y, h2, h3⟩ := he; exact (stay_some h3).2
 case eq c yes x y => obtain ⟨x, h1, y, h2, b, h3, h4⟩ := he; cases h4; rfl
 case un op x => obtain ⟨x, h1, h3⟩ := he; exact (stay_some h3).2
 case conv c x => obtain ⟨x, h1, h3⟩ := he; exact (stay_some h3).2
 case iface t x => obtain ⟨x, h1, h3⟩ := he; cases h3; rfl
 case func fn f c => obtain ⟨x, h1, y, h2, h3⟩ := he; cases h3; rfl
 case sliceS x lo hi => obtain ⟨x, h1, lo, h2, hi, h3, h4⟩ := he; exact (stay_some h4).2
 case sliceV s x lo hi mx => obtain ⟨x, h1, lo, h2, hi, h3, mx, h4, h5⟩ := he; exact (stay_some h5).2
 case fieldAddr off x => obtain ⟨x, h1, h3⟩ := he; exact (stay_some h3).2
 case field n off x => obtain ⟨x, h1, h3⟩ := he; exact (stay_some h3).2
 case idxS x y => obtain ⟨x, h1, y, h2, h3⟩ := he; exact (stay_some h3).2
 case idxV l s n x y => obtain ⟨x, h1, y, h2, h3⟩ := he; exact (stay_some h3).2
 case idxSl s x y => obtain ⟨x, h1, y, h2, h3⟩ := he; exact (stay_some h3).2
 case idxA l s x y => obtain ⟨x, h1, y, h2, h3⟩ := he; exact (stay_some h3).2
 case assertT t ok z x => obtain ⟨x, h1, h3⟩ := he; exact (stay_some h3).2
 case extract i x => obtain ⟨x, h1, h3⟩ := he; exact (stay_some h3).2
 case len s x => obtain ⟨x, h1, h3⟩ := he; exact (stay_some h3).2
 case call f args =>
  obtain ⟨fv, h1, l, h2, h3⟩ := he
  split at h3
  ·exact hq _ _ _ _ _ h3
  ·cases h3
 case minmax mx l => obtain ⟨x, h1, v, h2, h3⟩ := he; cases h3; rfl
theorem vqF_ok {P : Program} {md : Bool} {call : Callee} (hc : CallOK P call) (hq : ∀ f args h a h', call f args h = some (a, h') -> h' = h) : ∀ {l : List AOper} {env r : Env} {h : AHeap} {K : Env -> Prop}, vqF md call l env h = some r -> K r -> vq P l env h K
 | [], env, r, h, K, he, hk => by cases he; exact hk
 | o :: l, env, r, h, K, he, hk => by
  simp only [vqF, Option.bind_eq_some_iff] at he
  obtain ⟨b, h1, h2⟩ := he
  refine guardF_ok h1 ?_
  cases b with
  | true =>
   simp only at h2
   split at h2
   ·rename_i ho
    simp only [Option.bind_eq_some_iff] at h2
    obtain ⟨⟨a, h'⟩, h3, h4⟩ := h2
    have := aopF_quiet hq ho h3
    subst this
    exact ⟨a, aopF_ok hc h3 ⟨rfl, rfl⟩, vqF_ok hc hq h4 hk⟩
   ·cases h2
  | false => exact vqF_ok hc hq h2 hk
def beqV : Value -> Value -> Bool
 | .bool a, .bool b => a == b
 | .int k a, .int l b => decide (k = l) && decide (a = b)
 | .string a, .string b => a.data.toList == b.data.toList
 | .pointer none, .pointer none => true
 | .nilFunc, .nilFunc => true
 | .nilIface, .nilIface => true
 | _, _ => false
theorem beqV_eq {x y : Value} (h : beqV x y = true) : x = y := by
 unfold beqV at h
 split at h <;> (try (cases h; done)) <;> (try rfl)
 ·simp at h; rw [h]
 ·simp at h; rw [h.1, h.2]
 ·rename_i a b
  have := eq_of_beq h
  congr 1
  apply ByteArray.ext
  exact Array.ext' this
mutual
def beqA : AV -> AV -> Bool
 | .v x, .v y => beqV x y
 | .ptr a b, .ptr c d => a == c && b == d
 | .elt l o, .elt m p => beqL l m && o == p
 | .nil, .nil => true
 | .sl e t, .sl f u => beqLL e f && decide (t = u)
 | .agg l, .agg m => beqL l m
 | .tuple l, .tuple m => beqL l m
 | .iface t x, .iface u y => t == u && beqA x y
 | .clo (.func f) a b, .clo (.func g) c d => f == g && beqL a c && beqL b d
 | .glob a, .glob b => a == b
 | .row a b c d e, .row a' b' c' d' e' => a == a' && b == b' && c == c' && d == d' && e == e'
 | _, _ => false
def beqL : List AV -> List AV -> Bool
 | [], [] => true
 | a :: l, b :: m => beqA a b && beqL l m
 | _, _ => false
def beqLL : List (List AV) -> List (List AV) -> Bool
 | [], [] => true
 | a :: l, b :: m => beqL a b && beqLL l m
 | _, _ => false
end
mutual
theorem beqA_eq : ∀ (a b : AV), beqA a b = true -> a = b
 | .v x, b, h => by cases b <;> simp only [beqA, Bool.false_eq_true] at h; rw [beqV_eq h]
 | .ptr n o, b, h => by cases b <;> simp only [beqA, Bool.false_eq_true, Bool.and_eq_true, beq_iff_eq] at h; rw [h.1, h.2]
 | .elt l o, b, h => by cases b <;> simp only [beqA, Bool.false_eq_true, Bool.and_eq_true, beq_iff_eq] at h; rw [beqL_eq _ _ h.1, h.2]
 | .nil, b, h => by cases b <;> simp only [beqA, Bool.false_eq_true] at h; rfl
 | .sl e t, b, h => by cases b <;> simp only [beqA, Bool.false_eq_true, Bool.and_eq_true, decide_eq_true_eq] at h; rw [beqLL_eq _ _ h.1, h.2]
 | .agg l, b, h => by cases b <;> simp only [beqA, Bool.false_eq_true] at h; rw [beqL_eq _ _ h]
 | .tuple l, b, h => by cases b <;> simp only [beqA, Bool.false_eq_true] at h; rw [beqL_eq _ _ h]
 | .iface t x, b, h => by cases b <;> simp only [beqA, Bool.false_eq_true, Bool.and_eq_true, beq_iff_eq] at h; rw [h.1, beqA_eq _ _ h.2]
 | .clo f l r, b, h => by
  cases b with
  | clo g l' r' =>
   cases f with
   | func f =>
    cases g with
    | func g =>
     simp only [beqA, Bool.and_eq_true, beq_iff_eq] at h
     rw [h.1.1, beqL_eq _ _ h.1.2, beqL_eq _ _ h.2]
    | _ => simp [beqA] at h
   | _ => simp [beqA] at h
  | _ => simp [beqA] at h
 | .glob n, b, h => by cases b <;> simp only [beqA, Bool.false_eq_true, beq_iff_eq] at h; rw [h]
 | .row a1 a2 a3 a4 a5, b, h => by
  cases b <;> simp only [beqA, Bool.false_eq_true, Bool.and_eq_true, beq_iff_eq] at h
  rw [h.1.1.1.1, h.1.1.1.2, h.1.1.2, h.1.2, h.2]
 | .it s p, b, h => by cases b <;> simp only [beqA, Bool.false_eq_true] at h
theorem beqL_eq : ∀ (a b : List AV), beqL a b = true -> a = b
 | [], b, h => by cases b <;> simp only [beqL, Bool.false_eq_true] at h; rfl
 | a :: l, b, h => by
  cases b <;> simp only [beqL, Bool.false_eq_true, Bool.and_eq_true] at h
  rw [beqA_eq _ _ h.1, beqL_eq _ _ h.2]
theorem beqLL_eq : ∀ (a b : List (List AV)), beqLL a b = true -> a = b
 | [], b, h => by cases b <;> simp only [beqLL, Bool.false_eq_true] at h; rfl
 | a :: l, b, h => by
  cases b <;> simp only [beqLL, Bool.false_eq_true, Bool.and_eq_true] at h
  rw [beqL_eq _ _ h.1, beqLL_eq _ _ h.2]
end
def pureOp : AOp -> Bool
 | .alloc _ | .box _ | .store _ _ _ | .append _ _ _ _ | .bytes _ | .make _ _ _ _ _ | .range _ | .next _ | .load _ _ | .call _ _ => false
 | _ => true
theorem aop_pure {P : Program} {o : AOp} (hp : pureOp o = true) {env : Env} {h h' : AHeap} {K : AV -> AHeap -> Prop} : aop P o env h K = aop P o env h' fun a _ => K a h := by
 cases o <;> first | rfl | (cases hp; done)
theorem aopQ_pure {P : Program} {o : AOp} (hp : pureOp o = true) {env : Env} {h h' : AHeap} {av : AV} (hq : aopQ P o env h av) : aopQ P o env h' av := by
 unfold aopQ at hq ⊢
 rw [aop_pure (h' := h') hp] at hq
 rw [aop_pure (h' := h') hp]
 have : (fun (a : AV) (_ : AHeap) => a = av /\ h = h) = fun (a : AV) (_ : AHeap) => a = av /\ h' = h' := by funext a b; simp
 rw [this] at hq
 exact hq
def vhF (md : Bool) (callP callG : Callee) : List AOper -> Env -> AHeap -> Nat -> Option (Env × List AHeap × List (Option Nat))
 | [], env, h, _ => some (env, [h], [])
 | o :: r, env, h, j => (guardF env o.guard).bind fun b => match b with
  | false => (vhF md callP callG r (dropE env o.dst) h j).map fun x => (x.1, x.2.1, none :: x.2.2)
  | true => match (if quietOp o.op = true then aopF md callP o.op env h else none) with
   | some p => (vhF md callP callG r (putE env o.dst p.1) h j).map fun x => (x.1, x.2.1, none :: x.2.2)
   | none => (aopF md callG o.op env h).bind fun p => (vhF md callP callG r (putE env o.dst p.1) p.2 (j + 1)).map fun x => (x.1, h :: x.2.1, some j :: x.2.2)
def cntS (l : List (Option Nat)) : Nat := l.countP (·.isSome)
def PassDoes (P : Program) (F : Env) (hs : List AHeap) (j c : Nat) (o : AOper) : Option Nat -> Prop
 | some n => ∃ av h h', hs[n - j]? = some h /\ hs[n - j + 1]? = some h' /\ aop P o.op F h (fun a b => a = av /\ b = h') /\ ∀ d, o.dst = some d -> get F d = some av
 | none => ∃ av h0, hs[c]? = some h0 /\ aopQ P o.op F h0 av /\ quietOp o.op = true /\ ∀ d, o.dst = some d -> get F d = some av
def PassFact (P : Program) (F : Env) (hs : List AHeap) (j c : Nat) (o : AOper) (n : Option Nat) : Prop :=
 let skip := n = none /\ ∀ d, o.dst = some d -> get F d = some (.tuple [])
 match o.guard with
 | none => PassDoes P F hs j c o n
 | some (t, want) => (∃ b, get F t = some (.v (.bool b)) /\ (b = want -> PassDoes P F hs j c o n) /\ (b ≠ want -> skip)) ∨ (get F t = some (.tuple []) /\ skip)
structure Pass (P : Program) (l : List AOper) (env F : Env) (h h' : AHeap) (hs : List AHeap) (fl : List (Option Nat)) (j : Nat) : Prop where
 len : fl.length = l.length
 first : hs[0]? = some h
 last : ∃ n, hs.length = n + 1 /\ hs[n]? = some h'
 bound : ∀ i n : Nat, fl[i]? = some (some n) -> j <= n /\ n + 1 < j + hs.length
 mono : ∀ i k a b : Nat, i < k -> fl[i]? = some (some a) -> fl[k]? = some (some b) -> a < b
 onto : ∀ n : Nat, j <= n -> n + 1 < j + hs.length -> ∃ i : Nat, fl[i]? = some (some n)
 keep : ∀ t, writes t l = false -> get F t = get env t
 fact : ∀ (i : Nat) (o : AOper) (n : Option Nat), l[i]? = some o -> fl[i]? = some n -> PassFact P F hs j (cntS (fl.take i)) o n
theorem PassDoes.shift {P : Program} {F : Env} {hs : List AHeap} {j c : Nat} {o : AOper} {n : Option Nat} {h : AHeap} (hb : ∀ m, n = some m -> j + 1 <= m) (hd : PassDoes P F hs (j + 1) c o n) : PassDoes P F (h :: hs) j (c + 1) o n := by
 cases n with
 | none =>
  obtain ⟨av, h0, h1, h2⟩ := hd
  exact ⟨av, h0, by simpa using h1, h2⟩
 | some m =>
  obtain ⟨av, h1, h2, e1, e2, h3⟩ := hd
  have := hb m rfl
  refine ⟨av, h1, h2, ?_, ?_, h3⟩
  ·rw [show m - j = (m - (j + 1)) + 1 by omega]; simpa using e1
  ·rw [show m - j = (m - (j + 1)) + 1 by omega]; simpa using e2
theorem PassFact.shift {P : Program} {F : Env} {hs : List AHeap} {j c : Nat} {o : AOper} {n : Option Nat} {h : AHeap} (hb : ∀ m, n = some m -> j + 1 <= m) (hd : PassFact P F hs (j + 1) c o n) : PassFact P F (h :: hs) j (c + 1) o n := by
 unfold PassFact at hd ⊢
 split at hd
 ·exact PassDoes.shift hb hd
 ·rcases hd with ⟨b, h1, h2, h3⟩ | hd
  ·exact .inl ⟨b, h1, fun hb' => PassDoes.shift hb (h2 hb'), h3⟩
  ·exact .inr hd
theorem vhF_ok {P : Program} {md : Bool} {callP callG : Callee} (hcP : CallOK P callP) (hcG : CallOK P callG) (hq : ∀ f args h a h', callP f args h = some (a, h') -> h' = h) : ∀ {l : List AOper} {env F : Env} {h : AHeap} {j : Nat} {hs : List AHeap} {fl : List (Option Nat)}, okq l = true -> vhF md callP callG l env h j = some (F, hs, fl) -> ∃ h', Pass P l env F h h' hs fl j
 | [], env, F, h, j, hs, fl, _, he => by
  simp only [vhF, Option.some.injEq, Prod.mk.injEq] at he
  obtain ⟨rfl, rfl, rfl⟩ := he
  exact ⟨h, rfl, rfl, ⟨0, rfl, rfl⟩, fun i n hi => by simp at hi, fun i k a b _ hi => by simp at hi, fun n h1 h2 => by simp at h2; omega, fun _ _ => rfl, fun i o n hi => by simp at hi⟩
 | o :: r, env, F, h, j, hs, fl, hok, he => by
  simp only [okq, Bool.and_eq_true, List.all_eq_true] at hok
  obtain ⟨⟨hlook, hdst⟩, hokr⟩ := hok
  have hwr : ∀ t, writes t (o :: r) = false -> o.dst ≠ some t /\ writes t r = false := by
   intro t ht
   simp only [writes, List.any_cons, Bool.or_eq_false_iff] at ht ⊢
   exact ⟨by simpa using ht.1, ht.2⟩
  have hd : ∀ d, o.dst = some d -> writes d r = false := by
   intro d hd
   rw [hd] at hdst
   simpa using hdst
  have hl : ∀ (F : Env), (∀ t, writes t (o :: r) = false -> get F t = get env t) -> ∀ t ∈ o.looks, get env t = get F t := fun F hF t ht => (hF t (by simpa using hlook t ht)).symm
  have hcong : ∀ (F : Env), (∀ t, writes t (o :: r) = false -> get F t = get env t) -> ∀ (h : AHeap) (K : AV -> AHeap -> Prop), aop P o.op env h K -> aop P o.op F h K := by
   intro F hF h K hq
   rw [← aop_congr (e1 := env) (e2 := F)]
   ·exact hq
   ·intro x hx
    cases x with
    | c a => rfl
    | t n =>
     refine hl F hF n ?_
     simp only [AOper.looks, List.mem_append, List.mem_filterMap]
     exact .inl ⟨.t n, hx, rfl⟩
  have guardT : ∀ (F : Env) (D S : Prop), (∀ t, writes t (o :: r) = false -> get F t = get env t) -> guardF env o.guard = some true -> D -> (match o.guard with | none => D | some (t, want) => (∃ b, get F t = some (.v (.bool b)) /\ (b = want -> D) /\ (b ≠ want -> S)) ∨ (get F t = some (.tuple []) /\ S)) := by
   intro F D S hF hg hD
   split
   ·exact hD
   ·rename_i t want hgd
    rw [hgd] at hg
    simp only [guardF, Option.bind_eq_some_iff] at hg
    obtain ⟨v, h1, h2⟩ := hg
    split at h2
    ·rename_i b
     simp only [Option.some.injEq, beq_iff_eq] at h2
     exact .inl ⟨b, by rw [← hl F hF t (by simp [AOper.looks, hgd])]; exact h1, fun _ => hD, fun hn => absurd h2 hn⟩
    ·cases h2
    ·cases h2
  have guardN : ∀ (F : Env) (D S : Prop), (∀ t, writes t (o :: r) = false -> get F t = get env t) -> guardF env o.guard = some false -> S -> (match o.guard with | none => D | some (t, want) => (∃ b, get F t = some (.v (.bool b)) /\ (b = want -> D) /\ (b ≠ want -> S)) ∨ (get F t = some (.tuple []) /\ S)) := by
   intro F D S hF hg hS
   split
   ·rename_i hgd; rw [hgd] at hg; simp [guardF] at hg
   ·rename_i t want hgd
    rw [hgd] at hg
    simp only [guardF, Option.bind_eq_some_iff] at hg
    obtain ⟨v, h1, h2⟩ := hg
    split at h2
    ·rename_i b
     simp only [Option.some.injEq, beq_eq_false_iff_ne] at h2
     exact .inl ⟨b, by rw [← hl F hF t (by simp [AOper.looks, hgd])]; exact h1, fun h => absurd h h2, fun _ => hS⟩
    ·exact .inr ⟨by rw [← hl F hF t (by simp [AOper.looks, hgd])]; exact h1, hS⟩
    ·cases h2
  -- an operation that leaves the heap
  have still : ∀ (env' : Env) (fl' : List (Option Nat)) (h' : AHeap), Pass P r env' F h h' hs fl' j -> (∀ t, o.dst ≠ some t -> get env' t = get env t) -> (PassFact P F hs j 0 o none) -> Pass P (o :: r) env F h h' hs (none :: fl') j := by
   intro env' fl' h' hp henv hf
   refine ⟨by simp [hp.len], hp.first, hp.last, fun i n hi => ?_, fun i k a b hik hi hk => ?_, fun n h1 h2 => ?_, fun t ht => ?_, fun i o' n hi hn => ?_⟩
   ·cases i with
    | zero => simp at hi
    | succ i => exact hp.bound i n (by simpa using hi)
   ·cases i with
    | zero => simp at hi
    | succ i => cases k with
     | zero => omega
     | succ k => exact hp.mono i k a b (by omega) (by simpa using hi) (by simpa using hk)
   ·obtain ⟨i, hi⟩ := hp.onto n h1 h2
    exact ⟨i + 1, by simpa using hi⟩
   ·obtain ⟨h1, h2⟩ := hwr t ht
    rw [hp.keep t h2, henv t h1]
   ·cases i with
    | zero => simp at hi hn; subst hi hn; simpa [cntS] using hf
    | succ i =>
     have := hp.fact i o' n (by simpa using hi) (by simpa using hn)
     simpa [cntS] using this
  simp only [vhF, Option.bind_eq_some_iff] at he
  obtain ⟨b, hb, he⟩ := he
  cases b with
  | false =>
   simp only [Option.map_eq_some_iff, Prod.mk.injEq] at he
   obtain ⟨⟨F', hs', fl'⟩, h1, rfl, rfl, rfl⟩ := he
   obtain ⟨h', hp⟩ := vhF_ok hcP hcG hq hokr h1
   have hF : ∀ t, writes t (o :: r) = false -> get F' t = get env t := by
    intro t ht
    obtain ⟨g1, g2⟩ := hwr t ht
    rw [hp.keep t g2, get_dropE, if_neg g1]
   refine ⟨h', still _ fl' h' hp (fun t ht => by rw [get_dropE, if_neg ht]) ?_⟩
   exact guardN F' _ _ hF hb ⟨rfl, fun d hd' => by rw [hp.keep d (hd d hd'), get_dropE, if_pos hd']⟩
  | true =>
   simp only at he
   split at he
   ·rename_i p hp0
    split at hp0
    ·rename_i hquiet
     obtain ⟨av, hav⟩ := p
     have hsame := aopF_quiet hq hquiet hp0
     subst hsame
     simp only [Option.map_eq_some_iff, Prod.mk.injEq] at he
     obtain ⟨⟨F', hs', fl'⟩, h1, rfl, rfl, rfl⟩ := he
     obtain ⟨h', hp⟩ := vhF_ok hcP hcG hq hokr h1
     have hF : ∀ t, writes t (o :: r) = false -> get F' t = get env t := by
      intro t ht
      obtain ⟨g1, g2⟩ := hwr t ht
      rw [hp.keep t g2, get_putE, if_neg g1]
     refine ⟨h', still _ fl' h' hp (fun t ht => by rw [get_putE, if_neg ht]) ?_⟩
     exact guardT F' _ _ hF hb ⟨av, hav, hp.first, hcong F' hF hav _ (aopF_ok (K := fun a b => a = av /\ b = hav) hcP hp0 ⟨rfl, rfl⟩), hquiet, fun d hd' => by rw [hp.keep d (hd d hd'), get_putE, if_pos hd']⟩
    ·cases hp0
   ·simp only [Option.bind_eq_some_iff, Option.map_eq_some_iff, Prod.mk.injEq] at he
    obtain ⟨⟨av, h2⟩, hp0, ⟨F', hs', fl'⟩, h1, rfl, rfl, rfl⟩ := he
    obtain ⟨h', hp⟩ := vhF_ok hcP hcG hq hokr h1
    have hF : ∀ t, writes t (o :: r) = false -> get F' t = get env t := by
     intro t ht
     obtain ⟨g1, g2⟩ := hwr t ht
     rw [hp.keep t g2, get_putE, if_neg g1]
    have hpos : 0 < hs'.length := by obtain ⟨n, hn, _⟩ := hp.last; omega
    refine ⟨h', by simp [hp.len], rfl, ?_, fun i n hi => ?_, fun i k a b hik hi hk => ?_, fun n g1 g2 => ?_, hF, fun i o' n hi hn => ?_⟩
    ·obtain ⟨n, hn, hl'⟩ := hp.last
     exact ⟨n + 1, by simp [hn], by simpa using hl'⟩
    ·cases i with
     | zero => simp at hi; subst hi; simp; omega
     | succ i =>
      have := hp.bound i n (by simpa using hi)
      simp; omega
    ·cases k with
     | zero => omega
     | succ k =>
      cases i with
      | zero =>
       simp at hi; subst hi
       have := (hp.bound k b (by simpa using hk)).1
       omega
      | succ i => exact hp.mono i k a b (by omega) (by simpa using hi) (by simpa using hk)
    ·by_cases hnj : n = j
     ·subst hnj; exact ⟨0, rfl⟩
     ·obtain ⟨i, hi⟩ := hp.onto n (by omega) (by simp at g2; omega)
      exact ⟨i + 1, by simpa using hi⟩
    ·cases i with
     | zero =>
      simp at hi hn
      subst hi hn
      exact guardT F' _ _ hF hb ⟨av, h, h2, by simp, by simpa using hp.first, hcong F' hF h _ (aopF_ok (K := fun a b => a = av /\ b = h2) hcG hp0 ⟨rfl, rfl⟩), fun d hd' => by rw [hp.keep d (hd d hd'), get_putE, if_pos hd']⟩
     | succ i =>
      have hn' : fl'[i]? = some n := by simpa using hn
      have := PassFact.shift (h := h) (fun m hm => by subst hm; exact (hp.bound i m hn').1) (hp.fact i o' n (by simpa using hi) hn')
      have e : cntS ((some j :: fl').take (i + 1)) = cntS (fl'.take i) + 1 := by simp [cntS]
      rw [e]; exact this
def Stable (P : Program) (F : Env) (hb : AHeap) (o : AOp) (av : AV) : Prop := ∀ h2 : AHeap, (∃ ext, h2.blks = hb.blks ++ ext) -> h2.globs = hb.globs -> aopQ P o F h2 av
def CallExt (P : Program) (call : Callee) : Prop := ∀ f args h a h', call f args h = some (a, h') -> h' = h /\ ∀ h2 : AHeap, h2.globs = h.globs -> ∀ K : AV -> AHeap -> Prop, K a h2 -> ACall P f args h2 K
theorem loaded_ext {h h2 : AHeap} {n : Option Nat} {p a : AV} (he : ∃ ext, h2.blks = h.blks ++ ext) (hg : h2.globs = h.globs) (hl : loadedF h n p = some a) : loadedF h2 n p = some a := by
 have hp : ∀ q, place h p = some q -> place h2 p = some q := by
  intro q hq
  cases p with
  | ptr m off =>
   simp only [place] at hq ⊢
   split at hq
   ·rename_i cells hc
    obtain ⟨ext, he⟩ := he
    rw [he, List.getElem?_append_left (List.getElem?_eq_some_iff.1 hc).1, hc]
    exact hq
   ·cases hq
  | glob m => simp only [place] at hq ⊢; rw [hg]; exact hq
  | elt c o => exact hq
  | _ => simp [place] at hq
 unfold loadedF at hl ⊢
 cases hq : place h p with
 | none => rw [hq] at hl; cases hl
 | some q => rw [hq] at hl; rw [hp q hq]; exact hl
theorem stable_of {P : Program} {md : Bool} {call : Callee} (hc : CallExt P call) {o : AOp} {env : Env} {h h' : AHeap} {a : AV} (ho : quietOp o = true) (he : aopF md call o env h = some (a, h')) : Stable P env h o a := by
 have hcok : CallOK P call := fun f args h a h' he K hk => by
  obtain ⟨e1, e2⟩ := hc f args h a h' he
  subst e1
  exact e2 _ rfl K hk
 have hsame : h' = h := aopF_quiet (fun f args h a h' he => (hc f args h a h' he).1) ho he
 subst hsame
 intro h2 hext hg
 by_cases hp : pureOp o = true
 ·exact aopQ_pure hp (aopF_ok (K := fun x y => x = a /\ y = h') hcok he ⟨rfl, rfl⟩)
 ·cases o <;> first | (exact absurd rfl hp) | (cases ho; done) | skip
  case load n x =>
   simp only [aopF, Option.bind_eq_some_iff] at he
   obtain ⟨p, h1, h3⟩ := he
   obtain ⟨h4, _⟩ := stay_some h3
   show wv (x.ev env) _
   rw [h1]
   exact loadedF_ok (K := fun x => x = a /\ h2 = h2) (loaded_ext hext hg h4) ⟨rfl, rfl⟩
  case call f args =>
   simp only [aopF, Option.bind_eq_some_iff] at he
   obtain ⟨fv, h1, l, h3, h4⟩ := he
   show wv (f.ev env) _
   rw [h1]
   split at h4
   ·rename_i g first captured
    show callOn P _ (evs env args) h2 _
    rw [h3]
    exact (hc _ _ _ _ _ h4).2 h2 hg _ ⟨rfl, rfl⟩
   ·cases h4
def vaF (md : Bool) (callX callP callG : Callee) (hb : AHeap) : List AOper -> Env -> AHeap -> Nat -> Option (Env × List (Nat × List AV) × List AHeap × List (Option Nat))
 | [], env, cur, _ => some (env, [], [cur], [])
 | o :: r, env, cur, i => (guardF env o.guard).bind fun b => match b with
  | false => (vaF md callX callP callG hb r (dropE env o.dst) cur (i + 1)).map fun x => (x.1, x.2.1, x.2.2.1, none :: x.2.2.2)
  | true => match o.op, o.guard with
   | .alloc cells, none => (vaF md callX callP callG hb r (putE env o.dst (.ptr cur.blks.length 0)) ⟨cur.blks ++ [some cells], cur.bufs, cur.globs⟩ (i + 1)).map fun x => (x.1, (i, cells) :: x.2.1, x.2.2.1, none :: x.2.2.2)
   | _, _ => match (if quietOp o.op = true then aopF md callX o.op env hb else none) with
    | some p => (vaF md callX callP callG hb r (putE env o.dst p.1) cur (i + 1)).map fun x => (x.1, x.2.1, x.2.2.1, none :: x.2.2.2)
    | none => (aopF md callG o.op env cur).bind fun p => (vhF md callP callG r (putE env o.dst p.1) p.2 1).map fun x => (x.1, [], cur :: x.2.1, some 0 :: x.2.2)
def PassDoesA (P : Program) (F : Env) (hb : AHeap) (hs : List AHeap) (c : Nat) (o : AOper) : Option Nat -> Prop
 | some n => ∃ av h h', hs[n]? = some h /\ hs[n + 1]? = some h' /\ aop P o.op F h (fun a b => a = av /\ b = h') /\ ∀ d, o.dst = some d -> get F d = some av
 | none => ∃ av, ((c = 0 /\ Stable P F hb o.op av) ∨ (0 < c /\ ∃ h0, hs[c]? = some h0 /\ aopQ P o.op F h0 av)) /\ quietOp o.op = true /\ ∀ d, o.dst = some d -> get F d = some av
def PassFactA (P : Program) (F : Env) (hb : AHeap) (hs : List AHeap) (c : Nat) (o : AOper) (n : Option Nat) : Prop :=
 let skip := n = none /\ ∀ d, o.dst = some d -> get F d = some (.tuple [])
 match o.guard with
 | none => PassDoesA P F hb hs c o n
 | some (t, want) => (∃ b, get F t = some (.v (.bool b)) /\ (b = want -> PassDoesA P F hb hs c o n) /\ (b ≠ want -> skip)) ∨ (get F t = some (.tuple []) /\ skip)
structure PassA (P : Program) (l : List AOper) (env F : Env) (hb cur h' : AHeap) (i0 : Nat) (az : List (Nat × List AV)) (hs : List AHeap) (fl : List (Option Nat)) : Prop where
 len : fl.length = l.length
 first : hs[0]? = some ⟨cur.blks ++ az.map (fun p => some p.2), cur.bufs, cur.globs⟩
 last : ∃ n, hs.length = n + 1 /\ hs[n]? = some h'
 bound : ∀ i n : Nat, fl[i]? = some (some n) -> n + 1 < hs.length
 mono : ∀ i k a b : Nat, i < k -> fl[i]? = some (some a) -> fl[k]? = some (some b) -> a < b
 onto : ∀ n : Nat, n + 1 < hs.length -> ∃ i : Nat, fl[i]? = some (some n)
 keep : ∀ t, writes t l = false -> get F t = get env t
 pos : ∀ (q : Nat) (p : Nat × List AV), az[q]? = some p -> ∃ i o, p.1 = i0 + i /\ l[i]? = some o /\ o.op = .alloc p.2 /\ o.guard = none /\ fl[i]? = some none /\ ∀ d, o.dst = some d -> get F d = some (.ptr (cur.blks.length + q) 0)
 incr : ∀ (q r : Nat) (p s : Nat × List AV), q < r -> az[q]? = some p -> az[r]? = some s -> p.1 < s.1
 fact : ∀ (i : Nat) (o : AOper) (n : Option Nat), l[i]? = some o -> fl[i]? = some n -> (∃ (q : Nat) (p : Nat × List AV), az[q]? = some p /\ p.1 = i0 + i) ∨ PassFactA P F hb hs (cntS (fl.take i)) o n
theorem vaF_ok {P : Program} {md : Bool} {callX callP callG : Callee} (hcX : CallExt P callX) (hcP : CallOK P callP) (hcG : CallOK P callG) (hq : ∀ f args h a h', callP f args h = some (a, h') -> h' = h) {hb : AHeap} : ∀ {l : List AOper} {env F : Env} {cur : AHeap} {i0 : Nat} {az : List (Nat × List AV)} {hs : List AHeap} {fl : List (Option Nat)}, okq l = true -> vaF md callX callP callG hb l env cur i0 = some (F, az, hs, fl) -> ∃ h', PassA P l env F hb cur h' i0 az hs fl
 | [], env, F, cur, i0, az, hs, fl, _, he => by
  simp only [vaF, Option.some.injEq, Prod.mk.injEq] at he
  obtain ⟨rfl, rfl, rfl, rfl⟩ := he
  exact ⟨cur, rfl, by simp, ⟨0, rfl, rfl⟩, fun i n hi => by simp at hi, fun i k a b _ hi => by simp at hi, fun n h1 => by simp at h1, fun _ _ => rfl, fun q p hq => by simp at hq, fun q r p s _ hq => by simp at hq, fun i o n hi => by simp at hi⟩
 | o :: r, env, F, cur, i0, az, hs, fl, hok, he => by
  have hok0 := hok
  simp only [okq, Bool.and_eq_true, List.all_eq_true] at hok
  obtain ⟨⟨hlook, hdst⟩, hokr⟩ := hok
  have hwr : ∀ t, writes t (o :: r) = false -> o.dst ≠ some t /\ writes t r = false := by
   intro t ht
   simp only [writes, List.any_cons, Bool.or_eq_false_iff] at ht ⊢
   exact ⟨by simpa using ht.1, ht.2⟩
  have hd : ∀ d, o.dst = some d -> writes d r = false := by
   intro d hd
   rw [hd] at hdst
   simpa using hdst
  have hl : ∀ (F : Env), (∀ t, writes t (o :: r) = false -> get F t = get env t) -> ∀ t ∈ o.looks, get env t = get F t := fun F hF t ht => (hF t (by simpa using hlook t ht)).symm
  have hcong : ∀ (F : Env), (∀ t, writes t (o :: r) = false -> get F t = get env t) -> ∀ (h : AHeap) (K : AV -> AHeap -> Prop), aop P o.op env h K -> aop P o.op F h K := by
   intro F hF h K hq
   rw [← aop_congr (e1 := env) (e2 := F)]
   ·exact hq
   ·intro x hx
    cases x with
    | c a => rfl
    | t n =>
     refine hl F hF n ?_
     simp only [AOper.looks, List.mem_append, List.mem_filterMap]
     exact .inl ⟨.t n, hx, rfl⟩
  have guardT : ∀ (F : Env) (D S : Prop), (∀ t, writes t (o :: r) = false -> get F t = get env t) -> guardF env o.guard = some true -> D -> (match o.guard with | none => D | some (t, want) => (∃ b, get F t = some (.v (.bool b)) /\ (b = want -> D) /\ (b ≠ want -> S)) ∨ (get F t = some (.tuple []) /\ S)) := by
   intro F D S hF hg hD
   split
   ·exact hD
   ·rename_i t want hgd
    rw [hgd] at hg
    simp only [guardF, Option.bind_eq_some_iff] at hg
    obtain ⟨v, h1, h2⟩ := hg
    split at h2
    ·rename_i b
     simp only [Option.some.injEq, beq_iff_eq] at h2
     exact .inl ⟨b, by rw [← hl F hF t (by simp [AOper.looks, hgd])]; exact h1, fun _ => hD, fun hn => absurd h2 hn⟩
    ·cases h2
    ·cases h2
  have guardN : ∀ (F : Env) (D S : Prop), (∀ t, writes t (o :: r) = false -> get F t = get env t) -> guardF env o.guard = some false -> S -> (match o.guard with | none => D | some (t, want) => (∃ b, get F t = some (.v (.bool b)) /\ (b = want -> D) /\ (b ≠ want -> S)) ∨ (get F t = some (.tuple []) /\ S)) := by
   intro F D S hF hg hS
   split
   ·rename_i hgd; rw [hgd] at hg; simp [guardF] at hg
   ·rename_i t want hgd
    rw [hgd] at hg
    simp only [guardF, Option.bind_eq_some_iff] at hg
    obtain ⟨v, h1, h2⟩ := hg
    split at h2
    ·rename_i b
     simp only [Option.some.injEq, beq_eq_false_iff_ne] at h2
     exact .inl ⟨b, by rw [← hl F hF t (by simp [AOper.looks, hgd])]; exact h1, fun h => absurd h h2, fun _ => hS⟩
    ·exact .inr ⟨by rw [← hl F hF t (by simp [AOper.looks, hgd])]; exact h1, hS⟩
    ·cases h2
  have still : ∀ (env' : Env) (fl' : List (Option Nat)) (as' : List (Nat × List AV)) (h' : AHeap), PassA P r env' F hb cur h' (i0 + 1) as' hs fl' -> (∀ t, o.dst ≠ some t -> get env' t = get env t) -> (PassFactA P F hb hs 0 o none) -> PassA P (o :: r) env F hb cur h' i0 as' hs (none :: fl') := by
   intro env' fl' as' h' hp henv hf
   refine ⟨by simp [hp.len], hp.first, hp.last, fun i n hi => ?_, fun i k a b hik hi hk => ?_, fun n h1 => ?_, fun t ht => ?_, fun q p hqp => ?_, hp.incr, fun i o' n hi hn => ?_⟩
   ·cases i with
    | zero => simp at hi
    | succ i => exact hp.bound i n (by simpa using hi)
   ·cases i with
    | zero => simp at hi
    | succ i => cases k with
     | zero => omega
     | succ k => exact hp.mono i k a b (by omega) (by simpa using hi) (by simpa using hk)
   ·obtain ⟨i, hi⟩ := hp.onto n h1
    exact ⟨i + 1, by simpa using hi⟩
   ·obtain ⟨h1, h2⟩ := hwr t ht
    rw [hp.keep t h2, henv t h1]
   ·obtain ⟨i, o', e1, e2, e3⟩ := hp.pos q p hqp
    exact ⟨i + 1, o', by omega, by simpa using e2, by simpa using e3⟩
   ·cases i with
    | zero => simp at hi hn; subst hi hn; exact .inr (by simpa [cntS] using hf)
    | succ i =>
     rcases hp.fact i o' n (by simpa using hi) (by simpa using hn) with ⟨q, p, e1, e2⟩ | h
     ·exact .inl ⟨q, p, e1, by omega⟩
     ·exact .inr (by simpa [cntS] using h)
  simp only [vaF, Option.bind_eq_some_iff] at he
  obtain ⟨b, hb', he⟩ := he
  cases b with
  | false =>
   simp only [Option.map_eq_some_iff, Prod.mk.injEq] at he
   obtain ⟨⟨F', as', hs', fl'⟩, h1, rfl, rfl, rfl, rfl⟩ := he
   obtain ⟨h', hp⟩ := vaF_ok hcX hcP hcG hq hokr h1
   have hF : ∀ t, writes t (o :: r) = false -> get F' t = get env t := by
    intro t ht
    obtain ⟨g1, g2⟩ := hwr t ht
    rw [hp.keep t g2, get_dropE, if_neg g1]
   refine ⟨h', still _ fl' as' h' hp (fun t ht => by rw [get_dropE, if_neg ht]) ?_⟩
   exact guardN F' _ _ hF hb' ⟨rfl, fun d hd' => by rw [hp.keep d (hd d hd'), get_dropE, if_pos hd']⟩
  | true =>
   simp only at he
   split at he
   ·rename_i cells hop hgd
    simp only [Option.map_eq_some_iff, Prod.mk.injEq] at he
    obtain ⟨⟨F', as', hs', fl'⟩, h1, rfl, rfl, rfl, rfl⟩ := he
    obtain ⟨h', hp⟩ := vaF_ok hcX hcP hcG hq hokr h1
    refine ⟨h', by simp [hp.len], ?_, hp.last, fun i n hi => ?_, fun i k a b hik hi hk => ?_, fun n h1 => ?_, fun t ht => ?_, fun q p hqp => ?_, fun q r' p s hqr hqp hrs => ?_, fun i o' n hi hn => ?_⟩
    ·rw [hp.first]; simp
    ·cases i with
     | zero => simp at hi
     | succ i => exact hp.bound i n (by simpa using hi)
    ·cases i with
     | zero => simp at hi
     | succ i => cases k with
      | zero => omega
      | succ k => exact hp.mono i k a b (by omega) (by simpa using hi) (by simpa using hk)
    ·obtain ⟨i, hi⟩ := hp.onto n h1
     exact ⟨i + 1, by simpa using hi⟩
    ·obtain ⟨h1, h2⟩ := hwr t ht
     rw [hp.keep t h2, get_putE, if_neg h1]
    ·cases q with
     | zero =>
      simp at hqp
      subst hqp
      exact ⟨0, o, by simp, rfl, hop, hgd, rfl, fun d hd' => by rw [hp.keep d (hd d hd'), get_putE, if_pos hd']; simp⟩
     | succ q =>
      obtain ⟨i, o', e1, e2, e3, e4, e5, e6⟩ := hp.pos q p (by simpa using hqp)
      refine ⟨i + 1, o', by omega, by simpa using e2, e3, e4, by simpa using e5, fun d hd' => ?_⟩
      rw [e6 d hd']
      simp only [List.length_append, List.length_cons, List.length_nil]
      congr 2; omega
    ·cases r' with
     | zero => omega
     | succ r' =>
      cases q with
      | zero =>
       simp at hqp
       subst hqp
       obtain ⟨i, _, e1, _⟩ := hp.pos r' s (by simpa using hrs)
       simp only; omega
      | succ q => exact hp.incr q r' p s (by omega) (by simpa using hqp) (by simpa using hrs)
    ·cases i with
     | zero => exact .inl ⟨0, (i0, cells), rfl, by simp⟩
     | succ i =>
      rcases hp.fact i o' n (by simpa using hi) (by simpa using hn) with ⟨q, p, e1, e2⟩ | h
      ·exact .inl ⟨q + 1, p, by simpa using e1, by omega⟩
      ·exact .inr (by simpa [cntS] using h)
   ·split at he
    ·rename_i p hp0
     split at hp0
     ·rename_i hquiet
      obtain ⟨av, hav⟩ := p
      have hst := stable_of hcX hquiet hp0
      simp only [Option.map_eq_some_iff, Prod.mk.injEq] at he
      obtain ⟨⟨F', as', hs', fl'⟩, h1, rfl, rfl, rfl, rfl⟩ := he
      obtain ⟨h', hp⟩ := vaF_ok hcX hcP hcG hq hokr h1
      have hF : ∀ t, writes t (o :: r) = false -> get F' t = get env t := by
       intro t ht
       obtain ⟨g1, g2⟩ := hwr t ht
       rw [hp.keep t g2, get_putE, if_neg g1]
      refine ⟨h', still _ fl' as' h' hp (fun t ht => by rw [get_putE, if_neg ht]) ?_⟩
      exact guardT F' _ _ hF hb' ⟨av, .inl ⟨rfl, fun h2 e1 e2 => hcong F' hF h2 _ (hst h2 e1 e2)⟩, hquiet, fun d hd' => by rw [hp.keep d (hd d hd'), get_putE, if_pos hd']⟩
     ·cases hp0
    ·simp only [Option.bind_eq_some_iff, Option.map_eq_some_iff, Prod.mk.injEq] at he
     obtain ⟨⟨av, h2⟩, hp0, ⟨F', hs', fl'⟩, h1, rfl, rfl, rfl, rfl⟩ := he
     obtain ⟨h', hp⟩ := vhF_ok hcP hcG hq hokr h1
     have hF : ∀ t, writes t (o :: r) = false -> get F' t = get env t := by
      intro t ht
      obtain ⟨g1, g2⟩ := hwr t ht
      rw [hp.keep t g2, get_putE, if_neg g1]
     refine ⟨h', by simp [hp.len], by simp, ?_, fun i n hi => ?_, fun i k a b hik hi hk => ?_, fun n g2 => ?_, hF, fun q p hqp => by simp at hqp, fun q r p s _ hqp => by simp at hqp, fun i o' n hi hn => .inr ?_⟩
     ·obtain ⟨n, hn, hl'⟩ := hp.last
      exact ⟨n + 1, by simp [hn], by simpa using hl'⟩
     ·cases i with
      | zero =>
       simp at hi; subst hi
       obtain ⟨n, hn, _⟩ := hp.last
       simp; omega
      | succ i =>
       have := hp.bound i n (by simpa using hi)
       simp; omega
     ·cases k with
      | zero => omega
      | succ k =>
       cases i with
       | zero =>
        simp at hi; subst hi
        have := (hp.bound k b (by simpa using hk)).1
        omega
       | succ i => exact hp.mono i k a b (by omega) (by simpa using hi) (by simpa using hk)
     ·by_cases hnj : n = 0
      ·subst hnj; exact ⟨0, rfl⟩
      ·obtain ⟨i, hi⟩ := hp.onto n (by omega) (by simp at g2; omega)
       exact ⟨i + 1, by simpa using hi⟩
     ·cases i with
      | zero =>
       simp at hi hn
       subst hi hn
       exact guardT F' _ _ hF hb' ⟨av, cur, h2, by simp, by simpa using hp.first, hcong F' hF cur _ (aopF_ok (K := fun a b => a = av /\ b = h2) hcG hp0 ⟨rfl, rfl⟩), fun d hd' => by rw [hp.keep d (hd d hd'), get_putE, if_pos hd']⟩
      | succ i =>
       have hn' : fl'[i]? = some n := by simpa using hn
       have hf := hp.fact i o' n (by simpa using hi) hn'
       have e : cntS ((some 0 :: fl').take (i + 1)) = cntS (fl'.take i) + 1 := by simp [cntS]
       rw [e]
       have conv : PassDoes P F' hs' 1 (cntS (fl'.take i)) o' n -> PassDoesA P F' hb (cur :: hs') (cntS (fl'.take i) + 1) o' n := by
        intro hd
        cases n with
        | none =>
         obtain ⟨av, h0, g1, g2, g3, g4⟩ := hd
         exact ⟨av, .inr ⟨by omega, h0, by simpa using g1, g2⟩, g3, g4⟩
        | some m =>
         obtain ⟨av, h1, h2, g1, g2, g3⟩ := hd
         have := (hp.bound i m hn').1
         refine ⟨av, h1, h2, ?_, ?_, g3⟩
         ·rw [show m = (m - 1) + 1 by omega]; simpa using g1
         ·rw [show m + 1 = (m - 1 + 1) + 1 by omega]; simpa using g2
       unfold PassFactA
       unfold PassFact at hf
       cases hgd : o'.guard with
       | none => simp only [hgd] at hf ⊢; exact conv hf
       | some g =>
        obtain ⟨t, want⟩ := g
        simp only [hgd] at hf ⊢
        rcases hf with ⟨b, h1, h2, h3⟩ | hf
        ·exact .inl ⟨b, h1, fun hb => conv (h2 hb), h3⟩
        ·exact .inr hf
def upTo (ord : List (List Nat)) (fl : List (Option Nat)) (i j0 last : Nat) : Nat :=
 match (List.range fl.length).find? fun k => match fl[k]? with
  | some (some n) => decide (j0 <= n) && (ord.getD k []).contains i
  | _ => false with
 | some k => match fl[k]? with
  | some (some n) => n
  | _ => last
 | none => last
def reOK (md : Bool) (callP : Callee) (F : Env) (o : AOper) (h : AHeap) : Bool :=
 match aopF md callP o.op F h, o.dst with
 | some (a, _), some d => match get F d with
  | some b => beqA a b
  | none => false
 | _, _ => false
def posOK (md : Bool) (callP : Callee) (F : Env) (az : List (Nat × List AV)) (hs : List AHeap) (fl : List (Option Nat)) (ord : List (List Nat)) (al : List AOper) : Bool :=
 (List.range al.length).all fun i => match al[i]?, fl[i]? with
  | some o, some none => match guardF F o.guard with
   | some true => az.any (fun p => p.1 == i) || pureOp o.op || ((List.range fl.length).all (fun k => match fl[k]? with
      | some (some n) => decide (cntS (fl.take i) <= n) || (ord.getD i []).contains k
      | _ => true) && ((hs.drop (cntS (fl.take i) + 1)).take (upTo ord fl i (cntS (fl.take i)) (hs.length - 1) - cntS (fl.take i))).all (reOK md callP F o))
   | some false => true
   | none => false
  | some o, some (some n) => (List.range i).all (fun k => match fl[k]? with
   | some (some _) => (ord.getD i []).contains k
   | _ => true) && az.all fun p => (ord.getD i []).contains p.1
  | _, _ => false
theorem noise_ok {P : Program} {md : Bool} {callX callP callG : Callee} (hcX : CallExt P callX) (hcP : CallOK P callP) (hcG : CallOK P callG) (hq : ∀ f args h a h', callP f args h = some (a, h') -> h' = h) {l : List AOper} {env F : Env} {h : AHeap} {az : List (Nat × List AV)} {hs : List AHeap} {fl : List (Option Nat)} {ord : List (List Nat)} (hok : okq l = true) (he : vaF md callX callP callG h l env h 0 = some (F, az, hs, fl)) (hp : posOK md callP F az hs fl ord l = true) :
  ∃ h', hs.getLast? = some h' /\ Noise P ord l env F h h' az hs fl := by
 obtain ⟨h', ps⟩ := vaF_ok hcX hcP hcG hq hok he
 simp only [posOK, List.all_eq_true, List.mem_range] at hp
 obtain ⟨nl, hnl, hlast⟩ := ps.last
 have hnoisy : ∀ k n : Nat, fl[k]? = some (some n) -> (∀ i, i < k -> ∀ m : Nat, fl[i]? = some (some m) -> i ∈ ord.getD k []) /\ ∀ p ∈ az, p.1 ∈ ord.getD k [] := by
  intro k n hk
  have hkl : k < l.length := by rw [← ps.len]; exact (List.getElem?_eq_some_iff.1 hk).1
  have := hp k hkl
  rw [List.getElem?_eq_getElem hkl, hk] at this
  simp only [Bool.and_eq_true, List.all_eq_true, List.mem_range] at this
  refine ⟨fun i hik m hi => ?_, fun p hp => by simpa using this.2 p hp⟩
  have := this.1 i hik
  rw [hi] at this
  simpa using this
 refine ⟨h', by rw [List.getLast?_eq_getElem?, hnl]; simpa using hlast, ps.len, fun i k a b hik hi hk => ⟨ps.mono i k a b hik hi hk, (hnoisy k b hk).1 i hik a hi⟩, fun j hj => ps.onto j hj, ?_, ps.last, ps.bound, ps.keep, fun q p hqp => ?_, fun q r p s hqp hrs hps => ?_, fun k n hk => (hnoisy k n hk).2, fun i o n hi hn => ?_⟩
 ·rw [ps.first]; simp [hA]
 ·obtain ⟨i, o, e1, e2, e3, e4, e5, e6⟩ := ps.pos q p hqp
  have : p.1 = i := by omega
  rw [this]
  exact ⟨o, e2, e3, e4, e5, e6⟩
 ·rcases Nat.lt_trichotomy q r with hlt | heq | hgt
  ·have := ps.incr q r p s hlt hqp hrs; omega
  ·exact heq
  ·have := ps.incr r q s p hgt hrs hqp; omega
 ·rcases ps.fact i o n hi hn with ⟨q, p, e1, e2⟩ | hf
  ·exact .inl ⟨q, p, e1, by omega⟩
  by_cases hisA : ∃ (q : Nat) (p : Nat × List AV), az[q]? = some p /\ p.1 = i
  ·exact .inl hisA
  right
  have hil : i < l.length := (List.getElem?_eq_some_iff.1 hi).1
  have hpi := hp i hil
  rw [hi, hn] at hpi
  have hpos : 0 < hs.length := by omega
  have conv : guardF F o.guard = some true -> PassDoesA P F h hs (cntS (fl.take i)) o n -> DoesN P F h az hs ord fl i o n := by
   intro hg hd
   cases n with
   | some n => exact hd
   | none =>
    obtain ⟨av, hqa, hquiet, hfd⟩ := hd
    simp only [hg] at hpi
    have hnotA : (az.any fun p => p.1 == i) = false := by
     rw [List.any_eq_false]
     intro p hp hpe
     obtain ⟨q, hq⟩ := List.mem_iff_getElem?.1 hp
     exact hisA ⟨q, p, hq, by simpa using hpe⟩
    rw [hnotA, Bool.false_or] at hpi
    by_cases hpure : pureOp o.op = true
    ·have hany : ∀ h2, aopQ P o.op F h2 av := by
      intro h2
      rcases hqa with ⟨_, hst⟩ | ⟨_, h0, _, hqa⟩
      ·exact aopQ_pure hpure (hst h ⟨[], by simp⟩ rfl)
      ·exact aopQ_pure hpure hqa
     exact ⟨av, 0, hs.length - 1, hpos, fun j lst h2 _ _ _ => hany h2, fun k n _ h => by omega, .inl (by omega), hfd⟩
    ·simp only [hpure, Bool.false_or, Bool.and_eq_true, List.all_eq_true, List.mem_range] at hpi
     obtain ⟨hlo, hre⟩ := hpi
     have hc0 : cntS (fl.take i) < hs.length := by
      rcases hqa with ⟨h0, _⟩ | ⟨_, h0, e0, _⟩
      ·omega
      ·exact (List.getElem?_eq_some_iff.1 e0).1
     refine ⟨av, cntS (fl.take i), upTo ord fl i (cntS (fl.take i)) (hs.length - 1), hc0, ?_, ?_, ?_, hfd⟩
     ·intro j lst hj h1 h2 h3
      by_cases hjj : j = cntS (fl.take i)
      ·rcases hqa with ⟨h0, hst⟩ | ⟨h0, hh, e0, hqa⟩
       ·have hj0 : j = 0 := by omega
        subst hj0
        have : hj = hA h az lst := (Option.some.inj h3).symm
        subst this
        exact hst _ ⟨_, rfl⟩ rfl
       ·cases j with
        | zero => omega
        | succ j =>
         have h3' : hs[j + 1]? = some hj := h3
         rw [hjj, e0] at h3'; cases h3'
         exact hqa
      ·have h3' : hs[j]? = some hj := by
        cases j with
        | zero => omega
        | succ j => exact h3
       have hmem : hj ∈ (hs.drop (cntS (fl.take i) + 1)).take (upTo ord fl i (cntS (fl.take i)) (hs.length - 1) - cntS (fl.take i)) := by
        refine List.mem_of_getElem? (i := j - (cntS (fl.take i) + 1)) ?_
        rw [List.getElem?_take, if_pos (by omega), List.getElem?_drop, show cntS (fl.take i) + 1 + (j - (cntS (fl.take i) + 1)) = j by omega]
        exact h3'
       have := hre hj hmem
       unfold reOK at this
       split at this
       ·rename_i a' h4 d ha hd
        split at this
        ·rename_i b hb
         have hab := beqA_eq _ _ this
         have h5 := aopF_quiet hq hquiet ha
         have h6 := hfd d hd
         rw [hb] at h6
         have hav : a' = av := hab.trans (Option.some.inj h6)
         rw [hav, h5] at ha
         exact aopF_ok (K := fun x y => x = av /\ y = hj) hcP ha ⟨rfl, rfl⟩
        ·cases this
       ·cases this
     ·intro k n hk hn'
      have hkl : k < fl.length := (List.getElem?_eq_some_iff.1 hk).1
      have := hlo k hkl
      rw [hk] at this
      simp only [Bool.or_eq_true, decide_eq_true_eq, List.contains_iff_mem] at this
      rcases this with h | h
      ·omega
      ·exact h
     ·unfold upTo
      split
      ·rename_i k hk
       have h1 := List.find?_some hk
       split at h1
       ·rename_i n hkn
        simp only [Bool.and_eq_true, decide_eq_true_eq, List.contains_iff_mem] at h1
        rw [hkn]
        exact .inr ⟨k, hkn, h1.2⟩
       ·cases h1
      ·exact .inl (by omega)
  unfold FactN
  unfold PassFactA at hf
  cases hgd : o.guard with
  | none =>
   simp only [hgd] at hf ⊢
   exact conv (by rw [hgd]; rfl) hf
  | some g =>
   obtain ⟨t, want⟩ := g
   simp only [hgd] at hf ⊢
   rcases hf with ⟨b, h1, h2, h3⟩ | hf
   ·refine .inl ⟨b, h1, fun hb => conv ?_ (h2 hb), h3⟩
    rw [hgd]; simp [guardF, h1, hb]
   ·exact .inr hf
abbrev Tbl := List (Nat × (Nat × ACode × List ARes))
def look : Tbl -> Nat -> Option (Nat × ACode × List ARes)
 | [], _ => none
 | (g, x) :: r, f => if g = f then some x else look r f
def TblOK (P : Program) (T : Tbl) : Prop := ∀ g x, (g, x) ∈ T -> getFn P g = some x
theorem look_mem : ∀ {T : Tbl} {f : Nat} {x : Nat × ACode × List ARes}, look T f = some x -> (f, x) ∈ T
 | [], f, x, h => by cases h
 | (g, y) :: r, f, x, h => by
  simp only [look] at h
  split at h
  ·rename_i hg; subst hg; cases h; simp
  ·simp [look_mem h]
def dedup : Env -> Env
 | [] => []
 | (t, a) :: e => (t, a) :: drop t (dedup e)
theorem drop_mem : ∀ {e : Env} {t u : Nat} {b : AV}, (u, b) ∈ drop t e -> u ≠ t /\ (u, b) ∈ e
 | [], t, u, b, h => by simp [drop] at h
 | (k, a) :: e, t, u, b, h => by
  simp only [drop] at h
  split at h
  ·obtain ⟨h1, h2⟩ := drop_mem h; exact ⟨h1, by simp [h2]⟩
  ·rename_i hk
   rcases List.mem_cons.1 h with h | h
   ·cases h; exact ⟨hk, by simp⟩
   ·obtain ⟨h1, h2⟩ := drop_mem h; exact ⟨h1, by simp [h2]⟩
theorem dedup_mem : ∀ {e : Env} {u : Nat} {b : AV}, (u, b) ∈ dedup e -> get e u = some b
 | [], u, b, h => by simp [dedup] at h
 | (t, a) :: e, u, b, h => by
  simp only [dedup, List.mem_cons] at h
  rcases h with h | h
  ·cases h; simp [get]
  ·obtain ⟨h1, h2⟩ := drop_mem h
   simp only [get]
   rw [if_neg (fun x => h1 x.symm)]
   exact dedup_mem h2
theorem envLe_of : ∀ {e env : Env}, (∀ u b, (u, b) ∈ e -> get env u = some b) -> EnvLe e env
 | [], _, _ => trivial
 | (t, a) :: e, env, h => ⟨h t a (by simp), envLe_of fun u b hu => h u b (by simp [hu])⟩
theorem dedup_le (e : Env) : EnvLe (dedup e) e := envLe_of fun _ _ h => dedup_mem h
def outsF (env : Env) (h : AHeap) : List ARes -> Option (List AV)
 | [] => some []
 | .tmp t :: r => (get env t).bind fun a => (outsF env h r).map fun l => a :: l
 | .cell t n :: r => (get env t).bind fun p => (loadedF h n p).bind fun a => (outsF env h r).map fun l => a :: l
theorem outsF_ok {env : Env} {h : AHeap} : ∀ {rs : List ARes} {l : List AV} {K : List AV -> Prop}, outsF env h rs = some l -> K l -> outs env h rs K
 | [], l, K, he, hk => by cases he; exact hk
 | .tmp t :: r, l, K, he, hk => by
  simp only [outsF, Option.bind_eq_some_iff, Option.map_eq_some_iff] at he
  obtain ⟨a, h1, l', h2, rfl⟩ := he
  simp only [outs, h1, wv]
  exact outsF_ok (K := fun l => K (a :: l)) h2 hk
 | .cell t n :: r, l, K, he, hk => by
  simp only [outsF, Option.bind_eq_some_iff, Option.map_eq_some_iff] at he
  obtain ⟨p, h1, a, h2, l', h3, rfl⟩ := he
  simp only [outs, h1, wv]
  exact loadedF_ok (K := fun a => outs env h r fun l => K (a :: l)) h2 (outsF_ok (K := fun l => K (a :: l)) h3 hk)
abbrev Runner := Bool -> ACode -> Env -> AHeap -> Option (Exit × Env × AHeap)
def ended : Exit -> Bool
 | .normal | .ret => true
 | _ => false
def fnAt (T : Tbl) (M : Nat -> Bool -> Bool) (md : Bool) (ih : Runner) : Callee := fun f args h => (look T f).bind fun x =>
 if args.length <= x.1 then (ih (M f md) x.2.1 (envOf 0 args) h).bind fun r => if ended r.1 = true then (outsF r.2.1 r.2.2 x.2.2).map fun l => (retv l, r.2.2) else none else none
def outV (h : AHeap) (a : AV) : AV := if plain (wk a) = true then wk a else thawN 8 h (wk a)
def thawL (h : AHeap) (l : List AV) : List AV := l.map fun a => thawN 8 h (wk a)
def fnP (T : Tbl) (M : Nat -> Bool -> Bool) (md : Bool) (ih : Runner) : Callee := fun f args h =>
 if plainG h.globs = true then
  if plainL (args.map wk) = true then (fnAt T M md ih f (args.map wk) ⟨[], [], h.globs⟩).bind fun r => if plain (outV r.2 r.1) = true then some (outV r.2 r.1, h) else none
  else if plainL (thawL h args) = true then (fnAt T M md ih f (thawL h args) ⟨[], [], h.globs⟩).bind fun r => if plain (outV r.2 r.1) = true /\ bareV (outV r.2 r.1) = true then some (outV r.2 r.1, h) else none
  else none
 else none
def fnX (T : Tbl) (M : Nat -> Bool -> Bool) (md : Bool) (ih : Runner) : Callee := fun f args h =>
 if plainG h.globs = true /\ plainL (args.map wk) = true then (fnAt T M md ih f (args.map wk) ⟨[], [], h.globs⟩).bind fun r => if plain (outV r.2 r.1) = true then some (outV r.2 r.1, h) else none
 else none
def fnG (T : Tbl) (M : Nat -> Bool -> Bool) (md : Bool) (ih : Runner) : Callee := fun f args h => if plainL args = true then fnP T M md ih f args h else fnAt T M md ih f args h
def stepC (T : Tbl) (M : Nat -> Bool -> Bool) (ih : Runner) : Runner := fun md ac env h =>
 match ac with
 | .skip => some (.normal, env, h)
 | .region ops => (vopsF md (fnG T M md ih) ops env h).map fun r => (.normal, r.1, r.2)
 | .drawn ord al tl => match (if (al.all fun o => quietOp o.op) = true then vqF md (fnP T M md ih) al env h else none) with
  | some F => (vopsF md (fnG T M md ih) tl F h).map fun r => (.normal, r.1, r.2)
  | none => (vaF md (fnX T M md ih) (fnP T M md ih) (fnG T M md ih) h al env h 0).bind fun x => if okq al = true /\ posOK md (fnP T M md ih) x.1 x.2.1 x.2.2.1 x.2.2.2 ord al = true then x.2.2.1.getLast?.bind fun h' => (vopsF md (fnG T M md ih) tl x.1 h').map fun r => (.normal, r.1, r.2) else none
 | .seq a b => (ih md a env h).bind fun r => match r.1 with
  | .normal => ih md b r.2.1 r.2.2
  | _ => some r
 | .cond c a b => (c.ev env).bind fun v => match v with
  | .v (.bool true) => ih md a env h
  | .v (.bool false) => ih md b env h
  | _ => none
 | .block id a => (ih md a env h).map fun r => match r.1 with
  | .exit i => (if i = id then .normal else .exit i, r.2)
  | _ => r
 | .loop a => (ih md a (dedup env) h).bind fun r => match r.1 with
  | .normal => ih md (.loop a) r.2.1 r.2.2
  | _ => some r
 | .exit id => some (.exit id, env, h)
 | .ret => some (.ret, env, h)
 | .label _ => some (.normal, env, h)
 | .goto l => some (.goto l, env, h)
 | .scope a => (ih md a env h).bind fun r => match r.1 with
  | .goto l => ih md (.from_ a l) r.2.1 r.2.2
  | _ => some r
 | .from_ a l => (aFind a l).bind fun rest => (ih md rest (dedup env) h).bind fun r => match r.1 with
  | .goto l' => if l' = l then ih md (.from_ a l) r.2.1 r.2.2 else none
  | _ => some r
noncomputable def evC (T : Tbl) (M : Nat -> Bool -> Bool) (n : Nat) : Runner := Nat.rec (fun _ _ _ _ => none) (fun _ ih => stepC T M ih) n
def RunOK (P : Program) (ih : Runner) : Prop := ∀ md ac env h r, ih md ac env h = some r -> ∀ (N : Nat) (Q : Exit -> Env -> AHeap -> Prop), Q r.1 r.2.1 r.2.2 -> asem P N ac Q env h
theorem fnAt_body {P : Program} {T : Tbl} {M : Nat -> Bool -> Bool} {md : Bool} (hT : TblOK P T) {ih : Runner} (hi : RunOK P ih) {f : FuncId} {args : List AV} {h h' : AHeap} {a : AV} (he : fnAt T M md ih f args h = some (a, h')) :
  ∃ N ac rs, getFn P f = some (N, ac, rs) /\ args.length <= N /\ ∀ K : AV -> AHeap -> Prop, K a h' -> asem P N ac (fnPost rs K) (envOf 0 args) h := by
 simp only [fnAt, Option.bind_eq_some_iff] at he
 obtain ⟨⟨N, ac, rs⟩, h1, h2⟩ := he
 simp only at h2
 split at h2
 ·rename_i hn
  simp only [Option.bind_eq_some_iff] at h2
  obtain ⟨⟨e, env, h2'⟩, h3, h4⟩ := h2
  simp only at h4
  split at h4
  ·rename_i hend
   simp only [Option.map_eq_some_iff, Prod.mk.injEq] at h4
   obtain ⟨l, h5, rfl, rfl⟩ := h4
   refine ⟨N, ac, rs, hT _ _ (look_mem h1), hn, fun K hk => hi _ _ _ _ _ h3 N _ ?_⟩
   cases e <;> simp [ended] at hend
   ·exact outsF_ok (K := fun l => K (retv l) h2') h5 hk
   ·exact outsF_ok (K := fun l => K (retv l) h2') h5 hk
  ·cases h4
 ·cases h2
theorem fnAt_ok {P : Program} {T : Tbl} {M : Nat -> Bool -> Bool} {md : Bool} (hT : TblOK P T) {ih : Runner} (hi : RunOK P ih) : CallOK P (fnAt T M md ih) := by
 intro f args h a h' he K hk
 obtain ⟨N, ac, rs, h1, h2, h3⟩ := fnAt_body hT hi he
 exact call_of h1 h2 (h3 K hk)
theorem fnP_pure {P : Program} {T : Tbl} {M : Nat -> Bool -> Bool} {md : Bool} (hT : TblOK P T) {ih : Runner} (hi : RunOK P ih) {f : FuncId} {args : List AV} {gl : List (Nat × List AV)} {a : AV} {h' : AHeap} (he : fnAt T M md ih f args ⟨[], [], gl⟩ = some (a, h')) (hp : plain (outV h' a) = true) :
  PureC P gl f args fun b => b = outV h' a := by
 obtain ⟨N, ac, rs, h1, h2, h3⟩ := fnAt_body hT hi he
 unfold outV at hp ⊢
 split at hp
 ·rename_i hpl; rw [if_pos hpl]; exact pure_of h1 h2 (h3 _ ⟨hp, rfl⟩)
 ·rename_i hpl; rw [if_neg hpl]; exact pure_of_thaw 8 h1 h2 (h3 _ ⟨hp, rfl⟩)
theorem fnP_ok {P : Program} {T : Tbl} {M : Nat -> Bool -> Bool} {md : Bool} (hT : TblOK P T) {ih : Runner} (hi : RunOK P ih) : CallOK P (fnP T M md ih) := by
 intro f args h a h' he K hk
 simp only [fnP] at he
 split at he
 ·rename_i hg
  split at he
  ·rename_i hc
   simp only [Option.bind_eq_some_iff] at he
   obtain ⟨⟨b, h2⟩, h3, h4⟩ := he
   simp only at h4
   split at h4
   ·rename_i hp
    cases h4
    exact pure_call (fnP_pure hT hi h3 hp) hg rfl hc fun av hav => by subst hav; exact hk
   ·cases h4
  ·split at he
   ·rename_i hc
    simp only [Option.bind_eq_some_iff] at he
    obtain ⟨⟨b, h2⟩, h3, h4⟩ := he
    simp only at h4
    split at h4
    ·rename_i hp
     cases h4
     exact pure_call_v 8 (fnP_pure hT hi h3 hp.1) hg rfl hc (fun av hav => by subst hav; exact hp.2) fun av hav => by subst hav; exact hk
    ·cases h4
   ·cases he
 ·cases he
theorem fnP_same {T : Tbl} {M : Nat -> Bool -> Bool} {md : Bool} {ih : Runner} : ∀ f args h a h', fnP T M md ih f args h = some (a, h') -> h' = h := by
 intro f args h a h' he
 simp only [fnP] at he
 split at he
 ·split at he
  ·simp only [Option.bind_eq_some_iff] at he
   obtain ⟨r, h3, h4⟩ := he
   split at h4 <;> cases h4
   rfl
  ·split at he
   ·simp only [Option.bind_eq_some_iff] at he
    obtain ⟨r, h3, h4⟩ := he
    split at h4 <;> cases h4
    rfl
   ·cases he
 ·cases he
theorem fnX_ok {P : Program} {T : Tbl} {M : Nat -> Bool -> Bool} {md : Bool} (hT : TblOK P T) {ih : Runner} (hi : RunOK P ih) : CallExt P (fnX T M md ih) := by
 intro f args h a h' he
 simp only [fnX] at he
 split at he
 ·rename_i hc
  simp only [Option.bind_eq_some_iff] at he
  obtain ⟨⟨b, h2⟩, h3, h4⟩ := he
  simp only at h4
  split at h4
  ·rename_i hp
   cases h4
   refine ⟨rfl, fun h2 hg K hk => ?_⟩
   have := fnP_pure hT hi h3 hp
   rw [← hg] at this
   exact pure_call this (by rw [hg]; exact hc.1) rfl hc.2 fun av hav => by subst hav; exact hk
  ·cases h4
 ·cases he
theorem fnG_ok {P : Program} {T : Tbl} {M : Nat -> Bool -> Bool} {md : Bool} (hT : TblOK P T) {ih : Runner} (hi : RunOK P ih) : CallOK P (fnG T M md ih) := by
 intro f args h a h' he K hk
 simp only [fnG] at he
 split at he
 ·exact fnP_ok hT hi _ _ _ _ _ he K hk
 ·exact fnAt_ok hT hi _ _ _ _ _ he K hk
theorem no_from {P : Program} {N : Nat} {Q : Exit -> Env -> AHeap -> Prop} {env : Env} {h : AHeap} {a : ACode} {l : Nat} : asem P N (.from_ a l) Q env h := by
 intro c hc
 exfalso
 cases c <;> (try simp only [compCode, Option.bind_eq_some_iff, Option.map_eq_some_iff] at hc)
 case region id ops d =>
  cases d <;> simp only [compCode, Option.bind_eq_some_iff, Option.map_eq_some_iff] at hc
  ·obtain ⟨_, _, hx⟩ := hc; cases hx
  ·obtain ⟨_, _, _, _, hx⟩ := hc; split at hx <;> cases hx
 all_goals first
  | (cases hc; done)
  | (obtain ⟨_, _, hx⟩ := hc; cases hx; done)
  | (obtain ⟨_, _, _, _, hx⟩ := hc; cases hx; done)
  | (obtain ⟨_, _, _, _, _, _, hx⟩ := hc; cases hx; done)
theorem evC_ok {P : Program} {T : Tbl} {M : Nat -> Bool -> Bool} (hT : TblOK P T) (n : Nat) : RunOK P (evC T M n) := by
 induction n using Nat.strongRecOn with
 | _ n IH =>
 cases n with
 | zero => intro md ac env h r he; cases he
 | succ n =>
  have hi := IH n (by omega)
  intro md ac env h r he N Q hq
  have he' : stepC T M (evC T M n) md ac env h = some r := he
  cases ac with
  | skip => cases he'; exact asem_skip hq
  | exit id => cases he'; exact asem_exit hq
  | ret => cases he'; exact asem_ret hq
  | label l => cases he'; exact asem_label hq
  | goto l => cases he'; exact asem_goto hq
  | from_ a l => exact no_from
  | scope a =>
   simp only [stepC, Option.bind_eq_some_iff] at he'
   obtain ⟨⟨x, env1, h1⟩, h2, h3⟩ := he'
   cases x <;> simp only at h3
   case goto l =>
    cases hf : aFind a l with
    | none =>
     exfalso
     cases n with
     | zero => cases h3
     | succ n =>
      have h3' : stepC T M (evC T M n) md (.from_ a l) env1 h1 = some r := h3
      simp only [stepC, hf, Option.bind_none] at h3'
      cases h3'
    | some rest =>
     refine asem_jumps l hf (fun m e h => m <= n /\ ∃ e', e = dedup e' /\ evC T M m md (.from_ a l) e' h = some r) (hi _ _ _ _ _ h2 N _ ⟨rfl, n, dedup env1, dedup_le env1, Nat.le_refl _, env1, rfl, h3⟩) ?_
     rintro m e h ⟨hm, e', rfl, hr⟩
     cases m with
     | zero => cases hr
     | succ m =>
      have hr' : stepC T M (evC T M m) md (.from_ a l) e' h = some r := hr
      simp only [stepC, hf, Option.bind_some, Option.bind_eq_some_iff] at hr'
      obtain ⟨⟨y, env2, h4⟩, h5, h6⟩ := hr'
      refine IH m (by omega) _ _ _ _ _ h5 N _ ?_
      cases y <;> simp only at h6
      case goto l' =>
       split at h6
       ·rename_i hl; exact ⟨hl, m, dedup env2, by omega, dedup_le env2, by omega, env2, rfl, h6⟩
       ·cases h6
      all_goals (cases h6; first | exact hq | exact hq)
   all_goals (cases h3; exact asem_scope (hi _ _ _ _ _ h2 N _ hq))
  | region ops =>
   simp only [stepC, Option.map_eq_some_iff] at he'
   obtain ⟨r1, h1, rfl⟩ := he'
   exact asem_region (vopsF_ok (fnG_ok hT hi) h1 hq)
  | drawn ord al tl =>
   simp only [stepC] at he'
   split at he'
   ·rename_i F hF
    split at hF
    ·simp only [Option.map_eq_some_iff] at he'
     obtain ⟨r1, h2, rfl⟩ := he'
     exact asem_drawn (vqF_ok (fnP_ok hT hi) fnP_same hF (vopsF_ok (fnG_ok hT hi) h2 hq))
    ·cases hF
   ·simp only [Option.bind_eq_some_iff] at he'
    obtain ⟨⟨F, az, hs, fl⟩, h1, h2⟩ := he'
    split at h2
    ·rename_i hc
     simp only [Option.bind_eq_some_iff, Option.map_eq_some_iff] at h2
     obtain ⟨h', h3, r1, h4, rfl⟩ := h2
     obtain ⟨h'', h5, h6⟩ := noise_ok (fnX_ok hT hi) (fnP_ok hT hi) (fnG_ok hT hi) fnP_same hc.1 h1 hc.2
     have h3' : hs.getLast? = some h' := h3
     rw [h5] at h3'; cases h3'
     exact asem_drawnN h6 (vopsF_ok (fnG_ok hT hi) h4 hq)
    ·cases h2
  | seq a b =>
   simp only [stepC, Option.bind_eq_some_iff] at he'
   obtain ⟨⟨e, env1, h1⟩, h2, h3⟩ := he'
   refine asem_seq (hi _ _ _ _ _ h2 N _ ?_)
   cases e <;> simp only at h3
   case normal => exact hi _ _ _ _ _ h3 N Q hq
   all_goals (cases h3; exact hq)
  | cond c a b =>
   simp only [stepC, Option.bind_eq_some_iff] at he'
   obtain ⟨v, h1, h2⟩ := he'
   split at h2
   ·exact asem_cond_b h1 (fun _ => hi _ _ _ _ _ h2 N Q hq) (fun h => by cases h)
   ·exact asem_cond_b h1 (fun h => by cases h) (fun _ => hi _ _ _ _ _ h2 N Q hq)
   ·cases h2
  | block id a =>
   simp only [stepC, Option.map_eq_some_iff] at he'
   obtain ⟨⟨e, env1, h1⟩, h2, h3⟩ := he'
   refine asem_block (hi _ _ _ _ _ h2 N _ ?_)
   cases e <;> simp only at h3
   case exit i =>
    subst h3
    show (if i = id then Q .normal env1 h1 else Q (.exit i) env1 h1)
    split
    ·rename_i hid; simp only [hid, if_true] at hq; exact hq
    ·rename_i hid; simp only [hid, if_false] at hq; exact hq
   all_goals (subst h3; exact hq)
  | loop a =>
   refine asem_loop (fun m e h => m <= n + 1 /\ ∃ e', e = dedup e' /\ evC T M m md (.loop a) e' h = some r) (n + 1) (dedup env) ⟨dedup_le env, Nat.le_refl _, env, rfl, he⟩ ?_
   rintro m e h ⟨hm, e', rfl, hr⟩
   cases m with
   | zero => cases hr
   | succ m =>
    have hr' : stepC T M (evC T M m) md (.loop a) e' h = some r := hr
    simp only [stepC, Option.bind_eq_some_iff] at hr'
    obtain ⟨⟨x, env1, h1⟩, h2, h3⟩ := hr'
    refine IH m (by omega) _ _ _ _ _ h2 N _ ?_
    cases x <;> simp only at h3
    case normal => exact ⟨m, dedup env1, by omega, dedup_le env1, by omega, env1, rfl, h3⟩
    all_goals (cases h3; exact hq)
theorem run_pure {P : Program} {T : Tbl} {M : Nat -> Bool -> Bool} {md : Bool} (hT : TblOK P T) (n : Nat) {f : FuncId} {args : List AV} {gl : List (Nat × List AV)} {a : AV} (he : (fnAt T M md (evC T M n) f args ⟨[], [], gl⟩).map (fun r => outV r.2 r.1) = some a) (hp : plain a = true) :
  PureC P gl f args fun b => b = a := by
 simp only [Option.map_eq_some_iff] at he
 obtain ⟨⟨b, h'⟩, h1, rfl⟩ := he
 exact fnP_pure hT (evC_ok hT n) h1 hp
def isNew (o : AOper) : Bool := match o.op, o.guard with
 | .alloc _, none => true
 | _, _ => false
def isChange (o : AOper) : Bool := !quietOp o.op && !isNew o
theorem a_min2 {P : Program} {env : Env} {h : AHeap} {K : AV -> AHeap -> Prop} {x y : AOpd} {k k' : IntKind} {a b : Int} (hx : x.ev env = some (.v (.int k a))) (hy : y.ev env = some (.v (.int k' b))) (hk : K (.v (.int k (if b < a then b else a))) h) : A P (.minmax false [x, y]) env h K :=
 a_minmax (l := [.v (.int k a), .v (.int k' b)]) (v := .int k (if b < a then b else a)) (by simp [evs, hx, hy]) (by simp [mmx]) hk
def nz1 : AV -> AV
 | .nil => .sl [] .no
 | .sl els _ => .sl els .no
 | x => x
def nzA : AV -> AV
 | .agg cs => .agg (cs.map nz1)
 | x => nz1 x
def nz : AV -> AV
 | .tuple vs => .tuple (vs.map nzA)
 | x => nzA x
theorem nz1_cell (av : AV) : (nz1 av).isCell = av.isCell := by cases av <;> rfl
theorem Rel.nz1 {σ : Sg} {av : AV} {x : Value} (hr : Rel σ av x) : Rel σ (nz1 av) x := by
 cases av with
 | nil => cases hr; exact .sl0 _ trivial
 | sl els tok =>
  show Rel σ (.sl els .no) x
  cases hr with
  | sl0 _ _ => exact .sl0 _ trivial
  | slx _ a cap _ _ => exact .slx _ a cap trivial (.inl rfl)
  | sl _ _ b o cap size xs hs hcap ht hz hc hr => exact .sl _ _ b o cap size xs hs hcap trivial (fun id e h => by cases h) hc hr
 | _ => exact hr
theorem Cells.nz {σ : Sg} {cells : List AV} {vs : List Value} (hc : Cells σ cells vs) : Cells σ (cells.map nz1) vs := by
 refine ⟨by simp [hc.1], fun i av hi => ?_⟩
 simp only [List.getElem?_map, Option.map_eq_some_iff] at hi
 obtain ⟨b, hb, rfl⟩ := hi
 obtain ⟨h1, x, h2, h3⟩ := hc.2 i b hb
 exact ⟨by rw [nz1_cell]; exact h1, x, h2, h3.nz1⟩
theorem Rel.nzA {σ : Sg} {av : AV} {x : Value} (hr : Rel σ av x) : Rel σ (nzA av) x := by
 unfold Lift.nzA
 split
 ·obtain ⟨xs, rfl, hc⟩ := hr.agg_inv
  exact Rel.agg_mk' hc.nz
 ·exact hr.nz1
theorem Rel.nz {σ : Sg} {av : AV} {x : Value} (hr : Rel σ av x) : Rel σ (nz av) x := by
 unfold Lift.nz
 split
 ·cases hr with
  | tuple vs xs hn y hx hr =>
   refine .tuple _ _ (by simp [hn]) y (fun i av hi => ?_) (fun i av hi => ?_)
   ·simp only [List.getElem?_map, Option.map_eq_some_iff] at hi
    obtain ⟨b, hb, rfl⟩ := hi
    exact hx i b hb
   ·simp only [List.getElem?_map, Option.map_eq_some_iff] at hi
    obtain ⟨b, hb, rfl⟩ := hi
    exact (hr i b hb).nzA
 ·exact hr.nzA
theorem plain_nz1 (a : AV) (h : plain (nz1 a) = true) : plain (wk1 a) = true := by
 cases a with
 | sl els tok => cases tok <;> simpa [nz1, wk1, plain] using h
 | _ => first | rfl | exact h
theorem plainL_nz : ∀ (l : List AV), plainL (l.map nz1) = true -> plainL (l.map wk1) = true
 | [], _ => rfl
 | a :: r, h => by
  simp only [List.map_cons, plainL, Bool.and_eq_true] at h ⊢
  exact ⟨plain_nz1 a h.1, plainL_nz r h.2⟩
theorem plain_nzA (a : AV) (h : plain (nzA a) = true) : plain (wkA a) = true := by
 cases a with
 | agg cs => simp only [nzA, wkA, plain] at h ⊢; exact plainL_nz cs h
 | sl els tok => cases tok <;> simpa [nzA, wkA, nz1, wk1, plain] using h
 | _ => first | rfl | exact h
theorem plainL_nzA : ∀ (l : List AV), plainL (l.map nzA) = true -> plainL (l.map wkA) = true
 | [], _ => rfl
 | a :: r, h => by
  simp only [List.map_cons, plainL, Bool.and_eq_true] at h ⊢
  exact ⟨plain_nzA a h.1, plainL_nzA r h.2⟩
theorem plain_nz (a : AV) (h : plain (nz a) = true) : plain (wk a) = true := by
 cases a with
 | tuple vs => simp only [nz, wk, plain] at h ⊢; exact plainL_nzA vs h
 | agg cs => exact plain_nzA (.agg cs) h
 | sl els tok => exact plain_nzA (.sl els tok) h
 | _ => first | rfl | exact h
theorem nz1_wk (a : AV) : nz1 (wk1 a) = nz1 a := by
 cases a with
 | sl els tok => cases tok <;> rfl
 | _ => rfl
theorem nzA_wk (a : AV) : nzA (wkA a) = nzA a := by
 cases a with
 | agg cs => simp only [wkA, nzA, List.map_map]; congr 1; exact List.map_congr_left fun x _ => nz1_wk x
 | sl els tok => cases tok <;> rfl
 | _ => rfl
theorem nz_wk (a : AV) : nz (wk a) = nz a := by
 cases a with
 | tuple vs => simp only [wk, nz, List.map_map]; congr 1; exact List.map_congr_left fun x _ => nzA_wk x
 | agg cs => exact nzA_wk (.agg cs)
 | sl els tok => cases tok <;> rfl
 | _ => rfl
def PureN (P : Program) (gl : List (Nat × List AV)) (f : FuncId) (args : List AV) (r : AV) : Prop := PureC P gl f args fun a => nz a = r
theorem pure_call_n {P : Program} {f : FuncId} {args args' : List AV} {r : AV} {h : AHeap} {K : AV -> AHeap -> Prop} (hf : PureN P h.globs f args r) (hgl : plainG h.globs = true) (ha : args'.map nz = args) (hp : plainL args = true) (hk : K r h) : ACall P f args' h K := by
 refine ⟨hf.1, fun σ cargs hi hr => ?_⟩
 have hopen : ∀ b o, σ.open_ b o -> b < σ.w.heap.size := by
  rintro b o (ho | ⟨n, hn⟩ | ⟨id, e, he, hs⟩)
  ·exact (hi.outer b o ho).1
  ·exact hi.lt hn
  ·obtain ⟨v, hv⟩ := Option.isSome_iff_exists.1 (hi.bufat id e b o he hs).1
   exact cell_lt hv
 have hrels : Rels (bare σ.w σ.open_) args cargs.toList := by
  refine ⟨by rw [hr.1, ← ha]; simp, fun i av hav => ?_⟩
  have hav' := hav
  rw [← ha] at hav
  simp only [List.getElem?_map, Option.map_eq_some_iff] at hav
  obtain ⟨b, hb, rfl⟩ := hav
  obtain ⟨x, h1, h2⟩ := hr.2 i b hb
  exact ⟨x, h1, h2.nz.down (plainL_get hp i _ hav') rfl fun _ _ h => h⟩
 have hglobs : Globs σ.w σ.open_ h.globs := fun g cells hg => (hi.glob g cells hg).down (by simp only [plain]; exact List.all_eq_true.1 hgl _ hg) rfl fun _ _ h => h
 refine (hf.2 σ.w σ.open_ cargs hopen hglobs hrels).mono fun e w' hq => ?_
 obtain ⟨av, x, rfl, hpast, hrel, hR⟩ := hq
 exact ⟨{ σ with w := w' }, h, nz av, x, rfl, rfl, Le.world hpast, hi.world hpast, (hrel.nz).up (fun _ => rfl) (fun _ => rfl) rfl (fun b o ho => .inl ho), by rw [hR]; exact hk⟩
def qret (rs : List ARes) (r : AV) : Exit -> Env -> AHeap -> Prop
 | .normal, env, h => outs env h rs fun l => plain (wk (retv l)) = true /\ nz (wk (retv l)) = r
 | .ret, env, h => outs env h rs fun l => plain (wk (retv l)) = true /\ nz (wk (retv l)) = r
 | _, _, _ => False
section
variable {P : Program} {h h' : AHeap} {env env' : Env} {N : Nat} {Q : Exit -> Env -> AHeap -> Prop} {K : Env -> AHeap -> Prop} {L : List AOper} {k : Nat}
theorem f_pureN {gl : List (Nat × List AV)} {f : FuncId} {ac : ACode} {rs : List ARes} (hf : getFn P f = some (N, ac, rs)) {args : List AV} {r : AV} {e₀ : Env} (hn : args.length <= N) (he : envOf 0 args = e₀)
  (hbody : C P N ac (qret rs r) e₀ ⟨[], [], gl⟩) : PureN P gl f args r := by
 subst he
 refine pure_of hf hn (asem_mono hbody.out fun e env h hq => ?_)
 cases e <;> first | exact hq | exact hq.elim
theorem r_end {rs : List ARes} {r : AV} {l : List AV} (hl : outsF env h rs = some l) (hr : nz (retv l) = r) (hp : plain r = true) : qret rs r .ret env h := by
 refine outsF_ok hl ⟨plain_nz _ (by rw [hr]; exact hp), by rw [nz_wk]; exact hr⟩
def Does (P : Program) (o : AOp) (env : Env) (h : AHeap) (av : AV) (h' : AHeap) : Prop := ∀ K : AV -> AHeap -> Prop, K av h' -> aop P o env h K
theorem Does.q {P : Program} {o : AOp} {env : Env} {h : AHeap} {av : AV} (hd : Does P o env h av h) : aopQ P o env h av := hd _ ⟨rfl, rfl⟩
def Less (e env : Env) : Prop := ∀ t a, get e t = some a -> get env t = some a
theorem Less.put {e env : Env} (he : Less e env) (d : Option Nat) (av : AV) : Less (putE e d av) (putE env d av) := by
 intro t a h
 rw [get_putE] at h ⊢
 split at h
 ·rename_i hd; rw [if_pos hd]; exact h
 ·rename_i hd; rw [if_neg hd]; exact he t a h
theorem Less.drop {e env : Env} (he : Less e env) (d : Option Nat) : Less (dropE e d) (dropE env d) := by
 intro t a h
 rw [get_dropE] at h ⊢
 split at h
 ·rename_i hd; rw [if_pos hd]; exact h
 ·rename_i hd; rw [if_neg hd]; exact he t a h
theorem Less.ev {e env : Env} (he : Less e env) {x : AOpd} {a : AV} (h : x.ev e = some a) : x.ev env = some a := by
 cases x with
 | t n => exact he n a h
 | c b => exact h
theorem Less.wv {e env : Env} (he : Less e env) {x : AOpd} {J J' : AV -> Prop} (hj : wv (x.ev e) J) (h : ∀ a, J a -> J' a) : wv (x.ev env) J' := by
 obtain ⟨a, h1, h2⟩ := wv_some hj
 rw [he.ev h1]; exact h a h2
theorem Less.evs {e env : Env} (he : Less e env) : ∀ {l : List AOpd} {r : List AV}, evs e l = some r -> evs env l = some r
 | [], r, h => h
 | x :: l, r, h => by
  simp only [Lift.evs] at h ⊢
  split at h
  ·rename_i a l' h1 h2
   rw [he.ev h1, he.evs h2]; exact h
  ·cases h
theorem Less.evp {e env : Env} (he : Less e env) : ∀ {l : List ((Nat × Nat) × AOpd)} {r : List ((Nat × Nat) × AV)}, evp e l = some r -> evp env l = some r
 | [], r, h => h
 | (k, x) :: l, r, h => by
  simp only [Lift.evp] at h ⊢
  split at h
  ·rename_i a l' h1 h2
   rw [he.ev h1, he.evp h2]; exact h
  ·cases h
theorem Less.evo {e env : Env} (he : Less e env) {x : Option AOpd} {r : Option AV} (h : evo e x = some r) : evo env x = some r := by
 cases x with
 | none => exact h
 | some x =>
  simp only [Lift.evo] at h ⊢
  split at h
  ·rename_i a h1; rw [he.ev h1]; exact h
  ·cases h
theorem aop_less {P : Program} {o : AOp} {e env : Env} (he : Less e env) {h : AHeap} {K : AV -> AHeap -> Prop} (ha : aop P o e h K) : aop P o env h K := by
 cases o <;> simp only [aop] at ha ⊢
 case mv => exact he.wv ha fun _ h => h
 case pick =>
  refine he.wv ha fun c hc => ?_
  unfold pickOn at hc ⊢
  split at hc
  ·exact ⟨fun ht => he.wv (hc.1 ht) fun _ h => h, fun ht => he.wv (hc.2 ht) fun _ h => h⟩
  ·exact hc.elim
 case alloc => exact ha
 case box => exact he.wv ha fun _ h => h
 case build =>
  split at ha
  ·rename_i ps h1; rw [he.evp h1]; exact ha
  ·exact ha.elim
 case sliceLit =>
  split at ha
  ·rename_i ps h1; rw [he.evp h1]; exact ha
  ·exact ha.elim
 case load => exact he.wv ha fun _ h => h
 case store => exact he.wv ha fun _ h => he.wv h fun _ h => h
 case nilCheck => exact he.wv ha fun _ h => h
 case bin => exact he.wv ha fun _ h => he.wv h fun _ h => h
 case eq => exact he.wv ha fun _ h => he.wv h fun _ h => h
 case un => exact he.wv ha fun _ h => h
 case conv => exact he.wv ha fun _ h => h
 case iface => exact he.wv ha fun _ h => h
 case func =>
  split at ha
  ·rename_i f c h1 h2; rw [he.evs h1, he.evs h2]; exact ha
  ·exact ha.elim
 case sliceS =>
  refine he.wv ha fun x hx => ?_
  split at hx
  ·rename_i lo hi h1 h2; rw [he.evo h1, he.evo h2]; exact hx
  ·exact hx.elim
 case sliceV =>
  refine he.wv ha fun x hx => ?_
  split at hx
  ·rename_i lo hi mx h1 h2 h3; rw [he.evo h1, he.evo h2, he.evo h3]; exact hx
  ·exact hx.elim
 case fieldAddr => exact he.wv ha fun _ h => h
 case field => exact he.wv ha fun _ h => h
 case idxS => exact he.wv ha fun _ h => he.wv h fun _ h => h
 case idxV => exact he.wv ha fun _ h => he.wv h fun _ h => h
 case idxSl => exact he.wv ha fun _ h => he.wv h fun _ h => h
 case idxA => exact he.wv ha fun _ h => he.wv h fun _ h => h
 case assertT => exact he.wv ha fun _ h => h
 case extract => exact he.wv ha fun _ h => h
 case len => exact he.wv ha fun _ h => h
 case append => exact he.wv ha fun _ h => he.wv h fun _ h => h
 case call f args =>
  refine he.wv ha fun f hf => ?_
  unfold callOn at hf ⊢
  split at hf
  ·rename_i g first captured l h1; rw [he.evs h1]; exact hf
  ·exact hf.elim
 case bytes => exact he.wv ha fun _ h => h
 case minmax =>
  split at ha
  ·rename_i l h1; rw [he.evs h1]; exact ha
  ·exact ha.elim
 case make => exact he.wv ha fun _ h => he.wv h fun _ h => h
 case range => exact he.wv ha fun _ h => h
 case next => exact he.wv ha fun _ h => h
theorem Does.less {P : Program} {o : AOp} {e env : Env} {h h' : AHeap} {av : AV} (hd : Does P o e h av h') (he : Less e env) : Does P o env h av h' := fun K hk => aop_less he (hd K hk)
theorem Less.guard {e env : Env} (he : Less e env) {g : Option (Nat × Bool)} {b : Bool} (h : guardF e g = some b) : guardF env g = some b := by
 cases g with
 | none => exact h
 | some p =>
  obtain ⟨t, want⟩ := p
  simp only [guardF, Option.bind_eq_some_iff] at h ⊢
  obtain ⟨v, h1, h2⟩ := h
  exact ⟨v, he t v h1, h2⟩
def vd (P : Program) : List AOper -> Env -> AHeap -> (Env -> AHeap -> Prop) -> Prop
 | [], env, h, K => K env h
 | o :: r, env, h, K => (guardF env o.guard = some false /\ vd P r (dropE env o.dst) h K) ∨ (guardF env o.guard = some true /\ ∃ av h', Does P o.op env h av h' /\ vd P r (putE env o.dst av) h' K) ∨
  (guardF env o.guard = some true /\ ∃ S : AV -> Prop, (∀ K' : AV -> AHeap -> Prop, (∀ av, S av -> K' av h) -> aop P o.op env h K') /\ ∀ av, S av -> vd P r (putE env o.dst av) h K)
theorem vd_vops {P : Program} : ∀ {l : List AOper} {env : Env} {h : AHeap} {K : Env -> AHeap -> Prop}, vd P l env h K -> vops P l env h K
 | [], env, h, K, hv => hv
 | o :: r, env, h, K, hv => by
  rcases hv with ⟨hg, hv⟩ | ⟨hg, av, h', hd, hv⟩ | ⟨hg, S, hd, hv⟩
  ·exact guardF_ok (b := false) hg (by simpa using vd_vops hv)
  ·refine guardF_ok (b := true) hg ?_
   simp only [if_true]
   exact hd _ (vd_vops hv)
  ·refine guardF_ok (b := true) hg ?_
   simp only [if_true]
   exact hd _ fun av hav => vd_vops (hv av hav)
def KMono (K : Env -> AHeap -> Prop) : Prop := ∀ e env h, Less e env -> K e h -> K env h
theorem vd_less {P : Program} {K : Env -> AHeap -> Prop} (hK : KMono K) : ∀ {l : List AOper} {e env : Env} {h : AHeap}, Less e env -> vd P l e h K -> vd P l env h K
 | [], e, env, h, he, hv => hK e env h he hv
 | o :: r, e, env, h, he, hv => by
  rcases hv with ⟨hg, hv⟩ | ⟨hg, av, h', hd, hv⟩ | ⟨hg, S, hd, hv⟩
  ·exact .inl ⟨he.guard hg, vd_less hK (he.drop _) hv⟩
  ·exact .inr (.inl ⟨he.guard hg, av, h', hd.less he, vd_less hK (he.put _ _) hv⟩)
  ·exact .inr (.inr ⟨he.guard hg, S, fun K' hK' => aop_less he (hd K' hK'), fun av hav => vd_less hK (he.put _ _) (hv av hav)⟩)
theorem less_of : ∀ (e : Env) {env : Env}, e.map (fun p => get env p.1) = e.map (fun p => some p.2) -> Less e env
 | [], _, _, t, a, h => by cases h
 | (u, b) :: e, env, he, t, a, h => by
  simp only [List.map_cons, List.cons.injEq] at he
  simp only [get] at h
  split at h
  ·rename_i hu; subst hu; cases h; exact he.1
  ·exact less_of e he.2 t a h
def Vp (P : Program) (L : List AOper) (k : Nat) (env : Env) (h : AHeap) (K : Env -> AHeap -> Prop) : Prop := vd P (L.drop k) env h K
def noC : Callee := fun _ _ _ => none
theorem noC_ok {P : Program} : CallOK P noC := fun f args h a h' he => by cases he
theorem vopsF_app {b : List AOper} : ∀ {a : List AOper} {env : Env} {h : AHeap} {r : Env × AHeap} {K : Env -> AHeap -> Prop}, vopsF false noC a env h = some r -> vd P b r.1 r.2 K -> vd P (a ++ b) env h K
 | [], env, h, r, K, he, hk => by cases he; exact hk
 | o :: l, env, h, r, K, he, hk => by
  simp only [vopsF, Option.bind_eq_some_iff] at he
  obtain ⟨g, h1, h2⟩ := he
  cases g with
  | true =>
   simp only [Option.bind_eq_some_iff] at h2
   obtain ⟨⟨a, h'⟩, h3, h4⟩ := h2
   exact .inr (.inl ⟨h1, a, h', fun K hk => aopF_ok noC_ok h3 hk, vopsF_app h4 hk⟩)
  | false => exact .inl ⟨h1, vopsF_app h2 hk⟩
theorem vp_start (hk : Vp P L 0 env h K) : V P L env h K := ⟨vd_vops hk⟩
theorem vp_chunk (m : Nat) (env' : Env) (h' : AHeap) (he : vopsF false noC ((L.drop k).take m) env h = some (env', h')) {k' : Nat} (hk' : k + m = k') (hk : Vp P L k' env' h' K) : Vp P L k env h K := by
 subst hk'
 show vd P (L.drop k) env h K
 rw [← List.take_append_drop m (L.drop k), List.drop_drop]
 exact vopsF_app he hk
theorem vp_opg {o : AOper} (hl : L[k]? = some o) (hg : guardF env o.guard = some true) {av : AV} {env1 : Env} (ha : Does P o.op env h av h') {k' : Nat} (hk' : k + 1 = k') (he : putE env o.dst av = env1) (hk : Vp P L k' env1 h' K) : Vp P L k env h K := by
 subst hk' he
 obtain ⟨hlt, rfl⟩ := List.getElem?_eq_some_iff.1 hl
 show vd P (L.drop k) env h K
 rw [List.drop_eq_getElem_cons hlt]
 exact .inr (.inl ⟨hg, av, h', ha, hk⟩)
theorem vp_end (hl : L.drop k = []) (hk : K env h) : Vp P L k env h K := by
 show vd P (L.drop k) env h K
 rw [hl]; exact hk
theorem km_vd {l : List AOper} (hK : KMono K) : KMono fun F h' => vd P l F h' K := fun e env h he hv => vd_less hK he hv
theorem q_calln {g : FuncId} {f : AOpd} {args : List AOpd} {l l' : List AV} {r : AV} (hf : f.ev env = some (.clo (.func g) [] [])) (ha : evs env args = some l) (hl : l.map nz = l') (hgl : plainG h.globs = true) (hp : plainL l' = true) (hc : PureN P h.globs g l' r) : Does P (.call f args) env h r h :=
 fun K hk => (a_call hf ha (pure_call_n hc hgl hl hp hk)).out
theorem q_callv {g : FuncId} {f : AOpd} {args : List AOpd} {l l' first captured : List AV} {r : AV} (hf : f.ev env = some (.clo (.func g) first captured)) (ha : evs env args = some l) (hl : (first ++ l ++ captured).map nz = l') (hgl : plainG h.globs = true) (hp : plainL l' = true) (hc : PureN P h.globs g l' r) : Does P (.call f args) env h r h :=
 fun K hk => (a_callv hf ha (pure_call_n hc hgl hl hp hk)).out
theorem envLe_of' : ∀ (e : Env), e.map (fun p => get env p.1) = e.map (fun p => some p.2) -> EnvLe e env
 | [], _ => trivial
 | (t, a) :: e, h => by
  simp only [List.map_cons, List.cons.injEq] at h
  exact ⟨h.1, envLe_of' e h.2⟩
end
def LoopW (P : Program) (c : Code) (Q : Exit -> Act -> World -> Prop) (a : Act) (w : World) : Prop := ∀ b k cs, ∃ e a' w', Q e a' w' /\ Arrives P (lone (b.at a (.code c :: .inLoop c :: k)) cs w) b k cs e a' w'
theorem loopW_unroll {P : Program} {Q : Exit -> Act -> World -> Prop} {a : Act} {w : World} {c : Code} (hx : c.wp P (Exit.then (LoopW P c Q) Q) a w) : LoopW P c Q a w := by
 intro b k cs
 obtain ⟨e, a₁, w₁, hq, harr⟩ := hx b (.inLoop c :: k) cs
 cases e with
 | normal =>
  obtain ⟨e₂, a₂, w₂, hq₂, harr₂⟩ := hq b k cs
  exact ⟨e₂, a₂, w₂, hq₂, .of_steps (Steps.trans harr (.one step_inLoop)) harr₂⟩
 | exit id => exact ⟨_, a₁, w₁, hq, .pass (x := .inLoop c) rfl (fun _ _ => .inl (by simp)) harr⟩
 | goto l => exact ⟨_, a₁, w₁, hq, .pass (x := .inLoop c) rfl (fun _ _ => .inl (by simp)) harr⟩
 | ret => exact ⟨_, a₁, w₁, hq, .pass (x := .inLoop c) rfl (fun _ _ => .inl (by simp)) harr⟩
 | panic ch => exact ⟨_, a₁, w₁, hq, .pass (x := .inLoop c) rfl (fun _ _ => .inl (by simp)) harr⟩
 | outgrown => exact ⟨_, a₁, w₁, hq, .pass (x := .inLoop c) rfl (fun _ _ => .inl (by simp)) harr⟩
theorem loopW_wp {P : Program} {Q : Exit -> Act -> World -> Prop} {a : Act} {w : World} {c : Code} (hx : LoopW P c Q a w) : (Code.loop c).wp P Q a w := by
 intro b k cs
 obtain ⟨e, a', w', hq, harr⟩ := hx b k cs
 exact ⟨e, a', w', hq, .of_steps (.one step_loop) harr⟩
theorem LoopW.mono {P : Program} {Q Q' : Exit -> Act -> World -> Prop} {a : Act} {w : World} {c : Code} (hq : ∀ e a w, Q e a w -> Q' e a w) (hx : LoopW P c Q a w) : LoopW P c Q' a w := by
 intro b k cs
 obtain ⟨e, a', w', h1, harr⟩ := hx b k cs
 exact ⟨e, a', w', hq _ _ _ h1, harr⟩
section
variable {P : Program} {h h' : AHeap} {env env' : Env} {N : Nat} {Q : Exit -> Env -> AHeap -> Prop} {x : ACode}
end
section
variable {P : Program} {h : AHeap} {env : Env} {α : Type}
def bI (s : ByteArray) : List Int := s.data.toList.map fun b => (b.toNat : Int)
theorem q_lenS {x : AOpd} {s : ByteArray} (hx : x.ev env = some (.v (.string s))) : Does P (.len true x) env h (.v (.int .i64 s.size)) h := fun K hk => by
 simp only [aop, hx, wv, lenned]; exact hk
theorem q_len {x : AOpd} {l : List α} {e : α -> List AV} {tok : Tok} (hx : x.ev env = some (.sl (List.map e l) tok)) : Does P (.len false x) env h (.v (.int .i64 l.length)) h := fun K hk => by
 simp only [aop, hx, wv, lenned, List.length_map]; exact hk
theorem q_idxSl {size : Nat} {x i : AOpd} {l : List α} {e' e : α -> List AV} {tok : Tok} {k : IntKind} {n : Int} {y : α} (hx : x.ev env = some (.sl (List.map e' l) tok)) (hi : i.ev env = some (.v (.int k n))) (h0 : 0 <= n) (hy : l[n.toNat]? = some y) (he : e' y = e y) (hs : (e y).length = size) : Does P (.idxSl size x i) env h (.elt (e y) 0) h := fun K hk => by
 simp only [aop, hx, hi, wv, indexed]
 obtain ⟨hlt, rfl⟩ := List.getElem?_eq_some_iff.1 hy
 have hg : (List.map e' l).getD n.toNat [] = e l[n.toNat] := by
  rw [List.getD_eq_getElem?_getD, List.getElem?_map, hy]; simpa using he
 rw [hg, List.length_map]
 exact ⟨⟨h0, by omega⟩, hs, hk⟩
theorem q_idxS {x i : AOpd} {s : ByteArray} {k : IntKind} {n : Int} (hx : x.ev env = some (.v (.string s))) (hi : i.ev env = some (.v (.int k n))) (h0 : 0 <= n /\ n < (s.size : Int)) : Does P (.idxS x i) env h (.v (.int .u8 (byteAt s n.toNat))) h := fun K hk => by
 simp only [aop, hx, hi, wv, indexedS]; exact ⟨h0, hk⟩
theorem q_sliceS {x : AOpd} {lo hi : Option AOpd} {s : ByteArray} {lv hv : Option AV} {l u : Int} (hx : x.ev env = some (.v (.string s))) (h1 : evo env lo = some lv) (h2 : evo env hi = some hv) (h3 : boundOf 0 lv = some l) (h4 : boundOf s.size hv = some u) (h0 : 0 <= l /\ l <= u /\ u <= (s.size : Int)) : Does P (.sliceS x lo hi) env h (.v (.string (s.extract l.toNat u.toNat))) h := fun K hk => by
 simp only [aop, hx, h1, h2, wv, slicedS, h3, h4]; exact ⟨h0, hk⟩
theorem bound_len {e' : α -> List AV} {l : List α} {hv : Option AV} : boundOf (List.map e' l).length hv = boundOf l.length hv := by rw [List.length_map]
theorem q_sliceV3 {size : Nat} {x m : AOpd} {lo hi : Option AOpd} {l : List α} {e' : α -> List AV} {tok : Tok} {lv hv : Option AV} {k : IntKind} {a u : Int} (hx : x.ev env = some (.sl (List.map e' l) tok)) (h1 : evo env lo = some lv) (h2 : evo env hi = some hv) (h3 : boundOf 0 lv = some a) (h4 : boundOf l.length hv = some u) (h5 : m.ev env = some (.v (.int k u))) (h6 : hv.isSome = true) (h0 : 0 <= a /\ a <= u /\ u <= (l.length : Int)) (hs : ∀ y, (e' y).length = size) : Does P (.sliceV size x lo hi (some m)) env h (.sl (List.map e' ((l.take u.toNat).drop a.toNat)) .full) h := fun K hk => by
 have h7 : evo env (some m) = some (some (.v (.int k u))) := by simp only [evo, h5]
 simp only [aop, hx, h1, h2, h7, wv, slicedV, h3, bound_len, h4, List.length_map]
 refine ⟨h0, fun el hel => ?_, trivial, fun hn => (by rw [hn] at h6; cases h6), ?_⟩
 ·obtain ⟨y, _, rfl⟩ := List.mem_map.1 hel; exact hs y
 ·rw [← List.map_take, ← List.map_drop]; exact hk
theorem q_bin {op : BinOp} {x y : AOpd} {a b r : Value} {c : Prop} (hx : x.ev env = some (.v a)) (hy : y.ev env = some (.v b)) (hp : pbin op a b = some (c, r)) (hc : c) : Does P (.bin op x y) env h (.v r) h := fun K hk => by
 simp only [aop, hx, hy, wv, binned, hp]; exact ⟨hc, hk⟩
theorem q_catS {x y : AOpd} {a b : ByteArray} (hx : x.ev env = some (.v (.string a))) (hy : y.ev env = some (.v (.string b))) (h0 : ((a.size + b.size : Nat) : Int) <= 9223372036854775807) : Does P (.bin .add x y) env h (.v (.string (a ++ b))) h := q_bin hx hy rfl (by omega)
theorem bytes_eq {a b : ByteArray} : (a.toList == b.toList) = decide (a = b) := by
 rw [ByteArray.toList_eq, ByteArray.toList_eq]
 by_cases h : a = b
 ·subst h; simp
 ·rw [decide_eq_false h, beq_eq_false_iff_ne]
  intro he
  exact h (ByteArray.ext (Array.ext' he))
theorem q_eqS {x y : AOpd} {a b : ByteArray} (hx : x.ev env = some (.v (.string a))) (hy : y.ev env = some (.v (.string b))) : Does P (.bin .eql x y) env h (.v (.bool (decide (a = b)))) h := by rw [← bytes_eq]; exact q_bin hx hy (c := True) rfl trivial
theorem q_neS {x y : AOpd} {a b : ByteArray} (hx : x.ev env = some (.v (.string a))) (hy : y.ev env = some (.v (.string b))) : Does P (.bin .neq x y) env h (.v (.bool (!decide (a = b)))) h := by rw [← bytes_eq]; exact q_bin hx hy (c := True) rfl trivial
theorem q_min2 {x y : AOpd} {k k' : IntKind} {a b : Int} (hx : x.ev env = some (.v (.int k a))) (hy : y.ev env = some (.v (.int k' b))) : Does P (.minmax false [x, y]) env h (.v (.int k (min a b))) h := fun K hk =>
 (a_min2 hx hy (by rw [show (if b < a then b else a) = min a b by omega]; exact hk)).out
theorem h_append_own {size byt id : Nat} {x y : AOpd} {Y : AV} {e' : α -> List AV} {l m : List α} (hx : x.ev env = some (.sl (List.map e' l) (.own id))) (hy : y.ev env = some Y) (hm : elsH h size Y = some (List.map e' m)) (hb : h.bufs[id]? = some (l.length, size)) (hs : ∀ y, (e' y).length = size) (h0 : (l.length + m.length) * byt <= 140737488355328) : Does P (.append size byt x y) env h (.sl (List.map e' (l ++ m)) (.own id)) ⟨h.blks, h.bufs.set id ((l ++ m).length, size), h.globs⟩ := fun K hk => by
 simp only [aop, hx, hy, wv]
 refine .inl ?_
 simp only [appended, hm, List.length_map]
 refine ⟨fun el hel => by obtain ⟨y, _, rfl⟩ := List.mem_map.1 hel; exact hs y, fun el hel => by obtain ⟨y, _, rfl⟩ := List.mem_map.1 hel; exact hs y, hb, h0, ?_⟩
 rw [← List.map_append, ← List.length_append]; exact hk
theorem h_bytes {x : AOpd} {s : ByteArray} (hx : x.ev env = some (.v (.string s))) : Does P (.bytes x) env h (.sl (List.map (fun n => [AV.v (.int .u8 n)]) (bI s)) (.own h.bufs.length)) ⟨h.blks, h.bufs ++ [((bI s).length, 1)], h.globs⟩ := fun K hk => by
 simp only [aop, hx, wv, asBytes]
 have e : byteEls s.data.toList = List.map (fun n => [AV.v (.int .u8 n)]) (bI s) := by simp only [byteEls, bI, List.map_map]; rfl
 have e2 : s.data.toList.length = (bI s).length := by simp only [bI, List.length_map]
 rw [e, e2]; exact hk
theorem q_str {x : AOpd} {l : List Int} {t : ByteArray} {tok : Tok} (hx : x.ev env = some (.sl (List.map (fun n => [AV.v (.int .u8 n)]) l) tok)) (hl : l = bI t) : Does P (.conv .str x) env h (.v (.string t)) h := fun K hk => by
 subst hl
 simp only [aop, hx, wv, conved]
 refine ⟨t.data.toList, by simp only [byteEls, bI, List.map_map]; rfl, ?_⟩
 have : (⟨t.data.toList.toArray⟩ : ByteArray) = t := by
  apply ByteArray.ext; apply Array.ext'; simp
 rw [this]; exact hk
end
end Go.Proofs.YtidmmngcijapcaaGreat.Lift
