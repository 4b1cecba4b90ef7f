/- Part 3 of the texts that prove RowScalarsEnd. -/
import Derived.Test.YtidmmngcijapcaaGreatRowScalarsEndP1
import Derived.OpenShut
import Derived.ProofKit
import Derived.Test.YtidmmngcijapcaaGreatProg
namespace Go.Proofs.YtidmmngcijapcaaGreat.Lift
open Go.RowKit
set_option linter.unusedVariables false
set_option linter.unusedSimpArgs false
set_option linter.unnecessarySimpa false
set_option linter.unusedSectionVars false
set_option maxRecDepth 100000
def vs (P : Program) (I : AHeap -> Prop) : Bool -> List AOper -> Env -> AHeap -> (Env -> AHeap -> Prop) -> Prop
 | _, [], env, h, K => K env h
 | b, o :: r, env, h, K =>
  (guardF env o.guard = some false /\ vs P I b r (dropE env o.dst) h K) ∨
  (guardF env o.guard = some true /\ quietOp o.op = true /\ ∃ av, (∀ h2, I h2 -> aopQ P o.op env h2 av) /\ vs P I b r (putE env o.dst av) h K) ∨
  (guardF env o.guard = some true /\ quietOp o.op = false /\ isNew o = false /\ ∃ av h', Does P o.op env h av h' /\ I h' /\ vs P I false r (putE env o.dst av) h' K) ∨
  (b = true /\ ∃ cells, o.op = .alloc cells /\ o.guard = none /\ vs P I b r (putE env o.dst (.ptr h.blks.length 0)) ⟨h.blks ++ [some cells], h.bufs, h.globs⟩ K)
def DoesS (P : Program) (I : AHeap -> Prop) (F : Env) (hs : List AHeap) (j : Nat) (o : AOper) : Option Nat -> Prop
 | some n => ∃ av h1 h2, hs[n - j]? = some h1 /\ hs[n - j + 1]? = some h2 /\ aop P o.op F h1 (fun a b => a = av /\ b = h2) /\ ∀ d, o.dst = some d -> get F d = some av
 | none => ∃ av, (∀ h2, I h2 -> aopQ P o.op F h2 av) /\ ∀ d, o.dst = some d -> get F d = some av
def GF (F : Env) (D S : Prop) : Option (Nat × Bool) -> Prop
 | none => D
 | some (t, want) => (∃ b, get F t = some (.v (.bool b)) /\ (b = want -> D) /\ (b ≠ want -> S)) ∨ (get F t = some (.tuple []) /\ S)
def FactS (P : Program) (I : AHeap -> Prop) (F : Env) (hs : List AHeap) (j : Nat) (o : AOper) (n : Option Nat) : Prop :=
 GF F (DoesS P I F hs j o n) (n = none /\ ∀ d, o.dst = some d -> get F d = some (.tuple [])) o.guard
structure PassS (P : Program) (I : AHeap -> Prop) (l : List AOper) (env F : Env) (cur h' : AHeap) (i0 : Nat) (az : List (Nat × List AV)) (hs : List AHeap) (fl : List (Option Nat)) (j : Nat) : Prop where
 len : fl.length = l.length
 first : hs[0]? = some ⟨cur.blks ++ az.map (fun p => some p.2), cur.bufs, cur.globs⟩
 last : ∃ n, hs.length = n + 1 /\ hs[n]? = some h'
 bound : ∀ i n : Nat, fl[i]? = some (some n) -> j <= n /\ n + 1 < j + hs.length
 mono : ∀ i k a b : Nat, i < k -> fl[i]? = some (some a) -> fl[k]? = some (some b) -> a < b
 onto : ∀ n : Nat, j <= n -> n + 1 < j + hs.length -> ∃ i : Nat, fl[i]? = some (some n)
 keep : ∀ t, writes t l = false -> get F t = get env t
 pos : ∀ (q : Nat) (p : Nat × List AV), az[q]? = some p -> ∃ i o, p.1 = i0 + i /\ l[i]? = some o /\ o.op = .alloc p.2 /\ o.guard = none /\ fl[i]? = some none /\ ∀ d, o.dst = some d -> get F d = some (.ptr (cur.blks.length + q) 0)
 incr : ∀ (q r : Nat) (p s : Nat × List AV), q < r -> az[q]? = some p -> az[r]? = some s -> p.1 < s.1
 inv : ∀ (m : Nat) hm, 0 < m -> hs[m]? = some hm -> I hm
 chg : ∀ (i n : Nat) (o : AOper), fl[i]? = some (some n) -> l[i]? = some o -> quietOp o.op = false /\ isNew o = false
 fact : ∀ (i : Nat) (o : AOper) (n : Option Nat), l[i]? = some o -> fl[i]? = some n -> (∃ (q : Nat) (p : Nat × List AV), az[q]? = some p /\ p.1 = i0 + i) ∨ FactS P I F hs j o n
theorem guard_fact {F env : Env} {g : Option (Nat × Bool)} {D S : Prop} (hg : guardF env g = some true) (hl : ∀ t w, g = some (t, w) -> get F t = get env t) (hD : D) : GF F D S g := by
 cases g with
 | none => exact hD
 | some p =>
  obtain ⟨t, want⟩ := p
  simp only [guardF, Option.bind_eq_some_iff] at hg
  obtain ⟨v, h1, h2⟩ := hg
  split at h2
  ·rename_i b
   simp only [Option.some.injEq, beq_iff_eq] at h2
   exact .inl ⟨b, by rw [hl t want rfl]; exact h1, fun _ => hD, fun hn => absurd h2 hn⟩
  ·cases h2
  ·cases h2
theorem guard_skip {F env : Env} {g : Option (Nat × Bool)} {D S : Prop} (hg : guardF env g = some false) (hl : ∀ t w, g = some (t, w) -> get F t = get env t) (hS : S) : GF F D S g := by
 cases g with
 | none => simp [guardF] at hg
 | some p =>
  obtain ⟨t, want⟩ := p
  simp only [guardF, Option.bind_eq_some_iff] at hg
  obtain ⟨v, h1, h2⟩ := hg
  split at h2
  ·rename_i b
   simp only [Option.some.injEq, beq_eq_false_iff_ne] at h2
   exact .inl ⟨b, by rw [hl t want rfl]; exact h1, fun h => absurd h h2, fun _ => hS⟩
  ·exact .inr ⟨by rw [hl t want rfl]; exact h1, hS⟩
  ·cases h2
theorem vs_pass {P : Program} {I : AHeap -> Prop} : ∀ {l : List AOper} {b : Bool} {env : Env} {cur : AHeap} {i0 j : Nat} {K : Env -> AHeap -> Prop}, okq l = true -> vs P I b l env cur K -> ∃ F az hs fl h', PassS P I l env F cur h' i0 az hs fl j /\ K F h' /\ (b = false -> az = [])
 | [], b, env, cur, i0, j, K, _, hk => ⟨env, [], [cur], [], cur, ⟨rfl, by simp, ⟨0, rfl, rfl⟩, fun i n hi => by simp at hi, fun i k a b _ hi => by simp at hi, fun n h1 h2 => by simp at h2; omega, fun _ _ => rfl, fun q p hq => by simp at hq, fun q r p s _ hq => by simp at hq, fun m hm h0 h1 => by cases m <;> simp at h0 h1, fun i n o hi => by simp at hi, fun i o n hi => by simp at hi⟩, hk, fun _ => rfl⟩
 | o :: r, b, env, cur, i0, j, K, hok, hv => by
  have hok0 := hok
  simp only [okq, Bool.and_eq_true, List.all_eq_true] at hok
  obtain ⟨⟨hlook, hdst⟩, hokr⟩ := hok
  have hwr : ∀ t, writes t (o :: r) = false -> o.dst ≠ some t /\ writes t r = false := by
   intro t ht
   simp only [writes, List.any_cons, Bool.or_eq_false_iff] at ht ⊢
   exact ⟨by simpa using ht.1, ht.2⟩
  have hd : ∀ d, o.dst = some d -> writes d r = false := by
   intro d hd
   rw [hd] at hdst
   simpa using hdst
  have hl : ∀ (F : Env), (∀ t, writes t (o :: r) = false -> get F t = get env t) -> ∀ t ∈ o.looks, get F t = get env t := fun F hF t ht => hF t (by simpa using hlook t ht)
  have hcong : ∀ (F : Env), (∀ t, writes t (o :: r) = false -> get F t = get env t) -> ∀ (h : AHeap) (K : AV -> AHeap -> Prop), aop P o.op env h K -> aop P o.op F h K := by
   intro F hF h K hq
   rw [← aop_congr (e1 := env) (e2 := F)]
   ·exact hq
   ·intro x hx
    cases x with
    | c a => rfl
    | t n =>
     refine (hl F hF n ?_).symm
     simp only [AOper.looks, List.mem_append, List.mem_filterMap]
     exact .inl ⟨.t n, hx, rfl⟩
  have hgl : ∀ (F : Env), (∀ t, writes t (o :: r) = false -> get F t = get env t) -> ∀ t w, o.guard = some (t, w) -> get F t = get env t := fun F hF t w hg => hl F hF t (by simp [AOper.looks, hg])
  -- an operation that leaves the heap
  have still : ∀ (env' F : Env) (az : List (Nat × List AV)) (hs : List AHeap) (fl : List (Option Nat)) (h' : AHeap), PassS P I r env' F cur h' (i0 + 1) az hs fl j -> (∀ t, o.dst ≠ some t -> get env' t = get env t) -> ((∀ t, writes t (o :: r) = false -> get F t = get env t) -> FactS P I F hs j o none) -> PassS P I (o :: r) env F cur h' i0 az hs (none :: fl) j := by
   intro env' F az hs fl h' hp henv hf
   have hF : ∀ t, writes t (o :: r) = false -> get F t = get env t := fun t ht => by
    obtain ⟨h1, h2⟩ := hwr t ht
    rw [hp.keep t h2, henv t h1]
   refine ⟨by simp [hp.len], hp.first, hp.last, fun i n hi => ?_, fun i k a b hik hi hk => ?_, fun n h1 h2 => ?_, hF, fun q p hqp => ?_, hp.incr, hp.inv, fun i n o' hi ho => ?_, fun i o' n hi hn => ?_⟩
   ·cases i with
    | zero => simp at hi
    | succ i => exact hp.bound i n (by simpa using hi)
   ·cases i with
    | zero => simp at hi
    | succ i => cases k with
     | zero => omega
     | succ k => exact hp.mono i k a b (by omega) (by simpa using hi) (by simpa using hk)
   ·obtain ⟨i, hi⟩ := hp.onto n h1 h2
    exact ⟨i + 1, by simpa using hi⟩
   ·obtain ⟨i, o', e1, e2, e3⟩ := hp.pos q p hqp
    exact ⟨i + 1, o', by omega, by simpa using e2, by simpa using e3⟩
   ·cases i with
    | zero => simp at hi
    | succ i => exact hp.chg i n o' (by simpa using hi) (by simpa using ho)
   ·cases i with
    | zero => simp at hi hn; subst hi hn; exact .inr (hf hF)
    | succ i =>
     rcases hp.fact i o' n (by simpa using hi) (by simpa using hn) with ⟨q, p, e1, e2⟩ | h
     ·exact .inl ⟨q, p, e1, by omega⟩
     ·exact .inr h
  have hputF : ∀ (av : AV) (F : Env) , (∀ t, writes t r = false -> get F t = get (putE env o.dst av) t) -> ∀ d, o.dst = some d -> get F d = some av := fun av F hF d hd' => by rw [hF d (hd d hd'), get_putE, if_pos hd']
  rcases hv with ⟨hg, hv⟩ | ⟨hg, hq, av, ha, hv⟩ | ⟨hg, hq, hnew, av, h1, ha, hI, hv⟩ | ⟨hb, cells, hop, hgd, hv⟩
  ·obtain ⟨F, az, hs, fl, h', hp, hk, has⟩ := vs_pass (i0 := i0 + 1) (j := j) hokr hv
   refine ⟨F, az, hs, none :: fl, h', still _ F az hs fl h' hp (fun t ht => by rw [get_dropE, if_neg ht]) fun hF => ?_, hk, has⟩
   exact guard_skip hg (hgl F hF) ⟨rfl, fun d hd' => by rw [hp.keep d (hd d hd'), get_dropE, if_pos hd']⟩
  ·obtain ⟨F, az, hs, fl, h', hp, hk, has⟩ := vs_pass (i0 := i0 + 1) (j := j) hokr hv
   refine ⟨F, az, hs, none :: fl, h', still _ F az hs fl h' hp (fun t ht => by rw [get_putE, if_neg ht]) fun hF => ?_, hk, has⟩
   exact guard_fact hg (hgl F hF) ⟨av, fun h2 hi => hcong F hF h2 _ (ha h2 hi), hputF av F hp.keep⟩
  ·obtain ⟨F, az, hs, fl, h', hp, hk, has⟩ := vs_pass (i0 := i0 + 1) (j := j + 1) hokr hv
   have has0 := has rfl
   subst has0
   have hF : ∀ t, writes t (o :: r) = false -> get F t = get env t := fun t ht => by
    obtain ⟨g1, g2⟩ := hwr t ht
    rw [hp.keep t g2, get_putE, if_neg g1]
   have hfirst : hs[0]? = some h1 := by rw [hp.first]; simp
   obtain ⟨nl, hnl, hlast⟩ := hp.last
   refine ⟨F, [], cur :: hs, some j :: fl, h', ⟨by simp [hp.len], by simp, ⟨nl + 1, by simp [hnl], by simpa using hlast⟩, fun i n hi => ?_, fun i k a b hik hi hk => ?_, fun n h1 h2 => ?_, hF, fun q p hqp => by simp at hqp, fun q r p s _ hqp => by simp at hqp, fun m hm h0 hmm => ?_, fun i n o' hi ho => ?_, fun i o' n hi hn => ?_⟩, hk, fun _ => rfl⟩
   ·cases i with
    | zero => simp at hi; subst hi; exact ⟨Nat.le_refl _, by simp; omega⟩
    | succ i => have := hp.bound i n (by simpa using hi); simp; omega
   ·cases i with
    | zero =>
     simp at hi
     cases k with
     | zero => omega
     | succ k => have := (hp.bound k b (by simpa using hk)).1; omega
    | succ i => cases k with
     | zero => omega
     | succ k => exact hp.mono i k a b (by omega) (by simpa using hi) (by simpa using hk)
   ·by_cases hnj : n = j
    ·subst hnj; exact ⟨0, rfl⟩
    ·obtain ⟨i, hi⟩ := hp.onto n (by omega) (by simp at h2; omega)
     exact ⟨i + 1, by simpa using hi⟩
   ·cases m with
    | zero => omega
    | succ m =>
     cases m with
     | zero => simp only [Nat.zero_add, List.getElem?_cons_succ] at hmm; rw [hfirst] at hmm; cases hmm; exact hI
     | succ m => exact hp.inv (m + 1) hm (by omega) (by simpa using hmm)
   ·cases i with
    | zero => simp at hi ho; subst ho; exact ⟨hq, hnew⟩
    | succ i => exact hp.chg i n o' (by simpa using hi) (by simpa using ho)
   ·cases i with
    | zero =>
     simp at hi hn; subst hi hn
     refine .inr (guard_fact hg (hgl F hF) ⟨av, cur, h1, by simp, by simpa using hfirst, hcong F hF _ _ (ha _ ⟨rfl, rfl⟩), hputF av F hp.keep⟩)
    | succ i =>
     rcases hp.fact i o' n (by simpa using hi) (by simpa using hn) with ⟨q, p, e1, e2⟩ | h
     ·simp at e1
     ·refine .inr ?_
      have up : DoesS P I F hs (j + 1) o' n -> DoesS P I F (cur :: hs) j o' n := by
       intro hdo
       cases n with
       | none => exact hdo
       | some n =>
        have hb := (hp.bound i n (by simpa using hn)).1
        obtain ⟨av', g1, g2, e1, e2, e3⟩ := hdo
        have q1 : n - j = (n - (j + 1)) + 1 := by omega
        exact ⟨av', g1, g2, by rw [q1]; simpa using e1, by rw [q1]; simpa using e2, e3⟩
      unfold FactS at h ⊢
      cases hgd : o'.guard with
      | none => rw [hgd] at h; exact up h
      | some g =>
       rw [hgd] at h
       rcases h with ⟨b', q1, q2, q3⟩ | h
       ·exact .inl ⟨b', q1, fun hb' => up (q2 hb'), q3⟩
       ·exact .inr h
  ·obtain ⟨F, az, hs, fl, h', hp, hk, has⟩ := vs_pass (i0 := i0 + 1) (j := j) hokr hv
   have hF : ∀ t, writes t (o :: r) = false -> get F t = get env t := fun t ht => by
    obtain ⟨g1, g2⟩ := hwr t ht
    rw [hp.keep t g2, get_putE, if_neg g1]
   refine ⟨F, (i0, cells) :: az, hs, none :: fl, h', ⟨by simp [hp.len], by rw [hp.first]; simp, hp.last, fun i n hi => ?_, fun i k a b hik hi hk => ?_, fun n h1 h2 => ?_, hF, fun q p hqp => ?_, fun q s p t hqs hqp hst => ?_, hp.inv, fun i n o' hi ho => ?_, fun i o' n hi hn => ?_⟩, hk, fun h => by rw [hb] at h; cases h⟩
   ·cases i with
    | zero => simp at hi
    | succ i => exact hp.bound i n (by simpa using hi)
   ·cases i with
    | zero => simp at hi
    | succ i => cases k with
     | zero => omega
     | succ k => exact hp.mono i k a b (by omega) (by simpa using hi) (by simpa using hk)
   ·obtain ⟨i, hi⟩ := hp.onto n h1 h2
    exact ⟨i + 1, by simpa using hi⟩
   ·cases q with
    | zero =>
     simp at hqp; subst hqp
     refine ⟨0, o, rfl, rfl, hop, hgd, rfl, fun d hd' => ?_⟩
     rw [hputF _ F hp.keep d hd']; simp
    | succ q =>
     obtain ⟨i, o', e1, e2, e3, e4, e5, e6⟩ := hp.pos q p (by simpa using hqp)
     refine ⟨i + 1, o', by omega, by simpa using e2, e3, e4, by simpa using e5, fun d hd' => ?_⟩
     rw [e6 d hd']; simp; omega
   ·cases s with
    | zero => omega
    | succ s =>
     obtain ⟨i, o', e1, _⟩ := hp.pos s t (by simpa using hst)
     cases q with
     | zero => simp at hqp; subst hqp; simp; omega
     | succ q => exact hp.incr q s p t (by omega) (by simpa using hqp) (by simpa using hst)
   ·cases i with
    | zero => simp at hi
    | succ i => exact hp.chg i n o' (by simpa using hi) (by simpa using ho)
   ·cases i with
    | zero => simp at hi; subst hi; exact .inl ⟨0, _, rfl, by simp⟩
    | succ i =>
     rcases hp.fact i o' n (by simpa using hi) (by simpa using hn) with ⟨q, p, e1, e2⟩ | h
     ·exact .inl ⟨q + 1, p, by simpa using e1, by omega⟩
     ·exact .inr h
def statS (ord : List (List Nat)) (al : List AOper) : Bool :=
 (List.range al.length).all fun k => match al[k]? with
  | some o => !isChange o || (List.range al.length).all fun i => match al[i]? with
   | some p => (!(isChange p && decide (i < k)) || (ord.getD k []).contains i) && (!isNew p || (ord.getD k []).contains i)
   | none => true
  | none => true
theorem statS_get {ord : List (List Nat)} {al : List AOper} (h : statS ord al = true) {k i : Nat} {o p : AOper} (hk : al[k]? = some o) (hi : al[i]? = some p) (hc : isChange o = true) :
  (isChange p = true -> i < k -> i ∈ ord.getD k []) /\ (isNew p = true -> i ∈ ord.getD k []) := by
 simp only [statS, List.all_eq_true, List.mem_range] at h
 have h1 := h k (List.getElem?_eq_some_iff.1 hk).1
 rw [hk] at h1
 simp only [hc, Bool.not_true, Bool.false_or, List.all_eq_true, List.mem_range] at h1
 have h2 := h1 i (List.getElem?_eq_some_iff.1 hi).1
 rw [hi] at h2
 simp only [Bool.and_eq_true, Bool.or_eq_true, Bool.not_eq_true', Bool.and_eq_false_iff, decide_eq_false_iff_not, List.contains_iff_mem] at h2
 refine ⟨fun a b => ?_, fun a => ?_⟩
 ·rcases h2.1 with (h3 | h3) | h3
  ·rw [a] at h3; cases h3
  ·exact absurd b h3
  ·exact h3
 ·rcases h2.2 with h3 | h3
  ·rw [a] at h3; cases h3
  ·exact h3
theorem noise_S {P : Program} {I : AHeap -> Prop} {ord : List (List Nat)} {al : List AOper} {env : Env} {h : AHeap} {K : Env -> AHeap -> Prop} (hok : okq al = true) (hst : statS ord al = true) (hI : ∀ h2 : AHeap, (∃ ext, h2.blks = h.blks ++ ext) -> h2.bufs = h.bufs -> h2.globs = h.globs -> I h2) (hv : vs P I true al env h K) :
  ∃ F h' az hs fl, Noise P ord al env F h h' az hs fl /\ K F h' := by
 obtain ⟨F, az, hs, fl, h', ps, hk, _⟩ := vs_pass (i0 := 0) (j := 0) hok hv
 refine ⟨F, h', az, hs, fl, ?_, hk⟩
 obtain ⟨nl, hnl, hlast⟩ := ps.last
 have hget : ∀ k n : Nat, fl[k]? = some (some n) -> ∃ o, al[k]? = some o /\ isChange o = true := by
  intro k n hkn
  have hkl : k < al.length := by rw [← ps.len]; exact (List.getElem?_eq_some_iff.1 hkn).1
  have ho : al[k]? = some al[k] := List.getElem?_eq_getElem hkl
  obtain ⟨h1, h2⟩ := ps.chg k n _ hkn ho
  exact ⟨_, ho, by unfold isChange; rw [h1, h2]; rfl⟩
 have hpos : ∀ (q : Nat) (p : Nat × List AV), az[q]? = some p -> ∃ o, al[p.1]? = some o /\ isNew o = true /\ o.op = .alloc p.2 /\ o.guard = none /\ fl[p.1]? = some none /\ ∀ d, o.dst = some d -> get F d = some (.ptr (h.blks.length + q) 0) := by
  intro q p hqp
  obtain ⟨i, o, e1, e2, e3, e4, e5, e6⟩ := ps.pos q p hqp
  have : p.1 = i := by omega
  rw [this]
  exact ⟨o, e2, by unfold isNew; rw [e3, e4], e3, e4, e5, e6⟩
 refine ⟨ps.len, fun i k a b hik hi hk => ⟨ps.mono i k a b hik hi hk, ?_⟩, fun j hj => ps.onto j (by omega) (by omega), ?_, ps.last, fun i n hi => by have := ps.bound i n hi; omega, ps.keep, fun q p hqp => ?_, fun q r p s hqp hrs hps => ?_, fun k n hk p hp => ?_, fun i o n hi hn => ?_⟩
 ·obtain ⟨o1, h1, h2⟩ := hget i a hi
  obtain ⟨o2, h3, h4⟩ := hget k b hk
  exact (statS_get hst h3 h1 h4).1 h2 hik
 ·rw [ps.first]; simp [hA]
 ·obtain ⟨o, e1, _, e2⟩ := hpos q p hqp
  exact ⟨o, e1, e2⟩
 ·rcases Nat.lt_trichotomy q r with hlt | heq | hgt
  ·have := ps.incr q r p s hlt hqp hrs; omega
  ·exact heq
  ·have := ps.incr r q s p hgt hrs hqp; omega
 ·obtain ⟨o2, h3, h4⟩ := hget k n hk
  obtain ⟨q, hq⟩ := List.mem_iff_getElem?.1 hp
  obtain ⟨o, e1, e2, _⟩ := hpos q p hq
  exact (statS_get hst h3 e1 h4).2 e2
 ·rcases ps.fact i o n hi hn with ⟨q, p, e1, e2⟩ | hf
  ·exact .inl ⟨q, p, e1, by omega⟩
  right
  have conv : DoesS P I F hs 0 o n -> DoesN P F h az hs ord fl i o n := by
   intro hd
   cases n with
   | some n => obtain ⟨av, h1, h2, e1, e2, e3⟩ := hd; exact ⟨av, h1, h2, by simpa using e1, by simpa using e2, e3⟩
   | none =>
    obtain ⟨av, hqa, hfd⟩ := hd
    refine ⟨av, 0, hs.length - 1, by omega, fun j lst hj _ _ h3 => hqa hj ?_, fun k n _ h => by omega, .inl (by omega), hfd⟩
    cases j with
    | zero =>
     have : hA h az lst = hj := Option.some.inj h3
     subst this
     exact hI _ ⟨_, rfl⟩ rfl rfl
    | succ j => exact ps.inv (j + 1) hj (by omega) h3
  unfold FactN
  unfold FactS at hf
  cases hgd : o.guard with
  | none => rw [hgd] at hf; simp only [hgd]; exact conv hf
  | some g =>
   obtain ⟨t, want⟩ := g
   rw [hgd] at hf
   simp only [hgd]
   rcases hf with ⟨b, h1, h2, h3⟩ | hf
   ·exact .inl ⟨b, h1, fun hb => conv (h2 hb), h3⟩
   ·exact .inr hf
def InS (S : List (Nat × List AV)) (gl : List (Nat × List AV)) (h : AHeap) : Prop := (∀ b c, (b, c) ∈ S -> h.blks[b]? = some (some c)) /\ h.globs = gl
def inS (S : List (Nat × List AV)) (h : AHeap) : List (Option (Option (List AV))) := S.map fun p => h.blks[p.1]?
theorem InS_of {S gl : List (Nat × List AV)} {h : AHeap} (h1 : inS S h = S.map fun p => some (some p.2)) (h2 : h.globs = gl) : InS S gl h := by
 refine ⟨fun b c hbc => ?_, h2⟩
 obtain ⟨i, hi⟩ := List.mem_iff_getElem?.1 hbc
 have := congrArg (fun l => l[i]?) h1
 simpa [inS, List.getElem?_map, hi] using this
def Sp (P : Program) (S gl : List (Nat × List AV)) (b : Bool) (L : List AOper) (k : Nat) (env : Env) (h : AHeap) (K : Env -> AHeap -> Prop) : Prop := vs P (InS S gl) b (L.drop k) env h K
def mini : Nat -> List (Nat × List AV) -> List (Option (List AV))
 | 0, _ => []
 | n + 1, S => mini n S ++ [(S.find? fun p => p.1 == n).map (·.2)]
theorem mini_len : ∀ (n : Nat) (S : List (Nat × List AV)), (mini n S).length = n
 | 0, _ => rfl
 | n + 1, S => by simp [mini, mini_len n S]
theorem mini_get : ∀ (n : Nat) (S : List (Nat × List AV)) (k : Nat) (c : List AV), (mini n S)[k]? = some (some c) -> (k, c) ∈ S
 | 0, _, k, c, h => by simp [mini] at h
 | n + 1, S, k, c, h => by
  by_cases hk : k < n
  ·refine mini_get n S k c ?_
   rw [mini, List.getElem?_append_left (by rw [mini_len]; exact hk)] at h
   exact h
  ·rw [mini, List.getElem?_append_right (by rw [mini_len]; omega), mini_len] at h
   by_cases he : k = n
   ·subst he
    simp only [Nat.sub_self, List.getElem?_cons_zero, Option.some.injEq, Option.map_eq_some_iff] at h
    obtain ⟨p, h1, rfl⟩ := h
    have h2 := List.find?_some h1
    have h3 := List.mem_of_find?_eq_some h1
    have : p.1 = k := by simpa using h2
    subst this
    exact h3
   ·rw [List.getElem?_eq_none (by simp; omega)] at h; cases h
theorem mini_loaded {S gl : List (Nat × List AV)} {n : Nat} {h : AHeap} (hi : InS S gl h) {m : Option Nat} {p a : AV} (hl : loadedF ⟨mini n S, [], gl⟩ m p = some a) : loadedF h m p = some a := by
 have hp : ∀ q, place ⟨mini n S, [], gl⟩ p = some q -> place h p = some q := by
  intro q hq
  cases p with
  | ptr k off =>
   simp only [place] at hq ⊢
   split at hq
   ·rename_i cells hc
    rw [hi.1 k cells (mini_get n S k cells hc)]
    exact hq
   ·cases hq
  | glob k => simp only [place] at hq ⊢; rw [hi.2]; exact hq
  | elt c o => exact hq
  | _ => simp [place] at hq
 unfold loadedF at hl ⊢
 cases hq : place ⟨mini n S, [], gl⟩ p with
 | none => rw [hq] at hl; cases hl
 | some q => rw [hq] at hl; rw [hp q hq]; exact hl
def vsC (n : Nat) (S gl : List (Nat × List AV)) (b : Bool) : List AOper -> Env -> AHeap -> Option (Env × AHeap)
 | [], env, h => some (env, h)
 | o :: r, env, h => (guardF env o.guard).bind fun g => match g with
  | false => vsC n S gl b r (dropE env o.dst) h
  | true => match o.op, o.guard with
   | .alloc cells, none => if b = true then vsC n S gl b r (putE env o.dst (.ptr h.blks.length 0)) ⟨h.blks ++ [some cells], h.bufs, h.globs⟩ else none
   | _, _ => if quietOp o.op = true then (aopF false noC o.op env ⟨mini n S, [], gl⟩).bind fun p => vsC n S gl b r (putE env o.dst p.1) h else none
theorem quiet_all {P : Program} {n : Nat} {S gl : List (Nat × List AV)} {o : AOp} {env : Env} {a : AV} {h1 : AHeap} (hq : quietOp o = true) (he : aopF false noC o env ⟨mini n S, [], gl⟩ = some (a, h1)) : ∀ h2, InS S gl h2 -> aopQ P o env h2 a := by
 intro h2 hi
 have hsame : h1 = ⟨mini n S, [], gl⟩ := aopF_quiet (fun f args h a h' he => by cases he) hq he
 subst hsame
 by_cases hp : pureOp o = true
 ·exact aopQ_pure hp (aopF_ok (K := fun x y => x = a /\ y = _) noC_ok he ⟨rfl, rfl⟩)
 ·cases o <;> first | (exact absurd rfl hp) | (cases hq; done) | skip
  case load m x =>
   simp only [aopF, Option.bind_eq_some_iff] at he
   obtain ⟨p, h1, h3⟩ := he
   obtain ⟨h4, _⟩ := stay_some h3
   show wv (x.ev env) _
   rw [h1]
   exact loadedF_ok (K := fun x => x = a /\ h2 = h2) (mini_loaded hi h4) ⟨rfl, rfl⟩
  case call f args =>
   simp only [aopF, Option.bind_eq_some_iff] at he
   obtain ⟨fv, h1, l, h3, h4⟩ := he
   split at h4 <;> cases h4
theorem vsC_ok {P : Program} {n : Nat} {S gl : List (Nat × List AV)} {b : Bool} {t : List AOper} {K : Env -> AHeap -> Prop} : ∀ {a : List AOper} {env : Env} {h : AHeap} {r : Env × AHeap}, vsC n S gl b a env h = some r -> vs P (InS S gl) b t r.1 r.2 K -> vs P (InS S gl) b (a ++ t) env h K
 | [], env, h, r, he, hk => by cases he; exact hk
 | o :: a, env, h, r, he, hk => by
  simp only [vsC, Option.bind_eq_some_iff] at he
  obtain ⟨g, h1, h2⟩ := he
  cases g with
  | false => exact .inl ⟨h1, vsC_ok h2 hk⟩
  | true =>
   simp only at h2
   split at h2
   ·rename_i cells ho hgd
    split at h2
    ·rename_i hb
     exact .inr (.inr (.inr ⟨hb, cells, ho, hgd, vsC_ok h2 hk⟩))
    ·cases h2
   ·split at h2
    ·rename_i hq
     simp only [Option.bind_eq_some_iff] at h2
     obtain ⟨⟨av, hx⟩, h3, h4⟩ := h2
     exact .inr (.inl ⟨h1, hq, av, quiet_all hq h3, vsC_ok h4 hk⟩)
    ·cases h2
section
variable {P : Program} {h h' : AHeap} {env : Env} {N : Nat} {Q : Exit -> Env -> AHeap -> Prop} {K : Env -> AHeap -> Prop} {L : List AOper} {k : Nat} {S gl : List (Nat × List AV)} {b : Bool}
theorem sp_chunk (n m : Nat) (env' : Env) (h' : AHeap) (he : vsC n S gl b ((L.drop k).take m) env h = some (env', h')) {k' : Nat} (hk' : k + m = k') (hk : Sp P S gl b L k' env' h' K) : Sp P S gl b L k env h K := by
 subst hk'
 show vs P _ b (L.drop k) env h K
 rw [← List.take_append_drop m (L.drop k), List.drop_drop]
 exact vsC_ok he hk
theorem sp_q {o : AOper} (hl : L[k]? = some o) (hg : guardF env o.guard = some true) (hq : quietOp o.op = true) {av : AV} {env1 : Env} (ha : ∀ h2, InS S gl h2 -> Does P o.op env h2 av h2) {k' : Nat} (hk' : k + 1 = k') (he : putE env o.dst av = env1) (hk : Sp P S gl b L k' env1 h K) : Sp P S gl b L k env h K := by
 subst hk' he
 obtain ⟨hlt, rfl⟩ := List.getElem?_eq_some_iff.1 hl
 show vs P _ b (L.drop k) env h K
 rw [List.drop_eq_getElem_cons hlt]
 exact .inr (.inl ⟨hg, hq, av, fun h2 hi => (ha h2 hi).q, hk⟩)
theorem sp_chg {o : AOper} (hl : L[k]? = some o) (hg : guardF env o.guard = some true) (hq : quietOp o.op = false) (hn : isNew o = false) {av : AV} {env1 : Env} (ha : Does P o.op env h av h') (hi : inS S h' = S.map fun p => some (some p.2)) (hgl : h'.globs = gl) {k' : Nat} (hk' : k + 1 = k') (he : putE env o.dst av = env1) (hk : Sp P S gl false L k' env1 h' K) : Sp P S gl b L k env h K := by
 subst hk' he
 obtain ⟨hlt, rfl⟩ := List.getElem?_eq_some_iff.1 hl
 show vs P _ b (L.drop k) env h K
 rw [List.drop_eq_getElem_cons hlt]
 exact .inr (.inr (.inl ⟨hg, hq, hn, av, h', ha, InS_of hi hgl, hk⟩))
theorem vs_less {I : AHeap -> Prop} {K : Env -> AHeap -> Prop} (hK : KMono K) : ∀ {l : List AOper} {b : Bool} {e env : Env} {h : AHeap}, Less e env -> vs P I b l e h K -> vs P I b l env h K
 | [], b, e, env, h, he, hv => hK e env h he hv
 | o :: r, b, e, env, h, he, hv => by
  rcases hv with ⟨hg, hv⟩ | ⟨hg, hq, av, ha, hv⟩ | ⟨hg, hq, hn, av, h', ha, hi, hv⟩ | ⟨hb, cells, ho, hg, hv⟩
  ·exact .inl ⟨he.guard hg, vs_less hK (he.drop _) hv⟩
  ·exact .inr (.inl ⟨he.guard hg, hq, av, fun h2 hi => aop_less he (ha h2 hi), vs_less hK (he.put _ _) hv⟩)
  ·exact .inr (.inr (.inl ⟨he.guard hg, hq, hn, av, h', ha.less he, hi, vs_less hK (he.put _ _) hv⟩))
  ·exact .inr (.inr (.inr ⟨hb, cells, ho, hg, vs_less hK (he.put _ _) hv⟩))
theorem sp_end (hl : L.drop k = []) (hk : K env h) : Sp P S gl b L k env h K := by
 show vs P _ b (L.drop k) env h K
 rw [hl]; exact hk
theorem c_drawnS (S : List (Nat × List AV)) {ord : List (List Nat)} {al tl : List AOper} (hok : okq al = true) (hst : statS (clo ord) al = true) (hS : inS S h = S.map fun p => some (some p.2)) (hv : Sp P S h.globs true al 0 env h fun F h' => vd P tl F h' fun env' h' => Q .normal env' h') : C P N (.drawn ord al tl) Q env h := by
 have hv' : vs P (InS S h.globs) true al env h fun F h' => vd P tl F h' fun env' h' => Q .normal env' h' := hv
 obtain ⟨F, h', az, hs, fl, hn, hk⟩ := noise_S hok hst (fun h2 ⟨ext, he⟩ _ hgl => ⟨fun b c hbc => by
  have := (InS_of hS rfl : InS S h.globs h).1 b c hbc
  rw [he, List.getElem?_append_left (List.getElem?_eq_some_iff.1 this).1]; exact this, hgl⟩) hv'
 exact ⟨asem_drawnC hn (vd_vops hk)⟩
theorem all_n {g : FuncId} {f : AOpd} {args : List AOpd} {l l' : List AV} {r : AV} (hf : f.ev env = some (.clo (.func g) [] [])) (ha : evs env args = some l) (hl : l.map nz = l') (hgl : plainG gl = true) (hp : plainL l' = true) (hc : PureN P gl g l' r) : ∀ h2, InS S gl h2 -> Does P (.call f args) env h2 r h2 := fun h2 hi => by
 rw [← hi.2] at hgl hc
 exact q_calln hf ha hl hgl hp hc
end
mutual
def low (m : List Bool) (n : Nat) : AV -> Bool
 | .v _ => true
 | .ptr k _ => m.getD k false
 | .elt cells _ => lowL m n cells
 | .nil => true
 | .sl els tok => (match tok with | .own id => decide (id < n) | _ => true) && lowLL m n els
 | .agg cells => lowL m n cells
 | .tuple vs => lowL m n vs
 | .iface _ x => low m n x
 | .clo _ first captured => lowL m n first && lowL m n captured
 | .glob _ => true
 | .row k _ _ _ _ => m.getD k false
 | .it _ _ => true
def lowL (m : List Bool) (n : Nat) : List AV -> Bool
 | [] => true
 | a :: r => low m n a && lowL m n r
def lowLL (m : List Bool) (n : Nat) : List (List AV) -> Bool
 | [] => true
 | a :: r => lowL m n a && lowLL m n r
end
mutual
theorem low_plain (m : List Bool) (n : Nat) : ∀ a, plain a = true -> low m n a = true
 | .v _, _ => rfl
 | .ptr _ _, h => by cases h
 | .elt cells _, h => by simp only [plain, low] at h ⊢; exact lowL_plain m n cells h
 | .nil, _ => rfl
 | .sl els tok, h => by
  simp only [plain, low, Bool.and_eq_true] at h ⊢
  refine ⟨?_, lowLL_plain m n els h.2⟩
  cases tok <;> first | rfl | (simp at h)
 | .agg cells, h => by simp only [plain, low] at h ⊢; exact lowL_plain m n cells h
 | .tuple cells, h => by simp only [plain, low] at h ⊢; exact lowL_plain m n cells h
 | .iface _ x, h => by simp only [plain, low] at h ⊢; exact low_plain m n x h
 | .clo _ a b, h => by simp only [plain, low, Bool.and_eq_true] at h ⊢; exact ⟨lowL_plain m n a h.1, lowL_plain m n b h.2⟩
 | .glob _, _ => rfl
 | .row _ _ _ _ _, h => by cases h
 | .it _ _, h => by cases h
theorem lowL_plain (m : List Bool) (n : Nat) : ∀ l, plainL l = true -> lowL m n l = true
 | [], _ => rfl
 | a :: r, h => by simp only [plainL, lowL, Bool.and_eq_true] at h ⊢; exact ⟨low_plain m n a h.1, lowL_plain m n r h.2⟩
theorem lowLL_plain (m : List Bool) (n : Nat) : ∀ l, plainLL l = true -> lowLL m n l = true
 | [], _ => rfl
 | a :: r, h => by simp only [plainLL, lowLL, Bool.and_eq_true] at h ⊢; exact ⟨lowL_plain m n a h.1, lowLL_plain m n r h.2⟩
end
theorem lowL_get {m : List Bool} {n : Nat} : ∀ {l : List AV}, lowL m n l = true -> ∀ (i : Nat) (av : AV), l[i]? = some av -> low m n av = true
 | [], _, i, av, h => by simp at h
 | a :: r, hp, i, av, h => by
  simp only [lowL, Bool.and_eq_true] at hp
  cases i with
  | zero => simp at h; subst h; exact hp.1
  | succ i => exact lowL_get hp.2 i av (by simpa using h)
theorem lowLL_get {m : List Bool} {n : Nat} : ∀ {l : List (List AV)}, lowLL m n l = true -> ∀ (i : Nat) (el : List AV), l[i]? = some el -> lowL m n el = true
 | [], _, i, av, h => by simp at h
 | a :: r, hp, i, av, h => by
  simp only [lowLL, Bool.and_eq_true] at hp
  cases i with
  | zero => simp at h; subst h; exact hp.1
  | succ i => exact lowLL_get hp.2 i av (by simpa using h)
def Sg.cut (σ : Sg) (m : List Bool) (n : Nat) : Sg := { σ with blk := fun k => if m.getD k false = true then σ.blk k else none, buf := fun id => if id < n then σ.buf id else none }
theorem cut_own {σ : Sg} {m : List Bool} {n b o : Nat} (h : (σ.cut m n).own b o) : σ.own b o := by
 rcases h with ⟨k, hk⟩ | ⟨id, e, he, hs⟩
 ·simp only [Sg.cut] at hk; split at hk
  ·exact .inl ⟨k, hk⟩
  ·cases hk
 ·simp only [Sg.cut] at he; split at he
  ·exact .inr ⟨id, e, he, hs⟩
  ·cases he
theorem cut_open {σ : Sg} {m : List Bool} {n b o : Nat} (h : (σ.cut m n).open_ b o) : σ.open_ b o := h.elim .inl fun h => .inr (cut_own h)
theorem Rel.cut {σ : Sg} {m : List Bool} {n : Nat} {av : AV} {x : Value} (hr : Rel σ av x) : low m n av = true -> Rel (σ.cut m n) av x := by
 induction hr with
 | v x h => intro _; exact .v x h
 | ptr k off b h => intro hl; exact .ptr k off b (by simp only [Sg.cut]; rw [if_pos (by simpa [low] using hl)]; exact h)
 | elt cells off b o xs hc hr ih =>
  intro hl
  exact .elt cells off b o xs (fun i av hi => ⟨(hc i av hi).1, fun h => (hc i av hi).2.1 (cut_open h), (hc i av hi).2.2⟩) fun i av hi => ih i av hi (lowL_get (by simpa [low] using hl) i av hi)
 | nil => intro _; exact .nil
 | glob k => intro _; exact .glob k
 | row k off size len capm b cap h hc hm hx => intro hl; exact .row k off size len capm b cap (by simp only [Sg.cut]; rw [if_pos (by simpa [low] using hl)]; exact h) hc hm hx
 | sl0 tok ht =>
  intro hl
  refine .sl0 tok ?_
  cases tok with
  | own id =>
   obtain ⟨e, h1, h2⟩ := ht
   refine ⟨e, ?_, h2⟩
   simp only [low, Bool.and_eq_true, decide_eq_true_eq] at hl
   simp only [Sg.cut]; rw [if_pos hl.1]; exact h1
  | _ => exact ht
 | slx tok a cap ht hc =>
  intro hl
  refine .slx tok a cap ?_ hc
  cases tok with
  | own id =>
   obtain ⟨e, h1, h2⟩ := ht
   refine ⟨e, ?_, h2⟩
   simp only [low, Bool.and_eq_true, decide_eq_true_eq] at hl
   simp only [Sg.cut]; rw [if_pos hl.1]; exact h1
  | _ => exact ht
 | sl els tok b o cap size xs hs hcap ht hz hc hr ih =>
  intro hl
  simp only [low, Bool.and_eq_true] at hl
  refine .sl els tok b o cap size xs hs hcap ?_ (fun id e h1 h2 => ?_) (fun i el hi j av hj => ⟨(hc i el hi j av hj).1, fun h => (hc i el hi j av hj).2.1 (cut_open h), (hc i el hi j av hj).2.2⟩) fun i el hi j av hj => ih i el hi j av hj (lowL_get (lowLL_get hl.2 i el hi) j av hj)
  ·cases tok with
   | own id =>
    obtain ⟨e, h1, h2⟩ := ht
    refine ⟨e, ?_, h2⟩
    simp only [Sg.cut]; rw [if_pos (by simpa using hl.1)]; exact h1
   | _ => exact ht
  ·simp only [Sg.cut] at h2; split at h2
   ·exact hz id e h1 h2
   ·cases h2
 | agg cells xs hn hc x hx hr ih => intro hl; exact .agg cells xs hn hc x hx fun i av hi => ih i av hi (lowL_get (by simpa [low] using hl) i av hi)
 | tuple vs xs hn x hx hr ih => intro hl; exact .tuple vs xs hn x hx fun i av hi => ih i av hi (lowL_get (by simpa [low] using hl) i av hi)
 | iface t av x h ih => intro hl; exact .iface t av x (ih (by simpa [low] using hl))
 | clo fn first captured fs cs hn hm x y hx hy hr hq ih1 ih2 =>
  intro hl
  simp only [low, Bool.and_eq_true] at hl
  exact .clo fn first captured fs cs hn hm x y hx hy (fun i av hi => ih1 i av hi (lowL_get hl.1 i av hi)) fun i av hi => ih2 i av hi (lowL_get hl.2 i av hi)
theorem Cells.cut {σ : Sg} {m : List Bool} {n : Nat} {cells : List AV} {vs : List Value} (hc : Cells σ cells vs) (hl : lowL m n cells = true) : Cells (σ.cut m n) cells vs := by
 refine ⟨hc.1, fun i av hi => ?_⟩
 obtain ⟨h1, x, h2, h3⟩ := hc.2 i av hi
 exact ⟨h1, x, h2, h3.cut (lowL_get hl i av hi)⟩
def lowE (m : List Bool) (n : Nat) : Env -> Bool
 | [] => true
 | (_, a) :: e => low m n a && lowE m n e
def lowB (m : List Bool) (n : Nat) : List (Option (List AV)) -> Bool
 | [] => true
 | some c :: r => lowL m n c && lowB m n r
 | none :: r => lowB m n r
theorem lowE_get {m : List Bool} {n : Nat} : ∀ {e : Env} {t : Nat} {a : AV}, lowE m n e = true -> get e t = some a -> low m n a = true
 | [], _, _, _, h => by cases h
 | (u, b) :: e, t, a, hl, h => by
  simp only [lowE, Bool.and_eq_true] at hl
  simp only [get] at h
  split at h
  ·cases h; exact hl.1
  ·exact lowE_get hl.2 h
theorem lowB_get {m : List Bool} {n : Nat} : ∀ {l : List (Option (List AV))} {i : Nat} {c : List AV}, lowB m n l = true -> l[i]? = some (some c) -> lowL m n c = true
 | [], _, _, _, h => by simp at h
 | o :: r, i, c, hl, h => by
  cases i with
  | zero => simp at h; subst h; simp only [lowB, Bool.and_eq_true] at hl; exact hl.1
  | succ i =>
   refine lowB_get (l := r) (i := i) ?_ (by simpa using h)
   cases o with
   | none => exact hl
   | some c' => simp only [lowB, Bool.and_eq_true] at hl; exact hl.2
def keepB : List Bool -> List (Option (List AV)) -> List (Option (List AV))
 | b :: m, x :: l => (if b = true then x else none) :: keepB m l
 | _, _ => []
theorem keepB_get : ∀ {m : List Bool} {l : List (Option (List AV))} {k : Nat} {c : List AV}, (keepB m l)[k]? = some (some c) -> m.getD k false = true /\ l[k]? = some (some c)
 | [], l, k, c, h => by simp [keepB] at h
 | b :: m, [], k, c, h => by simp [keepB] at h
 | b :: m, x :: l, k, c, h => by
  cases k with
  | zero =>
   simp only [keepB, List.getElem?_cons_zero, Option.some.injEq] at h
   split at h
   ·rename_i hb; subst h; exact ⟨hb, rfl⟩
   ·cases h
  | succ k => exact keepB_get (m := m) (l := l) (k := k) (by simpa [keepB] using h)
theorem keepB_of : ∀ {m : List Bool} {l : List (Option (List AV))} {k : Nat} {c : List AV}, m.getD k false = true -> l[k]? = some (some c) -> (keepB m l)[k]? = some (some c)
 | [], l, k, c, h, _ => by simp at h
 | b :: m, [], k, c, _, h => by simp at h
 | b :: m, x :: l, k, c, h1, h2 => by
  cases k with
  | zero =>
   have h1' : b = true := h1
   simp only [List.getElem?_cons_zero, Option.some.injEq] at h2
   simp [keepB, h1', h2]
  | succ k => simpa [keepB] using keepB_of (m := m) (l := l) (k := k) (by simpa using h1) (by simpa using h2)
theorem Inv.cut {σ : Sg} {h : AHeap} (hi : Inv h σ) (m : List Bool) (n : Nat) (hb : lowB m n (keepB m h.blks) = true) (hg : plainG h.globs = true) : Inv ⟨keepB m h.blks, h.bufs.take n, h.globs⟩ (σ.cut m n) := by
 have hblk : ∀ {k b : Nat}, (σ.cut m n).blk k = some b -> m.getD k false = true /\ σ.blk k = some b := by
  intro k b hk
  simp only [Sg.cut] at hk
  split at hk
  ·rename_i h1; exact ⟨h1, hk⟩
  ·cases hk
 have hbuf : ∀ {k : Nat} {e : Buf}, (σ.cut m n).buf k = some e -> k < n /\ σ.buf k = some e := by
  intro k b hk
  simp only [Sg.cut] at hk
  split at hk
  ·rename_i h1; exact ⟨h1, hk⟩
  ·cases hk
 refine ⟨fun k cells hk => ?_, fun k b hk => ?_, fun k l b c c' hk hl hc hc' h1 h2 => ?_, fun id c hc => ?_, fun id e he => ?_, fun id e he => hi.bufle id e (hbuf he).2, fun id e b o he hs => hi.bufat id e b o (hbuf he).2 hs, fun i j e f b o he hf h1 h2 => hi.bufinj i j e f b o (hbuf he).2 (hbuf hf).2 h1 h2, fun id e k b o he hs hk => hi.bufblk id e k b o (hbuf he).2 hs (hblk hk).2, fun b o ho => ⟨(hi.outer b o ho).1, fun h => (hi.outer b o ho).2 (cut_own h)⟩, fun g cells hgl => ?_⟩
 ·obtain ⟨h1, h2⟩ := keepB_get hk
  obtain ⟨b, h3, h4⟩ := hi.blk k cells h2
  refine ⟨b, by simp only [Sg.cut]; rw [if_pos h1]; exact h3, ?_⟩
  have hlow := lowB_get hb hk
  cases h4 with
  | cells _ cs rest elem h5 h6 => exact .cells cells cs rest elem h5 (h6.cut hlow)
  | it s p h5 => exact .it s p h5
 ·obtain ⟨h1, h2⟩ := hblk hk
  obtain ⟨c, h3⟩ := hi.dom k b h2
  exact ⟨c, keepB_of h1 h3⟩
 ·exact hi.inj k l b c c' (keepB_get hk).2 (keepB_get hl).2 hc hc' (hblk h1).2 (hblk h2).2
 ·rw [List.getElem?_take] at hc
  split at hc
  ·rename_i h1
   obtain ⟨e, h2, h3⟩ := hi.buf id c hc
   exact ⟨e, by simp only [Sg.cut]; rw [if_pos h1]; exact h2, h3⟩
  ·cases hc
 ·obtain ⟨h1, h2⟩ := hbuf he
  rw [List.getElem?_take, if_pos h1]
  exact hi.bufdom id e h2
 ·exact (hi.glob g cells hgl).cut (by simp only [low]; exact lowL_plain m n cells (List.all_eq_true.1 hg _ hgl))
def Low (σ : Sg) (kb kf : Nat) : Prop := (∀ k b, σ.blk k = some b -> k < kb) /\ ∀ id e, σ.buf id = some e -> id < kf
theorem Le.cut {σ0 σ : Sg} {kb kf n : Nat} {m : List Bool} (hle : Le σ0 σ) (hl : Low σ0 kb kf) (hm : ∀ k, k < kb -> m.getD k false = true) (hn : kf <= n) : Le σ0 (σ.cut m n) where
 blk k b hk := by
  simp only [Sg.cut]; rw [if_pos (hm k (hl.1 k b hk))]; exact hle.blk k b hk
 buf id e he := by
  obtain ⟨e', h1, h2⟩ := hle.buf id e he
  exact ⟨e', by simp only [Sg.cut]; rw [if_pos (by have := hl.2 id e he; omega)]; exact h1, h2⟩
 outer := hle.outer
 cell := hle.cell
 ext := hle.ext
 whole := hle.whole
 own b o hb ho := hle.own b o hb (cut_own ho)
 size := hle.size
 os := hle.os
 tape := hle.tape
 output := hle.output
structure D (P : Program) (N kb kf : Nat) (x : ACode) (Q : Exit -> Env -> AHeap -> Prop) (env : Env) (h : AHeap) : Prop where
 out : ∀ c, compCode P N c = some x -> ∀ (σ0 σ : Sg) (a : Act), St σ h env N a -> Le σ0 σ -> Low σ0 kb kf -> c.wp P (Lifted σ0 N Q) a σ.w
structure DL (P : Program) (N kb kf : Nat) (x : ACode) (Q : Exit -> Env -> AHeap -> Prop) (env : Env) (h : AHeap) : Prop where
 out : ∀ c, compCode P N c = some x -> ∀ (σ0 σ : Sg) (a : Act), St σ h env N a -> Le σ0 σ -> Low σ0 kb kf -> LoopW P c (Lifted σ0 N Q) a σ.w
def LabW (P : Program) (c rest : Code) (Q : Exit -> Act -> World -> Prop) (a : Act) (w : World) : Prop := ∀ b k cs, ∃ e a' w', Q e a' w' /\ Arrives P (lone (b.at a (.code rest :: .inScope c :: k)) cs w) b k cs e a' w'
structure DG (P : Program) (N kb kf : Nat) (x : ACode) (l : Nat) (Q : Exit -> Env -> AHeap -> Prop) (env : Env) (h : AHeap) : Prop where
 out : ∀ c rest, compCode P N c = some x -> findLabel c l = some rest -> ∀ (σ0 σ : Sg) (a : Act), St σ h env N a -> Le σ0 σ -> Low σ0 kb kf -> LabW P c rest (Lifted σ0 N Q) a σ.w
section
variable {P : Program} {h h' : AHeap} {env env' : Env} {N kb kf : Nat} {Q : Exit -> Env -> AHeap -> Prop} {x y : ACode}
theorem d_of_c (hx : C P N x Q env h) : D P N kb kf x Q env h := ⟨fun c hc σ0 σ a hs hle hl => Code.wp_mono (fun e a' w hh => hh.up hle) (hx.out c hc σ a hs)⟩
theorem Inv.low {σ : Sg} (hi : Inv h σ) (h1 : h.blks.length <= kb) (h2 : h.bufs.length <= kf) : Low σ kb kf := by
 refine ⟨fun k b hk => ?_, fun id e he => ?_⟩
 ·have := hi.name hk; omega
 ·have := (List.getElem?_eq_some_iff.1 (hi.bufdom id e he)).1; omega
theorem asem_of_d (h1 : h.blks.length <= kb) (h2 : h.bufs.length <= kf) (hx : D P N kb kf x Q env h) : asem P N x Q env h := fun c hc σ a hs => hx.out c hc σ σ a hs (Le.refl σ) (hs.inv.low h1 h2)
theorem f_pureD {gl : List (Nat × List AV)} {f : FuncId} {ac : ACode} {rs : List ARes} (hf : getFn P f = some (N, ac, rs)) {args : List AV} {r : AV} {e₀ : Env} (hn : args.length <= N) (he : envOf 0 args = e₀)
  (hbody : D P N 0 0 ac (qret rs r) e₀ ⟨[], [], gl⟩) : PureN P gl f args r := f_pureN hf hn he ⟨asem_of_d (Nat.le_refl _) (Nat.le_refl _) hbody⟩
theorem d_region {ops : List AOper} (hv : V P ops env h fun env' h' => Q .normal env' h') : D P N kb kf (.region ops) Q env h := d_of_c (c_region hv)
theorem d_drawnS (S : List (Nat × List AV)) {ord : List (List Nat)} {al tl : List AOper} (hok : okq al = true) (hst : statS (clo ord) al = true) (hS : inS S h = S.map fun p => some (some p.2)) (hv : Sp P S h.globs true al 0 env h fun F h' => vd P tl F h' fun env' h' => Q .normal env' h') : D P N kb kf (.drawn ord al tl) Q env h := d_of_c (c_drawnS S hok hst hS hv)
theorem d_skip (hq : Q .normal env h) : D P N kb kf .skip Q env h := d_of_c (c_skip hq)
theorem d_exit {id : Nat} (hq : Q (.exit id) env h) : D P N kb kf (.exit id) Q env h := d_of_c (c_exit hq)
theorem d_ret (hq : Q .ret env h) : D P N kb kf .ret Q env h := d_of_c (c_ret hq)
theorem d_label {l : Nat} (hq : Q .normal env h) : D P N kb kf (.label l) Q env h := d_of_c (c_label hq)
theorem d_ghost (hg : ∀ (σ : Sg) (a : Act), St σ h env N a -> ∃ σ' h' env', σ'.w = σ.w /\ Le σ σ' /\ St σ' h' env' N a /\ D P N kb kf x Q env' h') : D P N kb kf x Q env h := ⟨by
 intro c hc σ0 σ a hs hle hl
 obtain ⟨σ', h', env', hw, l1, s1, hx⟩ := hg σ a hs
 rw [← hw]
 exact hx.out c hc σ0 σ' a s1 (hle.trans l1) hl⟩
theorem dl_ghost (hg : ∀ (σ : Sg) (a : Act), St σ h env N a -> ∃ σ' h' env', σ'.w = σ.w /\ Le σ σ' /\ St σ' h' env' N a /\ DL P N kb kf x Q env' h') : DL P N kb kf x Q env h := ⟨by
 intro c hc σ0 σ a hs hle hl
 obtain ⟨σ', h', env', hw, l1, s1, hx⟩ := hg σ a hs
 rw [← hw]
 exact hx.out c hc σ0 σ' a s1 (hle.trans l1) hl⟩
theorem dg_ghost {l : Nat} (hg : ∀ (σ : Sg) (a : Act), St σ h env N a -> ∃ σ' h' env', σ'.w = σ.w /\ Le σ σ' /\ St σ' h' env' N a /\ DG P N kb kf x l Q env' h') : DG P N kb kf x l Q env h := ⟨by
 intro c rest hc hr σ0 σ a hs hle hl
 obtain ⟨σ', h', env', hw, l1, s1, hx⟩ := hg σ a hs
 rw [← hw]
 exact hx.out c rest hc hr σ0 σ' a s1 (hle.trans l1) hl⟩
theorem trim_st (e : Env) (he : e.map (fun p => get env p.1) = e.map fun p => some p.2) {σ : Sg} {a : Act} (hs : St σ h env N a) : St σ h e N a := ⟨hs.inv, fun t av hg => hs.env t av ((envLe_of' e he).get t av hg), hs.size, hs.defers⟩
theorem d_trim (e : Env) (he : e.map (fun p => get env p.1) = e.map fun p => some p.2) (hx : D P N kb kf x Q e h) : D P N kb kf x Q env h := d_ghost fun σ a hs => ⟨σ, h, e, rfl, Le.refl σ, trim_st e he hs, hx⟩
theorem dl_trim (e : Env) (he : e.map (fun p => get env p.1) = e.map fun p => some p.2) (hx : DL P N kb kf x Q e h) : DL P N kb kf x Q env h := dl_ghost fun σ a hs => ⟨σ, h, e, rfl, Le.refl σ, trim_st e he hs, hx⟩
theorem dg_trim {l : Nat} (e : Env) (he : e.map (fun p => get env p.1) = e.map fun p => some p.2) (hx : DG P N kb kf x l Q e h) : DG P N kb kf x l Q env h := dg_ghost fun σ a hs => ⟨σ, h, e, rfl, Le.refl σ, trim_st e he hs, hx⟩
theorem own_st {t : Nat} (size : Nat) (hg : get env t = some .nil) {σ : Sg} {a : Act} (hs : St σ h env N a) : ∃ σ', σ'.w = σ.w /\ Le σ σ' /\ St σ' ⟨h.blks, h.bufs ++ [(0, size)], h.globs⟩ ((t, .sl [] (.own h.bufs.length)) :: env) N a := by
 obtain ⟨σ1, w1, l1, i1, b1⟩ := register hs.inv ⟨0, size, none, 0⟩ rfl (fun _ => rfl)
 refine ⟨σ1, w1, l1, i1, ?_, hs.size, hs.defers⟩
 intro u av hu
 simp only [get] at hu
 split at hu
 ·rename_i htu
  subst htu
  cases hu
  obtain ⟨y, h1, h2⟩ := hs.env t _ hg
  cases h2
  exact ⟨_, h1, .sl0 _ ⟨_, b1, Nat.le_refl _, fun _ => ⟨rfl, rfl⟩⟩⟩
 ·exact (hs.env.mono l1) u av hu
theorem dl_own {t : Nat} (size : Nat) (hg : get env t = some .nil) (hx : DL P N kb kf x Q ((t, .sl [] (.own h.bufs.length)) :: env) ⟨h.blks, h.bufs ++ [(0, size)], h.globs⟩) : DL P N kb kf x Q env h := dl_ghost fun σ a hs => by
 obtain ⟨σ', h1, h2, h3⟩ := own_st size hg hs
 exact ⟨σ', _, _, h1, h2, h3, hx⟩
theorem drop_st (m : List Bool) (n : Nat) {σ0 σ : Sg} {a : Act} (hs : St σ h env N a) (hle : Le σ0 σ) (hl : Low σ0 kb kf) (hm : ∀ k, k < kb -> m.getD k false = true) (hn : kf <= n) (he : lowE m n env = true) (hb : lowB m n (keepB m h.blks) = true) (hg : plainG h.globs = true) :
  St (σ.cut m n) ⟨keepB m h.blks, h.bufs.take n, h.globs⟩ env N a /\ Le σ0 (σ.cut m n) :=
 ⟨⟨hs.inv.cut m n hb hg, fun t av ht => by obtain ⟨y, h1, h2⟩ := hs.env t av ht; exact ⟨y, h1, h2.cut (lowE_get he ht)⟩, hs.size, hs.defers⟩, hle.cut hl hm hn⟩
theorem dl_drop (m : List Bool) (n : Nat) (hm : ∀ k, k < kb -> m.getD k false = true) (hn : kf <= n) (he : lowE m n env = true) (hb : lowB m n (keepB m h.blks) = true) (hg : plainG h.globs = true) (hx : DL P N kb kf x Q env ⟨keepB m h.blks, h.bufs.take n, h.globs⟩) : DL P N kb kf x Q env h := ⟨by
 intro c hc σ0 σ a hs hle hl
 obtain ⟨h1, h2⟩ := drop_st m n hs hle hl hm hn he hb hg
 exact hx.out c hc σ0 (σ.cut m n) a h1 h2 hl⟩
theorem dg_drop {l : Nat} (m : List Bool) (n : Nat) (hm : ∀ k, k < kb -> m.getD k false = true) (hn : kf <= n) (he : lowE m n env = true) (hb : lowB m n (keepB m h.blks) = true) (hg : plainG h.globs = true) (hx : DG P N kb kf x l Q env ⟨keepB m h.blks, h.bufs.take n, h.globs⟩) : DG P N kb kf x l Q env h := ⟨by
 intro c rest hc hr σ0 σ a hs hle hl
 obtain ⟨h1, h2⟩ := drop_st m n hs hle hl hm hn he hb hg
 exact hx.out c rest hc hr σ0 (σ.cut m n) a h1 h2 hl⟩
theorem d_drop (m : List Bool) (n : Nat) (hm : ∀ k, k < kb -> m.getD k false = true) (hn : kf <= n) (he : lowE m n env = true) (hb : lowB m n (keepB m h.blks) = true) (hg : plainG h.globs = true) (hx : D P N kb kf x Q env ⟨keepB m h.blks, h.bufs.take n, h.globs⟩) : D P N kb kf x Q env h := ⟨by
 intro c hc σ0 σ a hs hle hl
 obtain ⟨h1, h2⟩ := drop_st m n hs hle hl hm hn he hb hg
 exact hx.out c hc σ0 (σ.cut m n) a h1 h2 hl⟩
theorem seq_inv {c : Code} (hc : compCode P N c = some (.seq x y)) : ∃ cx cy, c = .seq cx cy /\ compCode P N cx = some x /\ compCode P N cy = some y := by
 cases c <;> (try simp only [compCode, Option.bind_eq_some_iff, Option.map_eq_some_iff] at hc)
 case seq cx cy => obtain ⟨x', hx', y', hy', he⟩ := hc; cases he; exact ⟨cx, cy, rfl, hx', hy'⟩
 case region id ops d =>
  cases d <;> simp only [compCode, Option.bind_eq_some_iff, Option.map_eq_some_iff] at hc
  ·obtain ⟨_, _, hx⟩ := hc; cases hx
  ·obtain ⟨_, _, _, _, hx⟩ := hc; split at hx <;> cases hx
 all_goals first
  | (cases hc; done)
  | (obtain ⟨_, _, hx⟩ := hc; cases hx; done)
  | (obtain ⟨_, _, _, _, hx⟩ := hc; cases hx; done)
  | (obtain ⟨_, _, _, _, _, _, hx⟩ := hc; cases hx; done)
theorem block_inv {c : Code} {id : Nat} (hc : compCode P N c = some (.block id x)) : ∃ cx, c = .block id cx /\ compCode P N cx = some x := by
 cases c <;> (try simp only [compCode, Option.bind_eq_some_iff, Option.map_eq_some_iff] at hc)
 case block i cx => obtain ⟨x', hx', he⟩ := hc; cases he; exact ⟨cx, rfl, hx'⟩
 case region id ops d =>
  cases d <;> simp only [compCode, Option.bind_eq_some_iff, Option.map_eq_some_iff] at hc
  ·obtain ⟨_, _, hx⟩ := hc; cases hx
  ·obtain ⟨_, _, _, _, hx⟩ := hc; split at hx <;> cases hx
 all_goals first
  | (cases hc; done)
  | (obtain ⟨_, _, hx⟩ := hc; cases hx; done)
  | (obtain ⟨_, _, _, _, hx⟩ := hc; cases hx; done)
  | (obtain ⟨_, _, _, _, _, _, hx⟩ := hc; cases hx; done)
theorem loop_inv {c : Code} (hc : compCode P N c = some (.loop x)) : ∃ cx, c = .loop cx /\ compCode P N cx = some x := by
 cases c <;> (try simp only [compCode, Option.bind_eq_some_iff, Option.map_eq_some_iff] at hc)
 case loop cx => obtain ⟨x', hx', he⟩ := hc; cases he; exact ⟨cx, rfl, hx'⟩
 case region id ops d =>
  cases d <;> simp only [compCode, Option.bind_eq_some_iff, Option.map_eq_some_iff] at hc
  ·obtain ⟨_, _, hx⟩ := hc; cases hx
  ·obtain ⟨_, _, _, _, hx⟩ := hc; split at hx <;> cases hx
 all_goals first
  | (cases hc; done)
  | (obtain ⟨_, _, hx⟩ := hc; cases hx; done)
  | (obtain ⟨_, _, _, _, hx⟩ := hc; cases hx; done)
  | (obtain ⟨_, _, _, _, _, _, hx⟩ := hc; cases hx; done)
theorem d_seqQ (hx : D P N kb kf x (thenA (fun e h => D P N kb kf y Q e h) Q) env h) : D P N kb kf (.seq x y) Q env h := ⟨by
 intro c hc σ0 σ a hs hle hl
 obtain ⟨cx, cy, rfl, hcx, hcy⟩ := seq_inv hc
 refine wp_seq (Code.wp_mono (fun e a' w' hh => ?_) (hx.out cx hcx σ0 σ a hs hle hl))
 obtain ⟨h1, σ2, h2, env2, rfl, q2, q3, q4⟩ := hh
 cases e with
 | normal => exact q4.out cy hcy σ0 σ2 a' q3 q2 hl
 | panic _ => exact h1.elim
 | outgrown => exact h1.elim
 | exit _ => exact ⟨trivial, σ2, h2, env2, rfl, q2, q3, q4⟩
 | goto _ => exact ⟨trivial, σ2, h2, env2, rfl, q2, q3, q4⟩
 | ret => exact ⟨trivial, σ2, h2, env2, rfl, q2, q3, q4⟩⟩
theorem d_blockQ {id : Nat} (hx : D P N kb kf x (inBlockA id Q) env h) : D P N kb kf (.block id x) Q env h := ⟨by
 intro c hc σ0 σ a hs hle hl
 obtain ⟨cx, rfl, hcx⟩ := block_inv hc
 refine wp_block (Code.wp_mono (fun e a' w' hh => ?_) (hx.out cx hcx σ0 σ a hs hle hl))
 obtain ⟨h1, σ2, h2, env2, rfl, q2, q3, q4⟩ := hh
 cases e with
 | panic _ => exact h1.elim
 | outgrown => exact h1.elim
 | normal => exact ⟨trivial, σ2, h2, env2, rfl, q2, q3, q4⟩
 | goto _ => exact ⟨trivial, σ2, h2, env2, rfl, q2, q3, q4⟩
 | ret => exact ⟨trivial, σ2, h2, env2, rfl, q2, q3, q4⟩
 | exit i =>
  simp only [inBlockA] at q4
  simp only [Exit.inBlock]
  split
  ·rename_i hi; rw [if_pos hi] at q4; exact ⟨trivial, σ2, h2, env2, rfl, q2, q3, q4⟩
  ·rename_i hi; rw [if_neg hi] at q4; exact ⟨trivial, σ2, h2, env2, rfl, q2, q3, q4⟩⟩
theorem d_loopQ (hx : DL P N kb kf x Q env h) : D P N kb kf (.loop x) Q env h := ⟨by
 intro c hc σ0 σ a hs hle hl
 obtain ⟨cx, rfl, hcx⟩ := loop_inv hc
 exact loopW_wp (hx.out cx hcx σ0 σ a hs hle hl)⟩
theorem dl_unroll (hx : D P N kb kf x (thenA (fun e h => DL P N kb kf x Q e h) Q) env h) : DL P N kb kf x Q env h := ⟨by
 intro c hc σ0 σ a hs hle hl
 refine loopW_unroll (Code.wp_mono (fun e a' w' hh => ?_) (hx.out c hc σ0 σ a hs hle hl))
 obtain ⟨h1, σ2, h2, env2, q1, q2, q3, q4⟩ := hh
 cases e with
 | panic _ => exact h1.elim
 | outgrown => exact h1.elim
 | normal => subst q1; exact q4.out c hc σ0 σ2 a' q3 q2 hl
 | goto _ => exact ⟨trivial, σ2, h2, env2, q1, q2, q3, q4⟩
 | ret => exact ⟨trivial, σ2, h2, env2, q1, q2, q3, q4⟩
 | exit i => exact ⟨trivial, σ2, h2, env2, q1, q2, q3, q4⟩⟩
theorem d_cond {c : AOpd} {b : Bool} (hc : c.ev env = some (.v (.bool b))) (h1 : b = true -> D P N kb kf x Q env h) (h2 : b = false -> D P N kb kf y Q env h) : D P N kb kf (.cond c x y) Q env h := ⟨by
 intro cc hcc σ0 σ a hs hle hl
 cases cc <;> (try simp only [compCode, Option.bind_eq_some_iff, Option.map_eq_some_iff] at hcc)
 case cond co cx cy =>
  obtain ⟨c', hc', x', hx', y', hy', he⟩ := hcc
  cases he
  obtain ⟨av, hr, hk⟩ := opd (K := fun v => v = .v (.bool b)) hs.env hc' (by rw [hc]; rfl)
  subst hk
  generalize hce : a.eval co = ce at hr
  cases hr with
  | v _ _ =>
  cases b with
  | true => exact wp_cond_true hce ((h1 rfl).out cx hx' σ0 σ a hs hle hl)
  | false => exact wp_cond_false hce ((h2 rfl).out cy hy' σ0 σ a hs hle hl)
 case region id ops d =>
  cases d <;> simp only [compCode, Option.bind_eq_some_iff, Option.map_eq_some_iff] at hcc
  ·obtain ⟨_, _, hx⟩ := hcc; cases hx
  ·obtain ⟨_, _, _, _, hx⟩ := hcc; split at hx <;> cases hx
 all_goals first
  | (cases hcc; done)
  | (obtain ⟨_, _, hx⟩ := hcc; cases hx; done)
  | (obtain ⟨_, _, _, _, hx⟩ := hcc; cases hx; done)
  | (obtain ⟨_, _, _, _, _, _, hx⟩ := hcc; cases hx; done)⟩
theorem d_cond_t {c : AOpd} {b : Bool} (hc : c.ev env = some (.v (.bool b))) (hb : b = true) (h1 : D P N kb kf x Q env h) : D P N kb kf (.cond c x y) Q env h := d_cond hc (fun _ => h1) (fun h => by rw [hb] at h; cases h)
theorem d_cond_f {c : AOpd} {b : Bool} (hc : c.ev env = some (.v (.bool b))) (hb : b = false) (h1 : D P N kb kf y Q env h) : D P N kb kf (.cond c x y) Q env h := d_cond hc (fun h => by rw [hb] at h; cases h) (fun _ => h1)
theorem d_scope0 (hx : D P N kb kf x (noGotoA Q) env h) : D P N kb kf (.scope x) Q env h := ⟨by
 intro c hc σ0 σ a hs hle hl
 obtain ⟨c', rfl, hc'⟩ := scope_inv hc
 refine wp_scope_straight (Code.wp_mono (fun e a' w' hh => ?_) (hx.out c' hc' σ0 σ a hs hle hl))
 obtain ⟨h1, σ2, h2, env2, rfl, q2, q3, q4⟩ := hh
 cases e with
 | panic _ => exact h1.elim
 | outgrown => exact h1.elim
 | goto _ => exact q4.elim
 | normal => exact ⟨trivial, σ2, h2, env2, rfl, q2, q3, q4⟩
 | ret => exact ⟨trivial, σ2, h2, env2, rfl, q2, q3, q4⟩
 | exit i => exact ⟨trivial, σ2, h2, env2, rfl, q2, q3, q4⟩⟩
end
theorem does_F {P : Program} {o : AOp} {env : Env} {h h' : AHeap} {av : AV} (he : aopF false noC o env h = some (av, h')) : Does P o env h av h' := fun K hk => aopF_ok noC_ok he hk
def fz (n : Nat) (cells : List AV) : AV -> AV
 | .ptr k off => if k = n then .elt cells off else .ptr k off
 | a => a
def fzE (n : Nat) (cells : List AV) : Env -> Env
 | [] => []
 | (t, a) :: e => (t, fz n cells a) :: fzE n cells e
theorem fzE_get {n : Nat} {cells : List AV} : ∀ {e : Env} {t : Nat} {b : AV}, get (fzE n cells e) t = some b -> ∃ a, get e t = some a /\ b = fz n cells a
 | [], _, _, h => by cases h
 | (u, a) :: e, t, b, h => by
  simp only [fzE, get] at h ⊢
  split at h
  ·rename_i hu; rw [if_pos hu]; cases h; exact ⟨a, rfl, rfl⟩
  ·rename_i hu; rw [if_neg hu]; exact fzE_get h
def alive : List Bool -> List (Option (List AV)) -> Bool
 | b :: m, x :: l => (match b, x with | true, some [] => false | _, _ => true) && alive m l
 | _, _ => true
theorem alive_get : ∀ {m : List Bool} {l : List (Option (List AV))} {k : Nat} {c : List AV}, alive m l = true -> m.getD k false = true -> l[k]? = some (some c) -> c ≠ []
 | [], _, _, _, _, h, _ => by simp at h
 | b :: m, [], _, _, _, _, h => by simp at h
 | b :: m, x :: l, 0, c, h, h1, h2 => by
  have h1' : b = true := h1
  simp only [List.getElem?_cons_zero, Option.some.injEq] at h2
  subst h1' h2
  rintro rfl
  simp [alive] at h
 | b :: m, x :: l, k + 1, c, h, h1, h2 => by
  simp only [alive, Bool.and_eq_true] at h
  exact alive_get h.2 (by simpa using h1) (by simpa using h2)
theorem d_freeze {P : Program} {h : AHeap} {env : Env} {N kb kf : Nat} {Q : Exit -> Env -> AHeap -> Prop} {x : ACode} (n : Nat) (m : List Bool) (k : Nat) (cells : List AV) (hb : h.blks[n]? = some (some cells)) (hit : noIt cells = true) (hmn : m.getD n false = false) (hal : alive m h.blks = true) (hm : ∀ k, k < kb -> m.getD k false = true) (hn : kf <= k)
  {e : Env} (hE : fzE n cells env = e) (he : lowE m k e = true) (hB : lowB m k (keepB m h.blks) = true) (hg : plainG h.globs = true) (hx : D P N kb kf x Q e ⟨keepB m h.blks, h.bufs.take k, h.globs⟩) : D P N kb kf x Q env h := ⟨by
 subst hE
 intro c hc σ0 σ a hs hle hl
 refine hx.out c hc σ0 (σ.cut m k) a ⟨hs.inv.cut m k hB hg, fun t av ht => ?_, hs.size, hs.defers⟩ (hle.cut hl hm hn) hl
 have hlow := lowE_get he ht
 obtain ⟨a0, h1, rfl⟩ := fzE_get ht
 obtain ⟨y, h2, h3⟩ := hs.env t a0 h1
 refine ⟨y, h2, ?_⟩
 cases a0 with
 | ptr j off =>
  simp only [fz] at hlow ⊢
  split at hlow
  ·rename_i hj
   subst hj
   rw [if_pos rfl]
   cases h3 with
   | ptr _ _ b hblk =>
   obtain ⟨b', h4, h5⟩ := hs.inv.blk j cells hb
   rw [hblk] at h4; cases h4
   cases h5 with
   | it s p h6 => cases hit
   | cells _ cs rest elem h6 h7 =>
   have hlc : lowL m k cells = true := by simpa [low] using hlow
   have key : ∀ (i : Nat) (av : AV), cells[i]? = some av -> ∃ xv, σ.w.cell? ⟨b, i, none⟩ = some xv /\ Rel σ av xv /\ av.isCell = true := by
    intro i av hi
    obtain ⟨q1, xv, q2, q3⟩ := h7.2 i av hi
    refine ⟨xv, ?_, q3, q1⟩
    have hlt : i < cs.length := (List.getElem?_eq_some_iff.1 q2).1
    simp [World.cell?, h6, List.getElem?_append_left hlt, q2]
   have hne : cells ≠ [] := by rintro rfl; cases hit
   have := Rel.elt (σ := σ.cut m k) cells off b 0 (fun i => (σ.w.cell? ⟨b, i, none⟩).getD undef) (fun i av hi => by
    obtain ⟨xv, q1, q2, q3⟩ := key i av hi
    refine ⟨by show σ.w.cell? _ = _; rw [Nat.zero_add, q1]; rfl, ?_, q3⟩
    rintro (ho | ⟨j', hj'⟩ | ⟨id, eb, he1, he2⟩)
    ·exact (hs.inv.outer _ _ ho).2 (.inl ⟨j, hblk⟩)
    ·simp only [Sg.cut] at hj'
     split at hj'
     ·rename_i hmj
      obtain ⟨c', hc'⟩ := hs.inv.dom j' b hj'
      have := hs.inv.inj j' j b c' cells hc' hb (alive_get hal hmj hc') hne hj' hblk
      subst this
      rw [hmn] at hmj; cases hmj
     ·cases hj'
    ·simp only [Sg.cut] at he1
     split at he1
     ·exact hs.inv.bufblk id eb j b _ he1 he2 hblk
     ·cases he1) (fun i av hi => by
    obtain ⟨xv, q1, q2, q3⟩ := key i av hi
    rw [q1]
    exact q2.cut (lowL_get hlc i av hi))
   simpa using this
  ·rename_i hj
   rw [if_neg hj]
   exact h3.cut hlow
 | _ => exact h3.cut hlow⟩
theorem nz1_nz1 (a : AV) : nz1 (nz1 a) = nz1 a := by cases a <;> rfl
theorem nzA_nzA (a : AV) : nzA (nzA a) = nzA a := by
 cases a with
 | agg cs => simp only [nzA, List.map_map]; congr 1; exact List.map_congr_left fun x _ => nz1_nz1 x
 | _ => rfl
theorem nz_nz (a : AV) : nz (nz a) = nz a := by
 cases a with
 | tuple vs => simp only [nz, List.map_map]; congr 1; exact List.map_congr_left fun x _ => nzA_nzA x
 | agg cs => exact nzA_nzA (.agg cs)
 | _ => rfl
def FCall (P : Program) (gl : List (Nat × List AV)) (f : AV) (args : List AV) (r : AV) : Prop := ∃ g a b, f = .clo (.func g) a b /\ plainL ((a ++ args ++ b).map nz) = true /\ PureN P gl g ((a ++ args ++ b).map nz) r
theorem q_fcall {P : Program} {h : AHeap} {env : Env} {f : AOpd} {args : List AOpd} {F : AV} {l l' : List AV} {r : AV} (hf : f.ev env = some F) (ha : evs env args = some l) (hl : l.map nz = l') (hgl : plainG h.globs = true) (hc : FCall P h.globs F l' r) : Does P (.call f args) env h r h := by
 obtain ⟨g, a, b, rfl, hp, hn⟩ := hc
 refine q_callv hf ha ?_ hgl hp hn
 subst hl
 simp only [List.map_append, List.map_map]
 congr 2
 exact List.map_congr_left fun x _ => (nz_nz x).symm
theorem pcons {a : AV} {r : List AV} (h1 : plain a = true) (h2 : plainL r = true) : plainL (a :: r) = true := by simp only [plainL, h1, h2]; rfl
theorem psl {els : List (List AV)} (h : plainLL els = true) : plain (.sl els .no) = true := by simp only [plain, h]; rfl
theorem ptup {l : List AV} (h : plainL l = true) : plain (.tuple l) = true := h
theorem less_st {h : AHeap} {e env : Env} {N : Nat} (he : Less e env) {σ : Sg} {a : Act} (hs : St σ h env N a) : St σ h e N a := ⟨hs.inv, fun t av hg => hs.env t av (he t av hg), hs.size, hs.defers⟩
theorem km_d {P : Program} {N kb kf : Nat} {x : ACode} {Q : Exit -> Env -> AHeap -> Prop} : KMono fun e h => D P N kb kf x Q e h := fun e env h he hx => d_ghost fun σ a hs => ⟨σ, h, e, rfl, Le.refl σ, less_st he hs, hx⟩
theorem km_dl {P : Program} {N kb kf : Nat} {x : ACode} {Q : Exit -> Env -> AHeap -> Prop} : KMono fun e h => DL P N kb kf x Q e h := fun e env h he hx => dl_ghost fun σ a hs => ⟨σ, h, e, rfl, Le.refl σ, less_st he hs, hx⟩
theorem outs_less {e env : Env} (he : Less e env) {h : AHeap} : ∀ {rs : List ARes} {K : List AV -> Prop}, outs e h rs K -> outs env h rs K
 | [], _, hk => hk
 | .tmp t :: r, K, hk => he.wv (x := .t t) hk fun a ha => outs_less he ha
 | .cell t n :: r, K, hk => by
  obtain ⟨p, h1, h2⟩ := wv_some hk
  show wv (get env t) _
  rw [he t p h1]
  simp only [wv, loaded] at h2 ⊢
  split at h2
  ·split at h2
   ·split at h2
    ·exact outs_less he h2
    ·exact h2.elim
   ·exact ⟨h2.1, outs_less he h2.2⟩
  ·exact h2.elim
theorem km_ret {rs : List ARes} {r : AV} : KMono fun e h => qret rs r .normal e h := fun e env h he hx => outs_less he hx
theorem vp_start' {P : Program} {L : List AOper} {env : Env} {h : AHeap} {K : Env -> AHeap -> Prop} (hk : Vp P L 0 env h K) : vd P L env h K := hk
abbrev T (n : Nat) : AOpd := .t n
abbrev ci (n : Int) : AOpd := .c (.v (.int .i64 n))
abbrev cb (b : Bool) : AOpd := .c (.v (.bool b))
abbrev cf (g : Nat) : AOpd := .c (.clo (.func g) [] [])
abbrev o (d : Nat) (x : AOp) : AOper := ⟨some d, x, none⟩
abbrev og (d : Nat) (x : AOp) (t : Nat) (b : Bool) : AOper := ⟨some d, x, some (t, b)⟩
abbrev on (x : AOp) : AOper := ⟨none, x, none⟩
abbrev mv (n : Nat) : AOp := .mv (.t n)
abbrev mi (n : Int) : AOp := .mv (.c (.v (.int .i64 n)))
abbrev mb (b : Bool) : AOp := .mv (.c (.v (.bool b)))
abbrev fa (n t : Nat) : AOp := .fieldAddr n (.t t)
abbrev ld (t : Nat) : AOp := .load none (.t t)
abbrev ln (n t : Nat) : AOp := .load (some n) (.t t)
abbrev st (n p x : Nat) : AOp := .store n (.t p) (.t x)
abbrev bx (t : Nat) : AOp := .box (.t t)
abbrev wI (n : Int) : Int := IntKind.i64.wrap n
abbrev wU (n : Int) : Int := IntKind.u64.wrap n
theorem get_drop_ne {t u : Nat} (hne : u ≠ t) : ∀ {e : Env} {a : AV}, get e t = some a -> get (drop u e) t = some a
 | [], _, h => by cases h
 | (k, b) :: e, a, h => by
  simp only [get] at h
  simp only [drop]
  split at h
  ·rename_i hk
   subst hk
   rw [if_neg (fun h => hne h.symm)]
   simp only [get, if_true]; exact h
  ·rename_i hk
   split
   ·exact get_drop_ne hne h
   ·simp only [get]; rw [if_neg hk]; exact get_drop_ne hne h
theorem get_dedup : ∀ {e : Env} {t : Nat} {a : AV}, get e t = some a -> get (dedup e) t = some a
 | [], _, _, h => by cases h
 | (u, b) :: e, t, a, h => by
  simp only [get] at h
  simp only [dedup, get]
  split at h
  ·rename_i hu; rw [if_pos hu]; exact h
  ·rename_i hu; rw [if_neg hu]; exact get_drop_ne hu (get_dedup h)
theorem less_dd {e env : Env} (he : (dedup e).map (fun p => get env p.1) = (dedup e).map fun p => some p.2) : Less e env := fun t a h => less_of (dedup e) he t a (get_dedup h)
theorem less_true {env : Env} {t : Nat} {B b : Bool} (hB : B = b) (hg : get env t = some (.v (.bool B))) : Less ((t, .v (.bool b)) :: env) env := by
 subst hB
 intro u a h
 simp only [get] at h
 split at h
 ·rename_i hu; subst hu; cases h; exact hg
 ·exact h
def upd (h : AHeap) (news : List (List AV)) (sets : List (Nat × List AV)) : AHeap := ⟨sets.foldl (fun b p => b.set p.1 (some p.2)) (h.blks ++ news.map some), h.bufs, h.globs⟩
def elsOf : Option AV -> Option (List (List AV))
 | some (.sl els _) => some els
 | _ => none
theorem elsOf_some {x : Option AV} {els : List (List AV)} (h : elsOf x = some els) : ∃ tok, x = some (.sl els tok) := by
 unfold elsOf at h
 split at h
 ·cases h; exact ⟨_, rfl⟩
 ·cases h
structure GFn where
 fn : FuncId
 fi : List AV
 cap : List AV
 hp : (plainL fi && plainL cap) = true
theorem gfn_fi (g : GFn) : plainL g.fi = true := (Bool.and_eq_true _ _ ▸ g.hp).1
theorem gfn_cap (g : GFn) : plainL g.cap = true := (Bool.and_eq_true _ _ ▸ g.hp).2
theorem gfn_pl (g : GFn) : plain (.clo (.func g.fn) g.fi g.cap) = true := g.hp
def eFn (g : GFn) : List AV := [.clo (.func g.fn) g.fi g.cap]
theorem pl_Fn (g : GFn) : plainL (eFn g) = true := by simp only [eFn, plainL, plain, gfn_fi, gfn_cap]; rfl
theorem plm_Fn (l : List GFn) : plainLL (l.map eFn) = true := plainLL_map _ _ fun x _ => pl_Fn x
section
variable {P : Program} {h h' : AHeap} {env e : Env} {N kb kf : Nat} {Q : Exit -> Env -> AHeap -> Prop} {K : Env -> AHeap -> Prop} {L : List AOper} {k : Nat} {S gl : List (Nat × List AV)} {b : Bool} {x y : ACode}
theorem vo {o : AOper} {av : AV} {d : Nat} (hl : L[k]? = some o) (ha : Does P o.op env h av h') (hd : o.dst = some d) (hk : Vp P L (k + 1) ((d, av) :: env) h' K) (hg : guardF env o.guard = some true := by kernel_rfl) : Vp P L k env h K := vp_opg hl hg ha rfl (by rw [hd]; rfl) hk
theorem vw {o : AOper} {av : AV} (hl : L[k]? = some o) (ha : Does P o.op env h av h') (hk : Vp P L (k + 1) env h' K) (hd : o.dst = none := by kernel_rfl) (hg : guardF env o.guard = some true := by kernel_rfl) : Vp P L k env h K := vp_opg hl hg ha rfl (by rw [hd]; rfl) hk
theorem vsp (t : Nat) (B : Bool) (hK : KMono K) (h1 : B = true -> Vp P L k ((t, .v (.bool true)) :: env) h K) (h2 : B = false -> Vp P L k ((t, .v (.bool false)) :: env) h K) (hg : get env t = some (.v (.bool B)) := by kernel_rfl) : Vp P L k env h K := by
 cases hB : B with
 | true => exact vd_less hK (less_true hB hg) (h1 hB)
 | false => exact vd_less hK (less_true hB hg) (h2 hB)
theorem vj (t d m : Nat) (B : Bool) (C : Bool -> AV) (hK : KMono K) (h1 : B = true -> Vp P L m ((d, C true) :: drop t env) h K -> Vp P L k ((t, .v (.bool true)) :: env) h K) (h2 : B = false -> Vp P L m ((d, C false) :: drop t env) h K -> Vp P L k ((t, .v (.bool false)) :: env) h K) (hk : Vp P L m ((d, C B) :: drop t env) h K) (hg : get env t = some (.v (.bool B)) := by kernel_rfl) : Vp P L k env h K := by
 refine vsp t B hK (fun hB => h1 hB ?_) (fun hB => h2 hB ?_) hg
 ·rw [hB] at hk; exact hk
 ·rw [hB] at hk; exact hk
theorem vr {α : Type} (t d m : Nat) (B : Bool) (R : α -> Prop) (C : α -> AV) (hK : KMono K) (hk : ∀ z, R z -> Vp P L m ((d, C z) :: drop t env) h K) (hb : (∀ z, R z -> Vp P L m ((d, C z) :: drop t env) h K) -> (B = true -> Vp P L k ((t, .v (.bool true)) :: env) h K) /\ (B = false -> Vp P L k ((t, .v (.bool false)) :: env) h K)) (hg : get env t = some (.v (.bool B)) := by kernel_rfl) : Vp P L k env h K :=
 vsp t B hK (hb hk).1 (hb hk).2 hg
theorem vle (hK : KMono K) (key : Vp P L k e h K) (he : (dedup e).map (fun p => get env p.1) = (dedup e).map (fun p => some p.2) := by kernel_rfl) : Vp P L k env h K := vd_less hK (less_dd he) key
theorem vend (hk : K env h) (hl : L.drop k = [] := by kernel_rfl) : Vp P L k env h K := vp_end hl hk
def freshD (nl env : Env) (ops : List AOper) : Bool := ops.all fun o => match o.dst with
 | some t => (get nl t).isSome || (get env t).isNone
 | none => true
theorem get_mem : ∀ {e : Env} {t : Nat} {a : AV}, get e t = some a -> (t, a) ∈ e
 | [], _, _, h => by cases h
 | (u, b) :: e, t, a, h => by
  simp only [get] at h
  split at h
  ·rename_i hu; subst hu; cases h; exact List.mem_cons_self
  ·exact List.mem_cons_of_mem _ (get_mem h)
theorem get_two : ∀ {e f : Env} {t : Nat}, get (e ++ f) t = match get e t with | some a => some a | none => get f t
 | [], _, _ => rfl
 | (u, b) :: e, f, t => by
  simp only [List.cons_append, get]
  split
  ·rfl
  ·exact get_two
theorem get_put_ne {env : Env} {d : Option Tmp} {t : Nat} {a : AV} (h : d ≠ some t) : get (putE env d a) t = get env t := by
 cases d with
 | none => rfl
 | some d =>
  simp only [putE, get]
  rw [if_neg]
  intro e; exact h (by rw [e])
theorem get_dropE_ne {env : Env} {d : Option Tmp} {t : Nat} (h : d ≠ some t) : get (dropE env d) t = get env t := by
 cases d with
 | none => rfl
 | some d =>
  simp only [dropE]
  first
   | exact get_put_ne (d := some d) h
   | (simp only [get]; rw [if_neg (fun e => h (by rw [e]))])
theorem vopsF_old {md : Bool} {call : Callee} : ∀ {l : List AOper} {env : Env} {h : AHeap} {r : Env × AHeap} {t : Nat}, vopsF md call l env h = some r -> (∀ o ∈ l, o.dst ≠ some t) -> get r.1 t = get env t
 | [], env, h, r, t, he, _ => by cases he; rfl
 | o :: l, env, h, r, t, he, hn => by
  simp only [vopsF, Option.bind_eq_some_iff] at he
  obtain ⟨b, h1, h2⟩ := he
  have ho := hn o List.mem_cons_self
  have hl := fun o' h' => hn o' (List.mem_cons_of_mem _ h')
  cases b with
  | true =>
   simp only [Option.bind_eq_some_iff] at h2
   obtain ⟨p, h3, h4⟩ := h2
   exact (vopsF_old h4 hl).trans (get_put_ne ho)
  | false => exact (vopsF_old h2 hl).trans (get_dropE_ne ho)
theorem vsC_old {n : Nat} {S gl : List (Nat × List AV)} {b : Bool} : ∀ {l : List AOper} {env : Env} {h : AHeap} {r : Env × AHeap} {t : Nat}, vsC n S gl b l env h = some r -> (∀ o ∈ l, o.dst ≠ some t) -> get r.1 t = get env t
 | [], env, h, r, t, he, _ => by cases he; rfl
 | o :: l, env, h, r, t, he, hn => by
  simp only [vsC, Option.bind_eq_some_iff] at he
  obtain ⟨g, h1, h2⟩ := he
  have ho := hn o List.mem_cons_self
  have hl := fun o' h' => hn o' (List.mem_cons_of_mem _ h')
  cases g with
  | false => exact (vsC_old h2 hl).trans (get_dropE_ne ho)
  | true =>
   simp only at h2
   split at h2
   ·split at h2
    ·exact (vsC_old h2 hl).trans (get_put_ne ho)
    ·cases h2
   ·split at h2
    ·simp only [Option.bind_eq_some_iff] at h2
     obtain ⟨p, h3, h4⟩ := h2
     exact (vsC_old h4 hl).trans (get_put_ne ho)
    ·cases h2
theorem less_kept {nl env e : Env} {ops : List AOper} (h1 : nl.map (fun q => get e q.1) = nl.map fun q => some q.2) (h2 : freshD nl env ops = true) (h3 : ∀ t, (∀ o ∈ ops, o.dst ≠ some t) -> get e t = get env t) : Less (nl ++ env) e := by
 intro t a h
 rw [get_two] at h
 cases hn : get nl t with
 | some b =>
  rw [hn] at h; cases h
  have hm := get_mem hn
  obtain ⟨i, hi⟩ := List.mem_iff_getElem?.1 hm
  have := congrArg (fun l => l[i]?) h1
  simpa [List.getElem?_map, hi] using this
 | none =>
  rw [hn] at h
  rw [h3 t fun o ho hd => ?_]
  ·exact h
  ·have := List.all_eq_true.1 h2 o ho
   rw [hd] at this
   simp [hn, h] at this
def chk (nl env : Env) (ops : List AOper) (p : Env × AHeap) : List (Option AV) × AHeap × Bool := (nl.map (fun q => get p.1 q.1), p.2, freshD nl env ops)
theorem chk_some {nl env : Env} {ops : List AOper} {x : Option (Env × AHeap)} {h' : AHeap} (h : x.map (chk nl env ops) = some (nl.map (fun q => some q.2), h', true)) : ∃ e, x = some (e, h') /\ nl.map (fun q => get e q.1) = nl.map (fun q => some q.2) /\ freshD nl env ops = true := by
 cases x with
 | none => cases h
 | some p =>
  simp only [Option.map_some, chk, Option.some.injEq, Prod.mk.injEq] at h
  exact ⟨p.1, by rw [← h.2.1], h.1, h.2.2⟩
theorem va (m : Nat) (nl : Env) (hk : Vp P L (k + m) (nl ++ env) h K) (hK : KMono K := by first | exact km_d | exact km_vd km_d | exact km_dl | exact km_ret | exact km_vd km_dl | exact km_vd km_ret) (he : (vopsF false noC ((L.drop k).take m) env h).map (chk nl env ((L.drop k).take m)) = some (nl.map (fun q => some q.2), h, true) := by kernel_rfl) : Vp P L k env h K := by
 obtain ⟨e, h1, h2, h3⟩ := chk_some he
 exact vp_chunk m _ _ h1 rfl (vd_less hK (less_kept h2 h3 fun t ht => vopsF_old h1 ht) hk)
theorem vg (m : Nat) (nl : Env) (news : List (List AV)) (sets : List (Nat × List AV)) (hk : Vp P L (k + m) (nl ++ env) (upd h news sets) K) (hK : KMono K := by first | exact km_d | exact km_vd km_d | exact km_dl | exact km_ret | exact km_vd km_dl | exact km_vd km_ret) (he : (vopsF false noC ((L.drop k).take m) env h).map (chk nl env ((L.drop k).take m)) = some (nl.map (fun q => some q.2), upd h news sets, true) := by kernel_rfl) : Vp P L k env h K := by
 obtain ⟨e, h1, h2, h3⟩ := chk_some he
 exact vp_chunk m _ _ h1 rfl (vd_less hK (less_kept h2 h3 fun t ht => vopsF_old h1 ht) hk)
theorem sa (n m : Nat) (nl : Env) (hk : Sp P S gl b L (k + m) (nl ++ env) h K) (hK : KMono K := by first | exact km_d | exact km_vd km_d | exact km_dl | exact km_ret | exact km_vd km_dl | exact km_vd km_ret) (he : (vsC n S gl b ((L.drop k).take m) env h).map (chk nl env ((L.drop k).take m)) = some (nl.map (fun q => some q.2), h, true) := by kernel_rfl) : Sp P S gl b L k env h K := by
 obtain ⟨e, h1, h2, h3⟩ := chk_some he
 exact sp_chunk n m _ _ h1 rfl (vs_less hK (less_kept h2 h3 fun t ht => vsC_old h1 ht) hk)
theorem sq {o : AOper} {av : AV} {d : Nat} (hl : L[k]? = some o) (ha : ∀ h2, InS S gl h2 -> Does P o.op env h2 av h2) (hd : o.dst = some d) (hk : Sp P S gl b L (k + 1) ((d, av) :: env) h K) (hg : guardF env o.guard = some true := by kernel_rfl) (hq : quietOp o.op = true := by kernel_rfl) : Sp P S gl b L k env h K := sp_q hl hg hq ha rfl (by rw [hd]; rfl) hk
theorem sw {o : AOper} {av : AV} (new : Env) (hl : L[k]? = some o) (ha : Does P o.op env h av h') (hk : Sp P S gl false L (k + 1) (new ++ env) h' K) (hd : putE env o.dst av = new ++ env := by kernel_rfl) (hg : guardF env o.guard = some true := by kernel_rfl) (hq : quietOp o.op = false := by kernel_rfl) (hn : isNew o = false := by kernel_rfl) (hi : inS S h' = S.map (fun p => some (some p.2)) := by kernel_rfl) (hgl : h'.globs = gl := by kernel_rfl) : Sp P S gl b L k env h K := sp_chg hl hg hq hn ha hi hgl rfl hd hk
theorem ssp (t : Nat) (B : Bool) (hK : KMono K) (h1 : B = true -> Sp P S gl b L k ((t, .v (.bool true)) :: env) h K) (h2 : B = false -> Sp P S gl b L k ((t, .v (.bool false)) :: env) h K) (hg : get env t = some (.v (.bool B)) := by kernel_rfl) : Sp P S gl b L k env h K := by
 cases hB : B with
 | true => exact vs_less hK (less_true hB hg) (h1 hB)
 | false => exact vs_less hK (less_true hB hg) (h2 hB)
theorem sj (t d m : Nat) (B : Bool) (C : Bool -> AV) (hK : KMono K) (h1 : B = true -> Sp P S gl b L m ((d, C true) :: drop t env) h K -> Sp P S gl b L k ((t, .v (.bool true)) :: env) h K) (h2 : B = false -> Sp P S gl b L m ((d, C false) :: drop t env) h K -> Sp P S gl b L k ((t, .v (.bool false)) :: env) h K) (hk : Sp P S gl b L m ((d, C B) :: drop t env) h K) (hg : get env t = some (.v (.bool B)) := by kernel_rfl) : Sp P S gl b L k env h K := by
 refine ssp t B hK (fun hB => h1 hB ?_) (fun hB => h2 hB ?_) hg
 ·rw [hB] at hk; exact hk
 ·rw [hB] at hk; exact hk
theorem sr {α : Type} (t d m : Nat) (B : Bool) (R : α -> Prop) (C : α -> AV) (hK : KMono K) (hk : ∀ z, R z -> Sp P S gl b L m ((d, C z) :: drop t env) h K) (hb : (∀ z, R z -> Sp P S gl b L m ((d, C z) :: drop t env) h K) -> (B = true -> Sp P S gl b L k ((t, .v (.bool true)) :: env) h K) /\ (B = false -> Sp P S gl b L k ((t, .v (.bool false)) :: env) h K)) (hg : get env t = some (.v (.bool B)) := by kernel_rfl) : Sp P S gl b L k env h K :=
 ssp t B hK (hb hk).1 (hb hk).2 hg
theorem sle (hK : KMono K) (key : Sp P S gl b L k e h K) (he : (dedup e).map (fun p => get env p.1) = (dedup e).map (fun p => some p.2) := by kernel_rfl) : Sp P S gl b L k env h K := vs_less hK (less_dd he) key
theorem send (hk : K env h) (hl : L.drop k = [] := by kernel_rfl) : Sp P S gl b L k env h K := sp_end hl hk
theorem vw2 (t : Nat) {B : Bool} {p q : Prop} (hw : (B = true -> p) /\ (B = false -> q)) (h1 : B = true -> p -> Vp P L k ((t, .v (.bool true)) :: env) h K) (h2 : B = false -> q -> Vp P L k ((t, .v (.bool false)) :: env) h K) (hK : KMono K := by first | exact km_d | exact km_vd km_d | exact km_dl | exact km_ret | exact km_vd km_dl | exact km_vd km_ret) (hg : get env t = some (.v (.bool B)) := by kernel_rfl) : Vp P L k env h K := vsp t B hK (fun x => h1 x (hw.1 x)) (fun x => h2 x (hw.2 x)) hg
theorem sw2 (t : Nat) {B : Bool} {p q : Prop} (hw : (B = true -> p) /\ (B = false -> q)) (h1 : B = true -> p -> Sp P S gl b L k ((t, .v (.bool true)) :: env) h K) (h2 : B = false -> q -> Sp P S gl b L k ((t, .v (.bool false)) :: env) h K) (hK : KMono K := by first | exact km_d | exact km_vd km_d | exact km_dl | exact km_ret | exact km_vd km_dl | exact km_vd km_ret) (hg : get env t = some (.v (.bool B)) := by kernel_rfl) : Sp P S gl b L k env h K := ssp t B hK (fun x => h1 x (hw.1 x)) (fun x => h2 x (hw.2 x)) hg
theorem nle {a b : Nat} (h : Nat.ble a b = true := by kernel_rfl) : a <= b := Nat.le_of_ble_eq_true h
abbrev LO := List AOper
abbrev aI (n : Int) : AV := .v (.int .i64 n)
abbrev aU (n : Int) : AV := .v (.int .u64 n)
abbrev aC (n : Int) : AV := .v (.int .u8 n)
abbrev aB (b : Bool) : AV := .v (.bool b)
abbrev aS (s : ByteArray) : AV := .v (.string s)
abbrev aE : AV := .v (.string ⟨#[]⟩)
abbrev zV : List AV := [aI 0, aU 0, aE, .nil, .nil, .nil, .nil]
abbrev LN := List (List Nat)
abbrev QP := Exit -> Env -> AHeap -> Prop
theorem dr {ops : List AOper} (hv : Vp P ops 0 env h fun env' h' => Q .normal env' h') : D P N kb kf (.region ops) Q env h := d_region (vp_start hv)
theorem dS (S : List (Nat × List AV)) {ord : List (List Nat)} {al tl : List AOper} (hv : Sp P S h.globs true al 0 env h fun F h' => vd P tl F h' fun env' h' => Q .normal env' h') (hok : okq al = true := by kernel_rfl) (hst : statS (clo ord) al = true := by kernel_rfl) (hS : inS S h = S.map (fun p => some (some p.2)) := by kernel_rfl) : D P N kb kf (.drawn ord al tl) Q env h := d_drawnS S hok hst hS hv
theorem dc {c : AOpd} (B : Bool) (h1 : B = true -> D P N kb kf x Q env h) (h2 : B = false -> D P N kb kf y Q env h) (hc : c.ev env = some (.v (.bool B)) := by kernel_rfl) : D P N kb kf (.cond c x y) Q env h := d_cond hc h1 h2
theorem dw {c : AOpd} {B : Bool} {p q : Prop} (hw : (B = true -> p) /\ (B = false -> q)) (h1 : B = true -> p -> D P N kb kf x Q env h) (h2 : B = false -> q -> D P N kb kf y Q env h) (hc : c.ev env = some (.v (.bool B)) := by kernel_rfl) : D P N kb kf (.cond c x y) Q env h := dc B (fun z => h1 z (hw.1 z)) (fun z => h2 z (hw.2 z)) hc
theorem dk {c : AOpd} {B : Bool} (hB : B = true) (h1 : D P N kb kf x Q env h) (hc : c.ev env = some (.v (.bool B)) := by kernel_rfl) : D P N kb kf (.cond c x y) Q env h := d_cond_t hc hB h1
theorem dt {c : AOpd} (h1 : D P N kb kf x Q env h) (hc : c.ev env = some (.v (.bool true)) := by kernel_rfl) : D P N kb kf (.cond c x y) Q env h := d_cond_t hc rfl h1
theorem df {c : AOpd} (h1 : D P N kb kf y Q env h) (hc : c.ev env = some (.v (.bool false)) := by kernel_rfl) : D P N kb kf (.cond c x y) Q env h := d_cond_f hc rfl h1
theorem rx {rs : List ARes} {R : Type} {f : R -> AV} {r r0 : R} (hw : r = r0) (hp : plain (f r0) = true) (he : (outsF env h rs).map (fun l => nz (retv l)) = some (f r0) := by kernel_rfl) : qret rs (f r) .ret env h := by
 subst hw
 simp only [Option.map_eq_some_iff] at he
 obtain ⟨l, h1, h2⟩ := he
 exact r_end h1 h2 hp
theorem dfz {x : ACode} (n : Nat) (m : List Bool) (k : Nat) (cells : List AV) (e : Env) (bs : List (Option (List AV))) (hw : lowE m k e = true /\ lowB m k bs = true) (hx : D P N 0 0 x Q e ⟨bs, h.bufs.take k, h.globs⟩) (hb : h.blks[n]? = some (some cells) := by kernel_rfl) (hit : noIt cells = true := by kernel_rfl) (hmn : m.getD n false = false := by kernel_rfl) (hal : alive m h.blks = true := by kernel_rfl) (hE : fzE n cells env = e := by kernel_rfl) (hbs : keepB m h.blks = bs := by kernel_rfl) (hg : plainG h.globs = true := by kernel_rfl) : D P N 0 0 x Q env h := by
 subst hbs
 exact d_freeze n m k cells hb hit hmn hal (fun _ h => absurd h (Nat.not_lt_zero _)) (Nat.zero_le _) hE hw.1 hw.2 hg hx
theorem jl0 (hx : DL P N kb kf x Q e h') (he : e.map (fun p => get env p.1) = e.map (fun p => some p.2) := by kernel_rfl) (hh : h = h' := by kernel_rfl) : DL P N kb kf x Q env h := by subst hh; exact dl_trim e he hx
theorem jd0 (hx : D P N kb kf x Q e h') (he : e.map (fun p => get env p.1) = e.map (fun p => some p.2) := by kernel_rfl) (hh : h = h' := by kernel_rfl) : D P N kb kf x Q env h := by subst hh; exact d_trim e he hx
theorem jl {m : List Bool} {n : Nat} (hlow : lowE m n e = true /\ lowB m n h'.blks = true) (hx : DL P N 0 0 x Q e h') (he : e.map (fun p => get env p.1) = e.map (fun p => some p.2) := by kernel_rfl) (hh : (⟨keepB m h.blks, h.bufs.take n, h.globs⟩ : AHeap) = h' := by kernel_rfl) (hg : plainG h.globs = true := by kernel_rfl) : DL P N 0 0 x Q env h := by
 subst hh
 exact dl_trim e he (dl_drop m n (fun _ h => absurd h (Nat.not_lt_zero _)) (Nat.zero_le _) hlow.1 hlow.2 hg hx)
theorem jg {l : Nat} {m : List Bool} {n : Nat} (hlow : lowE m n e = true /\ lowB m n h'.blks = true) (hx : DG P N 0 0 x l Q e h') (he : e.map (fun p => get env p.1) = e.map (fun p => some p.2) := by kernel_rfl) (hh : (⟨keepB m h.blks, h.bufs.take n, h.globs⟩ : AHeap) = h' := by kernel_rfl) (hg : plainG h.globs = true := by kernel_rfl) : DG P N 0 0 x l Q env h := by
 subst hh
 exact dg_trim e he (dg_drop m n (fun _ h => absurd h (Nat.not_lt_zero _)) (Nat.zero_le _) hlow.1 hlow.2 hg hx)
theorem jd {m : List Bool} {n : Nat} (hlow : lowE m n e = true /\ lowB m n h'.blks = true) (hx : D P N 0 0 x Q e h') (he : e.map (fun p => get env p.1) = e.map (fun p => some p.2) := by kernel_rfl) (hh : (⟨keepB m h.blks, h.bufs.take n, h.globs⟩ : AHeap) = h' := by kernel_rfl) (hg : plainG h.globs = true := by kernel_rfl) : D P N 0 0 x Q env h := by
 subst hh
 exact d_trim e he (d_drop m n (fun _ h => absurd h (Nat.not_lt_zero _)) (Nat.zero_le _) hlow.1 hlow.2 hg hx)
abbrev tq (P : Program) (N : Nat) (y : ACode) (Q : Exit -> Env -> AHeap -> Prop) : Exit -> Env -> AHeap -> Prop := thenA (fun e h => D P N 0 0 y Q e h) Q
abbrev tl (P : Program) (N : Nat) (y : ACode) (Q : Exit -> Env -> AHeap -> Prop) : Exit -> Env -> AHeap -> Prop := thenA (fun e h => DL P N 0 0 y Q e h) Q
theorem ds {P : Program} {N kb kf : Nat} {ops : List AOper} {y : ACode} {Q : Exit -> Env -> AHeap -> Prop} {env : Env} {h : AHeap} (hv : Vp P ops 0 env h fun env' h' => D P N kb kf y Q env' h') : D P N kb kf (.seq (.region ops) y) Q env h := d_seqQ (dr hv)
theorem ve {P : Program} {L : List AOper} {k : Nat} {env : Env} {h : AHeap} {K : Env -> AHeap -> Prop} (hk : K env h) (hl : L.drop k = [] := by kernel_rfl) : Vp P L k env h K := vend hk hl
def intOf : Option AV -> Option Int
 | some (.v (.int _ n)) => some n
 | _ => none
theorem intOf_some {x : Option AV} {n : Int} (h : intOf x = some n) : ∃ k, x = some (.v (.int k n)) := by
 unfold intOf at h
 split at h
 ·cases h; exact ⟨_, rfl⟩
 ·cases h
variable {α : Type}
theorem x_len {x : AOpd} (l : List α) (e : α -> List AV) (hx : elsOf (x.ev env) = some (List.map e l) := by kernel_rfl) : Does P (.len false x) env h (.v (.int .i64 l.length)) h := by
 obtain ⟨tok, hx⟩ := elsOf_some hx
 exact q_len hx
theorem x_lenS {x : AOpd} (s : ByteArray) (hx : x.ev env = some (.v (.string s)) := by kernel_rfl) : Does P (.len true x) env h (.v (.int .i64 s.size)) h := q_lenS hx
theorem x_idx {size : Nat} {x i : AOpd} {l : List α} {e' e : α -> List AV} {n : Int} {y : α} (h0 : 0 <= n) (hy : l[n.toNat]? = some y) (he : e' y = e y) (hx : elsOf (x.ev env) = some (List.map e' l) := by kernel_rfl) (hi : intOf (i.ev env) = some n := by kernel_rfl) (hs : (e y).length = size := by kernel_rfl) : Does P (.idxSl size x i) env h (.elt (e y) 0) h := by
 obtain ⟨tok, hx⟩ := elsOf_some hx
 obtain ⟨k, hi⟩ := intOf_some hi
 exact q_idxSl hx hi h0 hy he hs
theorem x_idxS {x i : AOpd} {s : ByteArray} {n : Int} (h0 : 0 <= n /\ n < (s.size : Int)) (hx : x.ev env = some (.v (.string s)) := by kernel_rfl) (hi : intOf (i.ev env) = some n := by kernel_rfl) : Does P (.idxS x i) env h (.v (.int .u8 (byteAt s n.toNat))) h := by
 obtain ⟨k, hi⟩ := intOf_some hi
 exact q_idxS hx hi h0
theorem x_sliceS {x : AOpd} {lo hi : Option AOpd} {s : ByteArray} {l u : Int} (h0 : 0 <= l /\ l <= u /\ u <= (s.size : Int)) (hx : x.ev env = some (.v (.string s)) := by kernel_rfl) (h3 : (evo env lo).bind (boundOf 0) = some l := by kernel_rfl) (h4 : (evo env hi).bind (boundOf s.size) = some u := by kernel_rfl) : Does P (.sliceS x lo hi) env h (.v (.string (s.extract l.toNat u.toNat))) h := by
 obtain ⟨lv, h1, h3⟩ := Option.bind_eq_some_iff.1 h3
 obtain ⟨hv, h2, h4⟩ := Option.bind_eq_some_iff.1 h4
 exact q_sliceS hx h1 h2 h3 h4 h0
theorem x_slice3 {size : Nat} {x m : AOpd} {lo hi : Option AOpd} {l : List α} {e' : α -> List AV} {a u : Int} (h0 : 0 <= a /\ a <= u /\ u <= (l.length : Int)) (hs : ∀ y, (e' y).length = size) (hx : elsOf (x.ev env) = some (List.map e' l) := by kernel_rfl) (h3 : (evo env lo).bind (boundOf 0) = some a := by kernel_rfl) (h4 : (evo env hi).bind (boundOf l.length) = some u := by kernel_rfl) (h5 : intOf (m.ev env) = some u := by kernel_rfl) (hc : hi.isSome = true := by kernel_rfl) : Does P (.sliceV size x lo hi (some m)) env h (.sl (List.map e' ((l.take u.toNat).drop a.toNat)) .full) h := by
 obtain ⟨tok, hx⟩ := elsOf_some hx
 obtain ⟨k, h5⟩ := intOf_some h5
 obtain ⟨lv, h1, h3⟩ := Option.bind_eq_some_iff.1 h3
 obtain ⟨hv, h2, h4⟩ := Option.bind_eq_some_iff.1 h4
 refine q_sliceV3 hx h1 h2 h3 h4 h5 ?_ h0 hs
 cases hi with
 | none => cases hc
 | some hi =>
  simp only [evo] at h2
  split at h2
  ·cases h2; rfl
  ·cases h2
def bin2 (op : BinOp) (x y : Option AV) : Option (Prop × Value) :=
 match x, y with
 | some (.v a), some (.v b) => pbin op a b
 | _, _ => none
theorem x_bin {op : BinOp} {x y : AOpd} {c : Prop} (r : Value) (hc : c) (hp : bin2 op (x.ev env) (y.ev env) = some (c, r) := by kernel_rfl) : Does P (.bin op x y) env h (.v r) h := by
 unfold bin2 at hp
 split at hp
 ·rename_i a b h1 h2; exact q_bin h1 h2 hp hc
 ·cases hp
theorem x_cat {x y : AOpd} {a b : ByteArray} (h0 : ((a.size + b.size : Nat) : Int) <= 9223372036854775807) (hx : x.ev env = some (.v (.string a)) := by kernel_rfl) (hy : y.ev env = some (.v (.string b)) := by kernel_rfl) : Does P (.bin .add x y) env h (.v (.string (a ++ b))) h := q_catS hx hy h0
theorem x_eqS {x y : AOpd} (a b : ByteArray) (hx : x.ev env = some (.v (.string a)) := by kernel_rfl) (hy : y.ev env = some (.v (.string b)) := by kernel_rfl) : Does P (.bin .eql x y) env h (.v (.bool (decide (a = b)))) h := q_eqS hx hy
theorem x_neS {x y : AOpd} (a b : ByteArray) (hx : x.ev env = some (.v (.string a)) := by kernel_rfl) (hy : y.ev env = some (.v (.string b)) := by kernel_rfl) : Does P (.bin .neq x y) env h (.v (.bool (!decide (a = b)))) h := q_neS hx hy
theorem x_min2 {x y : AOpd} (k : IntKind) (a b : Int) (hx : x.ev env = some (.v (.int k a)) := by kernel_rfl) (hy : y.ev env = some (.v (.int k b)) := by kernel_rfl) : Does P (.minmax false [x, y]) env h (.v (.int k (min a b))) h := q_min2 hx hy
theorem x_call {g : FuncId} {args : List AOpd} {l' : List AV} {r : AV} (hc : PureN P h.globs g l' r) (hp : plainL l' = true) (ha : (evs env args).map (List.map nz) = some l' := by kernel_rfl) (hgl : plainG h.globs = true := by kernel_rfl) : Does P (.call (.c (.clo (.func g) [] [])) args) env h r h := by
 obtain ⟨l, h1, h2⟩ := Option.map_eq_some_iff.1 ha
 exact q_calln rfl h1 h2 hgl hp hc
theorem y_call {g : FuncId} {args : List AOpd} {l' : List AV} {r : AV} (hc : PureN P gl g l' r) (hp : plainL l' = true) (ha : (evs env args).map (List.map nz) = some l' := by kernel_rfl) (hgl : plainG gl = true := by kernel_rfl) : ∀ h2, InS S gl h2 -> Does P (.call (.c (.clo (.func g) [] [])) args) env h2 r h2 := by
 obtain ⟨l, h1, h2⟩ := Option.map_eq_some_iff.1 ha
 exact all_n rfl h1 h2 hgl hp hc
theorem x_fcall {f : AOpd} {args : List AOpd} {F : AV} {l' : List AV} {r : AV} (hc : FCall P h.globs F l' r) (hf : f.ev env = some F := by kernel_rfl) (ha : (evs env args).map (List.map nz) = some l' := by kernel_rfl) (hgl : plainG h.globs = true := by kernel_rfl) : Does P (.call f args) env h r h := by
 obtain ⟨l, h1, h2⟩ := Option.map_eq_some_iff.1 ha
 exact q_fcall hf h1 h2 hgl hc
theorem x_app {size byt : Nat} {x y : AOpd} (id : Nat) (e' : α -> List AV) (l m : List α) (h0 : (l.length + m.length) * byt <= 140737488355328) (hs : ∀ y, (e' y).length = size) (hm : (y.ev env).bind (elsH h size) = some (List.map e' m)) (hx : x.ev env = some (.sl (List.map e' l) (.own id)) := by kernel_rfl) (hb : h.bufs[id]? = some (l.length, size) := by kernel_rfl) : Does P (.append size byt x y) env h (.sl (List.map e' (l ++ m)) (.own id)) ⟨h.blks, h.bufs.set id ((l ++ m).length, size), h.globs⟩ := by
 obtain ⟨Y, h1, h2⟩ := Option.bind_eq_some_iff.1 hm
 exact h_append_own hx h1 h2 hb hs h0
theorem x_bytes {x : AOpd} (s : ByteArray) (hx : x.ev env = some (.v (.string s)) := by kernel_rfl) : Does P (.bytes x) env h (.sl (List.map (fun n => [AV.v (.int .u8 n)]) (bI s)) (.own h.bufs.length)) ⟨h.blks, h.bufs ++ [((bI s).length, 1)], h.globs⟩ := h_bytes hx
theorem x_str {x : AOpd} {l : List Int} {t : ByteArray} (hl : l = bI t) (hx : elsOf (x.ev env) = some (List.map (fun n => [AV.v (.int .u8 n)]) l) := by kernel_rfl) : Does P (.conv .str x) env h (.v (.string t)) h := by
 obtain ⟨tok, hx⟩ := elsOf_some hx
 exact q_str hx hl
theorem x_U {o : AOp} (av : AV) (news : List (List AV)) (sets : List (Nat × List AV)) (he : aopF false noC o env h = some (av, upd h news sets) := by kernel_rfl) : Does P o env h av (upd h news sets) := does_F he
end
def Sg.mine (σ : Sg) (b0 : Nat) (β : Option Nat) : Sg := ⟨σ.w, fun i => if i = 0 then some b0 else none, fun j => if j = 0 then β.bind σ.buf else none, fun _ _ => False⟩
def Sg.small (σ : Sg) (b0 : Nat) (β : Option Nat) : Sg := { σ.mine b0 β with outer := fun b o => σ.open_ b o /\ ¬ (σ.mine b0 β).own b o }
theorem Rel.move {σ σ' : Sg} {a : AV} {x : Value} (hr : Rel σ a x) (hp : plain a = true) (hw : σ'.w = σ.w) (ho : ∀ b o, σ'.open_ b o -> σ.open_ b o) : Rel σ' a x :=
 (hr.down (w := σ.w) (outer := σ.open_) hp rfl fun _ _ h => h).up (fun _ => rfl) (fun _ => rfl) hw.symm fun b o h => .inl (ho b o h)
section
variable {P : Program} {h h' : AHeap} {env e : Env} {N kf : Nat} {Q : Exit -> Env -> AHeap -> Prop} {x : ACode}
theorem keep1 {m : List Bool} (hm : m.getD 0 false = true) : ∀ k, k < 1 -> m.getD k false = true := fun k hk => by
 cases k with
 | zero => exact hm
 | succ k => omega
end
theorem plainL_append' {a b : List AV} : plainL (a ++ b) = (plainL a && plainL b) := by
 induction a with
 | nil => rfl
 | cons x r ih => simp only [List.cons_append, plainL, ih, Bool.and_assoc]
def cellsOf {α : Type} (e : α -> List AV) (l : List α) : List AV := (l.map e).flatten
section
variable {α : Type} {e : α -> List AV} {sz : Nat}
theorem cellsOf_sz (hs : ∀ y, (e y).length = sz) {l : List α} : ∀ r ∈ l.map e, r.length = sz := by
 intro r hr
 obtain ⟨y, _, rfl⟩ := List.mem_map.1 hr
 exact hs y
theorem cellsOf_get (hs : ∀ y, (e y).length = sz) {l : List α} {i k : Nat} {y : α} (hy : l[i]? = some y) (hk : k < sz) : (cellsOf e l)[i * sz + k]? = (e y)[k]? := by
 rw [cellsOf, flat_get _ (cellsOf_sz hs) i k hk, List.getElem?_map, hy]
 rfl
theorem cellsOf_len (hs : ∀ y, (e y).length = sz) : ∀ (l : List α), (cellsOf e l).length = l.length * sz
 | [] => by simp [cellsOf]
 | y :: l => by
  have := cellsOf_len hs l
  simp only [cellsOf, List.map_cons, List.flatten_cons, List.length_append, List.length_cons, Nat.add_mul] at this ⊢
  rw [hs, this]; omega
theorem cellsOf_ni (hn : ∀ y, noIt (e y) = true) : ∀ {l : List α}, l ≠ [] -> noIt (cellsOf e l) = true
 | [], h => (h rfl).elim
 | y :: l, _ => by
  have := hn y
  cases hy : e y with
  | nil => rw [hy] at this; cases this
  | cons a r => rw [hy] at this; simp only [cellsOf, List.map_cons, List.flatten_cons, hy, List.cons_append, noIt] at this ⊢; exact this
theorem plainL_cellsOf (e : α -> List AV) {l : List α} (h : plainLL (l.map e) = true) : plainL (cellsOf e l) = true := by
 unfold cellsOf
 revert h
 generalize l.map e = x
 intro h
 induction x with
 | nil => rfl
 | cons a r ih => simp only [plainLL, Bool.and_eq_true] at h; rw [List.flatten_cons, plainL_append', h.1, ih h.2]; rfl
theorem some_ne {l : List α} {i : Nat} {y : α} (hy : l[i]? = some y) : l ≠ [] := by rintro rfl; simp at hy
theorem cellsOf_set (hs : ∀ y, (e y).length = sz) : ∀ {l : List α} {i : Nat} {z : α}, i < l.length -> splice (cellsOf e l) (i * sz) (e z) = cellsOf e (l.set i z)
 | [], i, z, h => by simp at h
 | y :: l, 0, z, h => by
  simp only [splice, cellsOf, List.map_cons, List.flatten_cons, Nat.zero_mul, List.take_zero, List.nil_append, Nat.zero_add, List.set_cons_zero]
  rw [hs, List.drop_append_of_le_length (by rw [hs]; exact Nat.le_refl _), List.drop_of_length_le (by rw [hs]; exact Nat.le_refl _), List.nil_append]
 | y :: l, i + 1, z, h => by
  have := cellsOf_set hs (l := l) (i := i) (z := z) (by simpa using h)
  simp only [splice, cellsOf, List.map_cons, List.flatten_cons, List.set_cons_succ] at this ⊢
  rw [← this, Nat.add_mul, Nat.one_mul, Nat.add_comm (i * sz) sz]
  have h1 : (e y ++ (List.map e l).flatten).take (sz + i * sz) = e y ++ ((List.map e l).flatten).take (i * sz) := by
   have := hs y
   rw [List.take_append, this, List.take_of_length_le (by omega)]; congr 2; omega
  have h2 : (e y ++ (List.map e l).flatten).drop (sz + i * sz + (e z).length) = ((List.map e l).flatten).drop (i * sz + (e z).length) := by
   have := hs y
   rw [List.drop_append, this, List.drop_of_length_le (by omega), List.nil_append]; congr 1; omega
  rw [h1, h2]; simp [List.append_assoc]
theorem zerosOf_eq (z : α) (hs : (e z).length = sz) (n : Nat) : zerosOf sz n (e z) = cellsOf e (List.replicate n z) := by
 have hl : (zerosOf sz n (e z)).length = n * sz := by simp [zerosOf]
 have hl2 : (cellsOf e (List.replicate n z)).length = n * sz := by
  simp only [cellsOf, List.map_replicate, List.length_flatten, List.map_replicate, List.sum_replicate_nat, hs]
 refine List.ext_getElem? fun i => ?_
 rcases Nat.lt_or_ge i (n * sz) with hi | hi
 ·have h0 : 0 < sz := by
   rcases Nat.eq_zero_or_pos sz with h | h
   ·subst h; simp at hi
   ·exact h
  have hm : i % sz < sz := Nat.mod_lt _ h0
  have hd : i / sz < n := (Nat.div_lt_iff_lt_mul h0).2 hi
  have e1 : (zerosOf sz n (e z))[i]? = some ((e z).getD (i % sz) .nil) := by
   simp [zerosOf, List.getElem?_range, hi]
  have e2 : (cellsOf e (List.replicate n z))[i]? = (e z)[i % sz]? := by
   have hh := flat_get (List.map e (List.replicate n z)) (size := sz) (by
    intro r hr
    simp only [List.map_replicate, List.mem_replicate] at hr
    rw [hr.2, hs]) (i / sz) (i % sz) hm
   rw [Nat.mul_comm, Nat.div_add_mod] at hh
   rw [cellsOf, hh]
   simp [List.getElem?_replicate, hd]
  rw [e1, e2, List.getD_eq_getElem?_getD]
  rw [List.getElem?_eq_getElem (by rw [hs]; exact hm)]
  rfl
 ·rw [List.getElem?_eq_none (by omega), List.getElem?_eq_none (by omega)]
end
section
variable {P : Program} {h h' : AHeap} {env : Env} {α : Type} {e : α -> List AV} {sz : Nat}
theorem x_make {x y : AOpd} {bytes : Nat} {zero : List AV} (e : α -> List AV) (z : α) (L C : Int) (h0 : 0 <= L /\ L <= C /\ C * bytes <= 140737488355328) (hx : intOf (x.ev env) = some L := by kernel_rfl) (hy : intOf (y.ev env) = some C := by kernel_rfl) (hz : zero = e z := by kernel_rfl) (hs : (e z).length = sz := by kernel_rfl) : Does P (.make sz bytes zero x y) env h (.row h.blks.length 0 sz L.toNat C.toNat) ⟨h.blks ++ [some (cellsOf e (List.replicate C.toNat z))], h.bufs, h.globs⟩ := by
 obtain ⟨k1, hx⟩ := intOf_some hx
 obtain ⟨k2, hy⟩ := intOf_some hy
 subst hz
 intro K hk
 simp only [aop, hx, hy, wv, made]
 rw [zerosOf_eq z hs]
 exact ⟨h0, hk⟩
theorem x_ridx {x i : AOpd} (r len cap : Nat) {n : Int} (h0 : 0 <= n /\ n < (len : Int)) (hx : x.ev env = some (.row r 0 sz len cap) := by kernel_rfl) (hi : intOf (i.ev env) = some n := by kernel_rfl) : Does P (.idxSl sz x i) env h (.ptr r (0 + n.toNat * sz)) h := by
 obtain ⟨k, hi⟩ := intOf_some hi
 intro K hk
 simp only [aop, hx, hi, wv, indexed]
 exact ⟨h0, trivial, hk⟩
theorem place_row {r off : Nat} {l : List α} (hn : ∀ y, noIt (e y) = true) (hb : h.blks[r]? = some (some (cellsOf e l))) (hl : l ≠ []) : place h (.ptr r off) = some (cellsOf e l, off) := by
 simp only [place, hb, cellsOf_ni hn hl, if_true]
theorem x_rld1 {x : AOpd} {r off i k : Nat} {l : List α} {y : α} {av : AV} (hs : ∀ y, (e y).length = sz) (hn : ∀ y, noIt (e y) = true) (hy : l[i]? = some y) (hk : k < sz) (hav : (e y)[k]? = some av) (hoff : off = i * sz + k) (hx : x.ev env = some (.ptr r off) := by kernel_rfl) (hb : h.blks[r]? = some (some (cellsOf e l)) := by kernel_rfl) : Does P (.load none x) env h av h := by
 intro K hK
 simp only [aop, hx, wv, loaded, place_row hn hb (some_ne hy)]
 rw [hoff, cellsOf_get hs hy hk, hav]
 exact hK
theorem x_rst {p x : AOpd} {r off i : Nat} {l : List α} {av : AV} (z : α) (hs : ∀ y, (e y).length = sz) (hn : ∀ y, noIt (e y) = true) (hi : i < l.length) (hav : e z = av.cells) (hoff : off = i * sz) (hp : p.ev env = some (.ptr r off) := by kernel_rfl) (hx : x.ev env = some av := by kernel_rfl) (ht : av.isTuple = false := by kernel_rfl) (hb : h.blks[r]? = some (some (cellsOf e l)) := by kernel_rfl) : Does P (.store sz p x) env h (.tuple []) ⟨h.blks.set r (some (cellsOf e (l.set i z))), h.bufs, h.globs⟩ := by
 intro K hK
 have hne : l ≠ [] := by rintro rfl; simp at hi
 simp only [aop, hp, hx, wv, stored, hb, cellsOf_ni hn hne]
 rw [← cellsOf_set hs hi, hav, ← hoff] at hK
 refine ⟨⟨trivial, by rw [← hav]; exact hs z, ?_, ht⟩, hK⟩
 rw [hoff, cellsOf_len hs, ← Nat.succ_mul]
 exact Nat.mul_le_mul_right sz hi
end
section
variable {P : Program} {h : AHeap} {env : Env} {K : Env -> AHeap -> Prop} {L : List AOper} {k : Nat}
theorem x_range {x : AOpd} (s : ByteArray) (hx : x.ev env = some (.v (.string s)) := by kernel_rfl) : Does P (.range x) env h (.ptr h.blks.length 0) ⟨h.blks ++ [some [.it s 0]], h.bufs, h.globs⟩ := by
 intro K hk
 simp only [aop, hx, wv, ranged]
 exact hk
theorem vx {d : Nat} {x : AOpd} (hl : L[k]? = some ⟨some d, .next x, none⟩) (n : Nat) (s : ByteArray) (p : Nat) (h1 : p < s.size -> Vp P L (k + 1) ((d, .tuple [.v (.bool true), .v (.int .i64 p), .v (.int .i32 (Utf8.decode s p).1)]) :: env) ⟨h.blks.set n (some [.it s (p + (Utf8.decode s p).2)]), h.bufs, h.globs⟩ K) (h2 : ¬ p < s.size -> Vp P L (k + 1) ((d, .tuple [.v (.bool false)]) :: env) h K) (hx : x.ev env = some (.ptr n 0) := by kernel_rfl) (hb : h.blks[n]? = some (some [.it s p]) := by kernel_rfl) : Vp P L k env h K := by
 rcases Nat.lt_or_ge p s.size with hp | hp
 ·refine vp_opg hl rfl (h' := ⟨h.blks.set n (some [.it s (p + (Utf8.decode s p).2)]), h.bufs, h.globs⟩) (fun K hk => ?_) rfl rfl (h1 hp)
  simp only [aop, hx, wv, nexted, hb]
  exact ⟨fun _ => hk, fun hn => (hn hp).elim⟩
 ·refine vp_opg hl rfl (h' := h) (fun K hk => ?_) rfl rfl (h2 (Nat.not_lt.2 hp))
  simp only [aop, hx, wv, nexted, hb]
  exact ⟨fun hn => (Nat.not_lt.2 hp hn).elim, fun _ => hk⟩
end
def rfz (n : Nat) (els : List (List AV)) : AV -> AV
 | .row k off size len cap => if k = n then .sl els .no else .row k off size len cap
 | a => a
def rfzE (n : Nat) (els : List (List AV)) : Env -> Env
 | [] => []
 | (t, a) :: e => (t, rfz n els a) :: rfzE n els e
theorem rfzE_get {n : Nat} {els : List (List AV)} : ∀ {e : Env} {t : Nat} {b : AV}, get (rfzE n els e) t = some b -> ∃ a, get e t = some a /\ b = rfz n els a
 | [], _, _, h => by cases h
 | (u, a) :: e, t, b, h => by
  simp only [rfzE, get] at h ⊢
  split at h
  ·rename_i hu; rw [if_pos hu]; cases h; exact ⟨a, rfl, rfl⟩
  ·rename_i hu; rw [if_neg hu]; exact rfzE_get h
def rowsOf (n : Nat) : Env -> List (Nat × Nat × Nat)
 | [] => []
 | (_, .row k off size len _) :: e => if k = n then (off, size, len) :: rowsOf n e else rowsOf n e
 | _ :: e => rowsOf n e
theorem rowsOf_get {n : Nat} : ∀ {e : Env} {t off size len cap : Nat}, get e t = some (.row n off size len cap) -> (off, size, len) ∈ rowsOf n e
 | [], _, _, _, _, _, h => by cases h
 | (u, a) :: e, t, off, size, len, cap, h => by
  simp only [get] at h
  split at h
  ·cases h; simp [rowsOf]
  ·have := rowsOf_get h
   unfold rowsOf
   split
   ·rename_i heq; cases heq
   ·rename_i heq; cases heq; split
    ·exact List.mem_cons_of_mem _ this
    ·exact this
   ·rename_i heq; cases heq; exact this
theorem d_rfreeze {P : Program} {h : AHeap} {env : Env} {N kb kf : Nat} {Q : Exit -> Env -> AHeap -> Prop} {x : ACode} (n : Nat) (m : List Bool) (k : Nat) (cells : List AV) (els : List (List AV)) (sz len c : Nat) (hb : h.blks[n]? = some (some cells)) (hce : els.flatten = cells) (hsz : ∀ el ∈ els, el.length = sz) (hlen : els.length = len) (hpos : 0 < sz) (hit : els ≠ [] -> noIt cells = true) (hrow : rowsOf n env = List.replicate c (0, sz, len)) (hmn : m.getD n false = false) (hal : alive m h.blks = true) (hm : ∀ k, k < kb -> m.getD k false = true) (hn : kf <= k)
  {e : Env} (hE : rfzE n els env = e) (he : lowE m k e = true) (hB : lowB m k (keepB m h.blks) = true) (hg : plainG h.globs = true) (hx : D P N kb kf x Q e ⟨keepB m h.blks, h.bufs.take k, h.globs⟩) : D P N kb kf x Q env h := ⟨by
 subst hE
 intro co hc σ0 σ a hs hle hl
 refine hx.out co hc σ0 (σ.cut m k) a ⟨hs.inv.cut m k hB hg, fun t av ht => ?_, hs.size, hs.defers⟩ (hle.cut hl hm hn) hl
 have hlow := lowE_get he ht
 obtain ⟨a0, h1, rfl⟩ := rfzE_get ht
 obtain ⟨y, h2, h3⟩ := hs.env t a0 h1
 refine ⟨y, h2, ?_⟩
 cases a0 with
 | row j off size len' cap =>
  simp only [rfz] at hlow ⊢
  split at hlow
  ·rename_i hj
   subst hj
   rw [if_pos rfl]
   have hrr := rowsOf_get h1
   rw [hrow] at hrr
   obtain ⟨rfl, rfl, rfl⟩ : off = 0 /\ size = sz /\ len' = len := by simpa using (List.mem_replicate.1 hrr).2
   cases h3 with
   | row _ _ _ _ _ b cap' hblk hcap _ _ =>
   obtain ⟨b', h4, h5⟩ := hs.inv.blk j cells hb
   rw [hblk] at h4; cases h4
   subst hlen
   rcases Classical.em (els = []) with h0 | h0
   ·subst h0; exact .slx _ ⟨b, 0, none⟩ cap' trivial (.inl rfl)
   have hni := hit h0
   obtain ⟨cs, rest, elem, h6, h7⟩ := h5.plain hni
   have hlc : lowLL m k els = true := by simpa [low] using hlow
   have key : ∀ (i : Nat) (el : List AV), els[i]? = some el -> ∀ (q : Nat) (av : AV), el[q]? = some av -> ∃ xv, σ.w.cell? ⟨b, 0 + i * size + q, none⟩ = some xv /\ Rel σ av xv /\ av.isCell = true := by
    intro i el hi q av hq
    have hql : q < size := by rw [← hsz el (List.mem_of_getElem? hi)]; exact (List.getElem?_eq_some_iff.1 hq).1
    have hf := flat_get els hsz i q hql
    rw [hi, Option.bind_some, hq, hce] at hf
    obtain ⟨q1, xv, q2, q3⟩ := h7.2 _ av hf
    refine ⟨xv, ?_, q3, q1⟩
    have hlt := (List.getElem?_eq_some_iff.1 q2).1
    rw [Nat.zero_add]
    simp [World.cell?, h6, List.getElem?_append_left hlt, q2]
   have hne : cells ≠ [] := noIt_ne hni
   refine Rel.sl (σ := σ.cut m k) els .no b 0 cap' size (fun i q => (σ.w.cell? ⟨b, 0 + i * size + q, none⟩).getD undef) (fun i el hi => hsz el (List.mem_of_getElem? hi)) hcap trivial (fun id e hid => by cases hid) (fun i el hi q av hq => ?_) fun i el hi q av hq => ?_
   ·obtain ⟨xv, q1, q2, q3⟩ := key i el hi q av hq
    refine ⟨by show σ.w.cell? _ = _; rw [q1]; rfl, ?_, q3⟩
    rintro (ho | ⟨j', hj'⟩ | ⟨id, eb, he1, he2⟩)
    ·exact (hs.inv.outer _ _ ho).2 (.inl ⟨j, hblk⟩)
    ·simp only [Sg.cut] at hj'
     split at hj'
     ·rename_i hmj
      obtain ⟨c', hc'⟩ := hs.inv.dom j' b hj'
      have := hs.inv.inj j' j b c' cells hc' hb (alive_get hal hmj hc') hne hj' hblk
      subst this
      rw [hmn] at hmj; cases hmj
     ·cases hj'
    ·simp only [Sg.cut] at he1
     split at he1
     ·exact hs.inv.bufblk id eb j b _ he1 he2 hblk
     ·cases he1
   ·obtain ⟨xv, q1, q2, q3⟩ := key i el hi q av hq
    rw [q1]
    exact q2.cut (lowL_get (lowLL_get hlc i el hi) q av hq)
  ·rename_i hj
   rw [if_neg hj]
   exact h3.cut hlow
 | _ => exact h3.cut hlow⟩
theorem drf {P : Program} {h : AHeap} {env : Env} {N kb kf : Nat} {Q : Exit -> Env -> AHeap -> Prop} {x : ACode} {α : Type} {f : α -> List AV} {sz : Nat} (n : Nat) (m : List Bool) (k c : Nat) (l : List α) (len : Nat) (e : Env) (bs : List (Option (List AV))) (hs : ∀ y, (f y).length = sz) (hni : ∀ y, noIt (f y) = true) (hlen : l.length = len) (hw : lowE m k e = true /\ lowB m k bs = true) (hx : D P N kb kf x Q e ⟨bs, h.bufs.take k, h.globs⟩) (hb : h.blks[n]? = some (some (cellsOf f l)) := by kernel_rfl) (hpos : Nat.ble 1 sz = true := by kernel_rfl) (hrow : rowsOf n env = List.replicate c (0, sz, len) := by kernel_rfl) (hmn : m.getD n false = false := by kernel_rfl) (hal : alive m h.blks = true := by kernel_rfl) (hm : ∀ k, k < kb -> m.getD k false = true := by intro k hk; first | exact absurd hk (Nat.not_lt_zero _) | exact keep1 rfl k hk) (hkf : Nat.ble kf k = true := by kernel_rfl) (hE : rfzE n (List.map f l) env = e := by kernel_rfl) (hbs : keepB m h.blks = bs := by kernel_rfl) (hg : plainG h.globs = true := by kernel_rfl) : D P N kb kf x Q env h := by
 subst hbs
 exact d_rfreeze n m k _ (List.map f l) sz len c hb rfl (cellsOf_sz hs) (by rw [List.length_map]; exact hlen) (Nat.le_of_ble_eq_true hpos) (fun h0 => cellsOf_ni hni (fun h => h0 (by rw [h]; rfl))) hrow hmn hal hm (Nat.le_of_ble_eq_true hkf) hE hw.1 hw.2 hg hx
section
open Go.RowKit Go.ChangeShapes Go.WideShapes Go.ChangeAt
theorem list_of' {α : Type} {P : Nat -> α -> Prop} : ∀ n : Nat, (∀ i, i < n -> ∃ x, P i x) -> ∃ xs : List α, xs.length = n /\ ∀ (i : Nat) x, xs[i]? = some x -> P i x
 | 0, _ => ⟨[], rfl, fun i x h => by simp at h⟩
 | n + 1, h => by
  obtain ⟨xs, hl, hx⟩ := list_of' n (fun i hi => h i (by omega))
  obtain ⟨y, hy⟩ := h n (by omega)
  refine ⟨xs ++ [y], by simp [hl], fun i x hi => ?_⟩
  by_cases hin : i < n
  ·rw [List.getElem?_append_left (by omega)] at hi; exact hx i x hi
  ·rw [List.getElem?_append_right (by omega)] at hi
   by_cases e : i = n
   ·subst e; rw [hl] at hi; simp at hi; subst hi; exact hy
   ·rw [List.getElem?_eq_none (by simp; omega)] at hi; cases hi
def Ty (P : Program) : Nat -> TypeId -> List AV -> Prop
 | 0, _, _ => False
 | n + 1, t, avs => match P.underlying t with
  | some (.int k) => ∃ m, avs = [.v (.int k m)] /\ (Lit.int k m).wf = true
  | some .bool => ∃ b, avs = [.v (.bool b)]
  | some .string => ∃ s, avs = [.v (.string s)] /\ s.size <= 140737488351232
  | some (.slice e) => ∃ els : List (List AV), avs = [.sl els .no] /\ els.length * P.bytesOf e <= 140737488351232 /\ ∀ el ∈ els, Ty P n e el
  | some (.struct fs) => ∃ parts : List (List AV), avs = parts.flatten /\ parts.length = fs.size /\ ∀ (i : Nat) (f : Field), fs[i]? = some f -> ∃ p, parts[i]? = some p /\ Ty P n f.type p
  | some (.array k e) => ∃ parts : List (List AV), avs = parts.flatten /\ parts.length = k /\ ∀ p ∈ parts, Ty P n e p
  | _ => False
def contig (P : Program) : Nat -> List Field -> Nat -> Bool
 | off, [], tot => off == tot
 | off, f :: fs, tot => f.offset == off && contig P (off + P.cellsOf f.type) fs tot
def okT (P : Program) (ts : List TypeId) (t : TypeId) : Bool :=
 match P.underlying t with
 | some (.int _) | some .bool | some .string => true
 | some (.slice e) => ts.contains e && decide (0 < P.cellsOf e) && decide (1 <= P.bytesOf e)
 | some (.struct fs) => fs.toList.all (fun f => ts.contains f.type) && contig P 0 fs.toList (P.cellsOf t)
 | some (.array k e) => ts.contains e && decide (k * P.cellsOf e = P.cellsOf t)
 | _ => false
def okTypes (P : Program) (ts : List TypeId) : Bool := ts.all (okT P ts)
def nowhere : Nat -> Nat -> Prop := fun _ _ => False
section
variable {H : Type} {enc : TypeId × Value -> H} {P : Program} {W : World} {base : Nat} {spare : Nat -> Bool} {held : Bool}
def Lightly (P : Program) (t : TypeId) (d : DataW H) : Prop := ∀ x ∈ DataW.weights P t d, x <= 140737488351232
theorem weightsEach_mem' : ∀ (ts : List TypeId) (ds : List (DataW H)) (i : Nat) (t : TypeId) (d : DataW H), ts[i]? = some t -> ds[i]? = some d -> ∀ x ∈ DataW.weights P t d, x ∈ DataW.weightsEach P ts ds
 | [], _, i, _, _, h, _, _, _ => by simp at h
 | _ :: _, [], i, _, _, _, h, _, _ => by simp at h
 | t' :: ts, d' :: ds, 0, t, d, h1, h2, x, hx => by
  simp at h1 h2; subst h1; subst h2
  simp only [DataW.weightsEach, List.mem_append]; exact .inl hx
 | t' :: ts, d' :: ds, i + 1, t, d, h1, h2, x, hx => by
  simp only [DataW.weightsEach, List.mem_append]
  exact .inr (weightsEach_mem' ts ds i t d (by simpa using h1) (by simpa using h2) x hx)
theorem weightsAll_mem' (e : TypeId) : ∀ (ds : List (DataW H)) (i : Nat) (d : DataW H), ds[i]? = some d -> ∀ x ∈ DataW.weights P e d, x ∈ DataW.weightsAll P e ds
 | [], i, _, h, _, _ => by simp at h
 | d' :: ds, 0, d, h2, x, hx => by
  simp at h2; subst h2
  simp only [DataW.weightsAll, List.mem_append]; exact .inl hx
 | d' :: ds, i + 1, d, h2, x, hx => by
  simp only [DataW.weightsAll, List.mem_append]
  exact .inr (weightsAll_mem' e ds i d (by simpa using h2) x hx)
theorem Lightly.part {t : TypeId} {fs : Array Field} {ps : List (DataW H)} (ht : P.underlying t = some (.struct fs)) (h : Lightly P t (.agg ps)) {i : Nat} {f : Field} {d : DataW H} (hf : fs[i]? = some f) (hd : ps[i]? = some d) : Lightly P f.type d := by
 intro x hx
 refine h x ?_
 simp only [DataW.weights, ht]
 exact weightsEach_mem' _ _ i f.type d (by simp [hf]) hd x hx
theorem Lightly.elem {t e : TypeId} {es sp : List (DataW H)} (ht : P.underlying t = some (.slice e)) (h : Lightly P t (.slice es sp)) {i : Nat} {d : DataW H} (hd : es[i]? = some d) : Lightly P e d := by
 intro x hx
 refine h x ?_
 simp only [DataW.weights, ht, List.mem_cons, List.mem_append]
 exact .inr (.inl (weightsAll_mem' e es i d hd x hx))
theorem Lightly.short {t e : TypeId} {es sp : List (DataW H)} (ht : P.underlying t = some (.slice e)) (h : Lightly P t (.slice es sp)) : es.length * P.bytesOf e <= 140737488351232 := by
 have := h ((es.length + sp.length) * P.bytesOf e) (by simp only [DataW.weights, ht, List.mem_cons, true_or])
 rw [Nat.add_mul] at this
 omega
theorem Lightly.at_ {t e : TypeId} {k : Nat} {ps : List (DataW H)} (ht : P.underlying t = some (.array k e)) (h : Lightly P t (.agg ps)) {i : Nat} {d : DataW H} (hd : ps[i]? = some d) : Lightly P e d := by
 intro x hx
 refine h x ?_
 simp only [DataW.weights, ht]
 exact weightsAll_mem' e ps i d hd x hx
theorem cells_concat (σ : Sg) : ∀ (fs : List Field) (off tot : Nat) (cs : List Value) (parts : List (List AV)), contig P off fs tot = true -> cs.length = tot -> parts.length = fs.length ->
  (∀ (i : Nat) (f : Field) (p : List AV), fs[i]? = some f -> parts[i]? = some p -> Cells σ p ((cs.drop f.offset).take (P.cellsOf f.type))) -> Cells σ parts.flatten (cs.drop off)
 | [], off, tot, cs, parts, hc, hl, hp, _ => by
  simp only [contig, beq_iff_eq] at hc
  have : parts = [] := List.eq_nil_of_length_eq_zero (by simpa using hp)
  subst this
  rw [List.drop_of_length_le (by omega)]
  exact Cells.nil σ
 | f :: fs, off, tot, cs, [], hc, hl, hp, _ => by simp at hp
 | f :: fs, off, tot, cs, p :: parts, hc, hl, hp, h => by
  simp only [contig, Bool.and_eq_true, beq_iff_eq] at hc
  obtain ⟨h1, h2⟩ := hc
  have h3 := h 0 f p rfl rfl
  have h4 := cells_concat σ fs (off + P.cellsOf f.type) tot cs parts h2 hl (by simpa using hp) (fun i g q hg hq => h (i + 1) g q (by simpa using hg) (by simpa using hq))
  have := h3.append h4
  rw [h1, ← List.drop_drop, List.take_append_drop] at this
  simpa using this
theorem cells_rows (σ : Sg) (k : Nat) : ∀ (parts : List (List AV)) (cs : List Value), cs.length = parts.length * k ->
  (∀ (i : Nat) (p : List AV), parts[i]? = some p -> Cells σ p ((cs.drop (i * k)).take k)) -> Cells σ parts.flatten cs
 | [], cs, hl, _ => by
  have : cs = [] := List.eq_nil_of_length_eq_zero (by simpa using hl)
  subst this
  exact Cells.nil σ
 | p :: parts, cs, hl, h => by
  have h3 := h 0 p rfl
  rw [List.length_cons, Nat.add_mul] at hl
  have h4 := cells_rows σ k parts (cs.drop k) (by simp; omega) (fun i q hq => by
   have := h (i + 1) q (by simpa using hq)
   rw [List.drop_drop, show k + i * k = (i + 1) * k by rw [Nat.add_mul]; omega]
   exact this)
  have := h3.append h4
  simp only [Nat.zero_mul, List.drop_zero, List.take_append_drop] at this
  simpa using this
theorem plainL_append {a b : List AV} : plainL (a ++ b) = (plainL a && plainL b) := by
 induction a with
 | nil => simp [plainL]
 | cons x a ih => simp [plainL, ih, Bool.and_assoc]
theorem plainL_flatten : ∀ {l : List (List AV)}, (∀ p ∈ l, plainL p = true) -> plainL l.flatten = true
 | [], _ => rfl
 | p :: l, h => by rw [List.flatten_cons, plainL_append, h p (by simp), plainL_flatten (fun q hq => h q (by simp [hq]))]; rfl
theorem plainLL_of : ∀ {l : List (List AV)}, (∀ p ∈ l, plainL p = true) -> plainLL l = true
 | [], _ => rfl
 | p :: l, h => by simp only [plainLL, Bool.and_eq_true]; exact ⟨h p (by simp), plainLL_of fun q hq => h q (by simp [hq])⟩
theorem open_cells {ts : List TypeId} (ok : okTypes P ts = true) : ∀ (n : Nat) (t : TypeId) (cs : List Value) (z : DataW H × List MemPlace), t ∈ ts -> DataW.trod enc P W base spare held n t cs = some z -> Lightly P t z.1 ->
  ∃ avs, Cells (bare W nowhere) avs cs /\ Ty P n t avs /\ plainL avs = true := by
 intro n
 induction n with
 | zero => intro t cs z ht h; simp [DataW.trod] at h
 | succ n ih =>
  intro t cs z ht h hw
  have hok := List.all_eq_true.1 ok t ht
  unfold okT at hok
  split at hok
  ·rename_i k hu
   obtain ⟨m, rfl, _, hwf⟩ := DataW.trod_int hu h
   exact ⟨[.v (.int k m)], Cells.one (.v _ rfl) rfl, by unfold Ty; rw [hu]; exact ⟨m, rfl, hwf⟩, rfl⟩
  ·rename_i hu
   obtain ⟨b, rfl, _⟩ := DataW.trod_bool hu h
   exact ⟨[.v (.bool b)], Cells.one (.v _ rfl) rfl, by unfold Ty; rw [hu]; exact ⟨b, rfl⟩, rfl⟩
  ·rename_i hu
   obtain ⟨s, rfl, rfl, _⟩ := DataW.trod_string hu h
   have : s.size <= 140737488351232 := hw s.size (by simp [DataW.weights])
   exact ⟨[.v (.string s)], Cells.one (.v _ rfl) rfl, by unfold Ty; rw [hu]; exact ⟨s, rfl, this⟩, rfl⟩
  ·rename_i e hu
   simp only [Bool.and_eq_true, decide_eq_true_eq, List.contains_iff_mem] at hok
   obtain ⟨⟨he, hk0⟩, hb1⟩ := hok
   rcases DataW.trod_slice hu h with ⟨hc, _⟩ | ⟨a, len, cap, elems, rest, m, hm, hc, hy, hb, hl, hmx, hlen, helem, _⟩
   ·subst hc
    exact ⟨[.sl [] .no], Cells.one (.sl0 _ trivial) rfl, by unfold Ty; rw [hu]; exact ⟨[], rfl, by simp, fun el h => by cases h⟩, rfl⟩
   ·subst hc hy
    obtain rfl : m = n := by omega
    have hsh := Lightly.short hu hw
    rw [List.length_map, hlen] at hsh
    have key : ∀ i, i < len -> ∃ avs : List AV, ∃ vs : List Value, vs.length = P.cellsOf e /\ (∀ j, j < P.cellsOf e -> W.cell? ((a.add (i * P.cellsOf e)).add j) = vs[j]?) /\ Cells (bare W nowhere) avs vs /\ Ty P m e avs /\ plainL avs = true := by
     intro i hi
     have h1 := helem i hi
     rw [List.getElem?_eq_getElem (by omega), Option.bind_eq_some_iff] at h1
     obtain ⟨vs, hc1, hc2⟩ := h1
     obtain ⟨_, hl1, hc3⟩ := World.cells?_some hc1
     obtain ⟨avs, h2, h3, h4⟩ := ih e vs _ he hc2 (Lightly.elem hu hw (i := i) (by rw [List.getElem?_map, List.getElem?_eq_getElem (by omega)]; rfl))
     exact ⟨avs, vs, hl1, hc3, h2, h3, h4⟩
    obtain ⟨els, hel, hels⟩ := list_of' len key
    have hty : ∀ el ∈ els, Ty P m e el /\ plainL el = true := by
     intro el hmem
     obtain ⟨i, hi⟩ := List.mem_iff_getElem?.1 hmem
     obtain ⟨vs, _, _, _, q1, q2⟩ := hels i el hi
     exact ⟨q1, q2⟩
    refine ⟨[.sl els .no], Cells.one ?_ rfl, by unfold Ty; rw [hu]; exact ⟨els, rfl, by rw [hel]; exact hsh, fun el h => (hty el h).1⟩, by simp only [plainL, plain, Bool.true_and, Bool.and_true]; exact plainLL_of fun p hp => (hty p hp).2⟩
    by_cases h0 : len = 0
    ·subst h0
     have : els = [] := List.eq_nil_of_length_eq_zero hel
     subst this
     exact .slx _ a cap trivial (.inl rfl)
    ·obtain ⟨b, o, sp⟩ := a
     obtain ⟨avs0, vs0, hl0, hc0, _⟩ := key 0 (by omega)
     have hz := hc0 0 hk0
     rw [List.getElem?_eq_getElem (by omega)] at hz
     have hspot : sp = none := by
      have := World.cell?_spot hz
      simpa [Addr.add] using this
     subst hspot
     have := Rel.sl (σ := bare W nowhere) els .no b o cap (P.cellsOf e) (fun i j => ((W.cell? ⟨b, o + i * P.cellsOf e + j, none⟩).getD undef)) (fun i el hi => by
       obtain ⟨vs, q1, _, q3, _⟩ := hels i el hi
       rw [← q3.1, q1]) (by omega) trivial (fun id e h => by cases h) (fun i el hi j av hj => by
       obtain ⟨vs, q1, q2, q3, _⟩ := hels i el hi
       obtain ⟨c1, x, hx, hr⟩ := q3.2 j av hj
       have hjl : j < P.cellsOf e := by rw [← q1]; exact (List.getElem?_eq_some_iff.1 hx).1
       have := q2 j hjl
       rw [addr_add, addr_add, hx] at this
       exact ⟨by show W.cell? _ = _; rw [this]; rfl, fun h => (bare_open _ _ _ _).1 h, c1⟩) (fun i el hi j av hj => by
       obtain ⟨vs, q1, q2, q3, _⟩ := hels i el hi
       obtain ⟨c1, x, hx, hr⟩ := q3.2 j av hj
       have hjl : j < P.cellsOf e := by rw [← q1]; exact (List.getElem?_eq_some_iff.1 hx).1
       have := q2 j hjl
       rw [addr_add, addr_add, hx] at this
       rw [this]; exact hr)
     rw [hel] at this
     exact this
  ·rename_i fs hu
   simp only [Bool.and_eq_true, List.all_eq_true, List.contains_iff_mem] at hok
   obtain ⟨hfs, hcg⟩ := hok
   obtain ⟨xs, m, hm, rfl, hcl, hxl, hf⟩ := DataW.trod_struct hu h
   obtain rfl : m = n := by omega
   have key : ∀ i, i < fs.size -> ∃ avs : List AV, ∀ f, fs[i]? = some f -> Cells (bare W nowhere) avs ((cs.drop f.offset).take (P.cellsOf f.type)) /\ Ty P m f.type avs /\ plainL avs = true := by
    intro i hi
    have hfi : fs[i]? = some fs[i] := Array.getElem?_eq_getElem hi
    have e : xs[i]? = some xs[i] := List.getElem?_eq_getElem (by omega)
    obtain ⟨avs, h2, h3, h4⟩ := ih fs[i].type _ _ (hfs _ (by simp)) ((hf i _ hfi).trans e) (Lightly.part hu hw hfi (by rw [List.getElem?_map, e]; rfl))
    refine ⟨avs, fun f hf' => ?_⟩
    rw [hfi] at hf'; cases hf'
    exact ⟨h2, h3, h4⟩
   obtain ⟨parts, hpl, hparts⟩ := list_of' fs.size key
   have hcells := cells_concat (P := P) (bare W nowhere) fs.toList 0 (P.cellsOf t) cs parts hcg hcl (by simpa using hpl) (fun i f p hfi hpi => (hparts i p hpi f (by simpa using hfi)).1)
   refine ⟨parts.flatten, by simpa using hcells, ?_, plainL_flatten fun p hp => ?_⟩
   ·unfold Ty; rw [hu]
    refine ⟨parts, rfl, hpl, fun i f hfi => ?_⟩
    have hi : i < parts.length := by rw [hpl]; exact (Array.getElem?_eq_some_iff.1 hfi).1
    exact ⟨parts[i], List.getElem?_eq_getElem hi, (hparts i _ (List.getElem?_eq_getElem hi) f hfi).2.1⟩
   ·obtain ⟨i, hi⟩ := List.mem_iff_getElem?.1 hp
    have hlt : i < fs.size := by rw [← hpl]; exact (List.getElem?_eq_some_iff.1 hi).1
    exact (hparts i p hi fs[i] (Array.getElem?_eq_getElem hlt)).2.2
  ·rename_i k e hu
   simp only [Bool.and_eq_true, decide_eq_true_eq, List.contains_iff_mem] at hok
   obtain ⟨he, hke⟩ := hok
   obtain ⟨xs, m, hm, rfl, hcl, hxl, hf⟩ := DataW.trod_array hu h
   obtain rfl : m = n := by omega
   have key : ∀ i, i < k -> ∃ avs : List AV, Cells (bare W nowhere) avs ((cs.drop (i * P.cellsOf e)).take (P.cellsOf e)) /\ Ty P m e avs /\ plainL avs = true := by
    intro i hi
    have e1 : xs[i]? = some xs[i] := List.getElem?_eq_getElem (by omega)
    exact ih e _ _ he ((hf i hi).trans e1) (Lightly.at_ hu hw (by rw [List.getElem?_map, e1]; rfl))
   obtain ⟨parts, hpl, hparts⟩ := list_of' k key
   have hall : ∀ p ∈ parts, Ty P m e p /\ plainL p = true := by
    intro p hp
    obtain ⟨i, hi⟩ := List.mem_iff_getElem?.1 hp
    exact (hparts i p hi).2
   refine ⟨parts.flatten, cells_rows _ (P.cellsOf e) parts cs (by rw [hcl, hpl, hke]) (fun i p hi => (hparts i p hi).1), ?_, plainL_flatten fun p hp => (hall p hp).2⟩
   unfold Ty; rw [hu]
   exact ⟨parts, rfl, hpl, fun p hp => (hall p hp).1⟩
  ·cases hok
end
end
def eI_i8 (x : Int) : List AV := [.v (.int .i8 x)]
theorem plm_I_i8 (l : List Int) : plainLL (l.map eI_i8) = true := plainLL_map _ _ fun x _ => rfl
def eI_i16 (x : Int) : List AV := [.v (.int .i16 x)]
theorem plm_I_i16 (l : List Int) : plainLL (l.map eI_i16) = true := plainLL_map _ _ fun x _ => rfl
def eI_i32 (x : Int) : List AV := [.v (.int .i32 x)]
theorem plm_I_i32 (l : List Int) : plainLL (l.map eI_i32) = true := plainLL_map _ _ fun x _ => rfl
def eI_i64 (x : Int) : List AV := [.v (.int .i64 x)]
theorem plm_I_i64 (l : List Int) : plainLL (l.map eI_i64) = true := plainLL_map _ _ fun x _ => rfl
def eI_u8 (x : Int) : List AV := [.v (.int .u8 x)]
theorem plm_I_u8 (l : List Int) : plainLL (l.map eI_u8) = true := plainLL_map _ _ fun x _ => rfl
def eI_u16 (x : Int) : List AV := [.v (.int .u16 x)]
theorem plm_I_u16 (l : List Int) : plainLL (l.map eI_u16) = true := plainLL_map _ _ fun x _ => rfl
def eI_u32 (x : Int) : List AV := [.v (.int .u32 x)]
theorem plm_I_u32 (l : List Int) : plainLL (l.map eI_u32) = true := plainLL_map _ _ fun x _ => rfl
def eI_u64 (x : Int) : List AV := [.v (.int .u64 x)]
theorem plm_I_u64 (l : List Int) : plainLL (l.map eI_u64) = true := plainLL_map _ _ fun x _ => rfl
def eBool (x : Bool) : List AV := [.v (.bool x)]
theorem plm_Bool (l : List Bool) : plainLL (l.map eBool) = true := plainLL_map _ _ fun x _ => rfl
def eStr (x : ByteArray) : List AV := [.v (.string x)]
theorem plm_Str (l : List ByteArray) : plainLL (l.map eStr) = true := plainLL_map _ _ fun x _ => rfl
structure GOp where
 Num : Int
 Name : ByteArray
 Alias : ByteArray
 Card : Int
 Key : Int
 Kind : Int
 Target : Int
 Union : Int
def eGOp (x : GOp) : List AV := [.v (.int .i64 x.Num), .v (.string x.Name), .v (.string x.Alias), .v (.int .i64 x.Card), .v (.int .i64 x.Key), .v (.int .i64 x.Kind), .v (.int .i64 x.Target), .v (.int .i64 x.Union)]
theorem pl_GOp (x : GOp) : plainL (eGOp x) = true := by simp [eGOp, plainL, plain, plm_I_i8, plm_I_i16, plm_I_i32, plm_I_i64, plm_I_u8, plm_I_u16, plm_I_u32, plm_I_u64, plm_Bool, plm_Str, gfn_fi, gfn_cap, plm_Fn]
theorem plm_GOp (l : List GOp) : plainLL (l.map eGOp) = true := plainLL_map _ _ fun x _ => pl_GOp x
structure GProg where
 Name : ByteArray
 Ops : (List GOp)
 Unions : Int
def eGProg (x : GProg) : List AV := [.v (.string x.Name), .sl (List.map eGOp x.Ops) .no, .v (.int .i64 x.Unions)]
theorem pl_GProg (x : GProg) : plainL (eGProg x) = true := by simp [eGProg, plainL, plain, plm_I_i8, plm_I_i16, plm_I_i32, plm_I_i64, plm_I_u8, plm_I_u16, plm_I_u32, plm_I_u64, plm_Bool, plm_Str, gfn_fi, gfn_cap, plm_Fn, pl_GOp, plm_GOp]
theorem plm_GProg (l : List GProg) : plainLL (l.map eGProg) = true := plainLL_map _ _ fun x _ => pl_GProg x
structure GRaw where
 Num : Int
 Wire : Int
 Bits : Int
 Data : ByteArray
def eGRaw (x : GRaw) : List AV := [.v (.int .i64 x.Num), .v (.int .i64 x.Wire), .v (.int .u64 x.Bits), .v (.string x.Data)]
theorem pl_GRaw (x : GRaw) : plainL (eGRaw x) = true := by simp [eGRaw, plainL, plain, plm_I_i8, plm_I_i16, plm_I_i32, plm_I_i64, plm_I_u8, plm_I_u16, plm_I_u32, plm_I_u64, plm_Bool, plm_Str, gfn_fi, gfn_cap, plm_Fn, pl_GOp, plm_GOp, pl_GProg, plm_GProg]
theorem plm_GRaw (l : List GRaw) : plainLL (l.map eGRaw) = true := plainLL_map _ _ fun x _ => pl_GRaw x
structure GValue where
 Kind : Int
 Bits : Int
 Text : ByteArray
 List_ : (List GValue)
 Pairs : (List (GValue × GValue))
 Slots : (List (Int × GValue))
 Raws : (List GRaw)
mutual
def eGValue' : GValue -> List AV
 | ⟨f0, f1, f2, f3, f4, f5, f6⟩ => [.v (.int .i64 f0), .v (.int .u64 f1), .v (.string f2), .sl (eGValue'L f3) .no, .sl (eGPair'L f4) .no, .sl (eGSlot'L f5) .no, .sl (List.map eGRaw f6) .no]
def eGValue'L : List GValue -> List (List AV)
 | [] => []
 | x :: l => (eGValue' x) :: eGValue'L l
def eGPair'L : List (GValue × GValue) -> List (List AV)
 | [] => []
 | (z0, z1) :: l => (eGValue' z0 ++ eGValue' z1) :: eGPair'L l
def eGSlot'L : List (Int × GValue) -> List (List AV)
 | [] => []
 | (z0, z1) :: l => ([.v (.int .i64 z0)] ++ eGValue' z1) :: eGSlot'L l
end
def eGPair' (x : (GValue × GValue)) : List AV := eGValue' x.1 ++ eGValue' x.2
def eGSlot' (x : (Int × GValue)) : List AV := [.v (.int .i64 x.1)] ++ eGValue' x.2
theorem eGValue'L_map : ∀ l, eGValue'L l = List.map eGValue' l
 | [] => rfl
 | x :: l => by simp only [eGValue'L, List.map_cons, eGValue'L_map l]
theorem eGPair'L_map : ∀ l, eGPair'L l = List.map eGPair' l
 | [] => rfl
 | x :: l => by simp only [eGPair'L, List.map_cons, eGPair'L_map l, eGPair']
theorem eGSlot'L_map : ∀ l, eGSlot'L l = List.map eGSlot' l
 | [] => rfl
 | x :: l => by simp only [eGSlot'L, List.map_cons, eGSlot'L_map l, eGSlot']
def eGValue (x : GValue) : List AV := [.v (.int .i64 x.Kind), .v (.int .u64 x.Bits), .v (.string x.Text), .sl (List.map eGValue' x.List_) .no, .sl (List.map eGPair' x.Pairs) .no, .sl (List.map eGSlot' x.Slots) .no, .sl (List.map eGRaw x.Raws) .no]
def eGPair (x : (GValue × GValue)) : List AV := [.v (.int .i64 x.1.Kind), .v (.int .u64 x.1.Bits), .v (.string x.1.Text), .sl (List.map eGValue' x.1.List_) .no, .sl (List.map eGPair' x.1.Pairs) .no, .sl (List.map eGSlot' x.1.Slots) .no, .sl (List.map eGRaw x.1.Raws) .no, .v (.int .i64 x.2.Kind), .v (.int .u64 x.2.Bits), .v (.string x.2.Text), .sl (List.map eGValue' x.2.List_) .no, .sl (List.map eGPair' x.2.Pairs) .no, .sl (List.map eGSlot' x.2.Slots) .no, .sl (List.map eGRaw x.2.Raws) .no]
def eGSlot (x : (Int × GValue)) : List AV := [.v (.int .i64 x.1), .v (.int .i64 x.2.Kind), .v (.int .u64 x.2.Bits), .v (.string x.2.Text), .sl (List.map eGValue' x.2.List_) .no, .sl (List.map eGPair' x.2.Pairs) .no, .sl (List.map eGSlot' x.2.Slots) .no, .sl (List.map eGRaw x.2.Raws) .no]
theorem eGValue'_eq (x : GValue) : eGValue' x = eGValue x := by cases x; simp only [eGValue', eGValue, eGValue'L_map, eGPair'L_map, eGSlot'L_map]
theorem eGPair'_eq (x : (GValue × GValue)) : eGPair' x = eGPair x := by simp only [eGPair', eGPair, eGValue'_eq, eGValue, List.cons_append, List.nil_append]
theorem eGSlot'_eq (x : (Int × GValue)) : eGSlot' x = eGSlot x := by simp only [eGSlot', eGSlot, eGValue'_eq, eGValue, List.cons_append, List.nil_append]
mutual
theorem pl_GValue' : ∀ x, plainL (eGValue' x) = true
 | ⟨f0, f1, f2, f3, f4, f5, f6⟩ => by simp [eGValue', plainL, plain, pl_eGValue'L f3, pl_eGPair'L f4, pl_eGSlot'L f5, plm_I_i8, plm_I_i16, plm_I_i32, plm_I_i64, plm_I_u8, plm_I_u16, plm_I_u32, plm_I_u64, plm_Bool, plm_Str, gfn_fi, gfn_cap, plm_Fn, pl_GOp, plm_GOp, pl_GProg, plm_GProg, pl_GRaw, plm_GRaw]
theorem pl_eGValue'L : ∀ l, plainLL (eGValue'L l) = true
 | [] => rfl
 | x :: l => by simp [eGValue'L, plainLL, plainL, plain, plainL_append, pl_GValue' x, pl_eGValue'L l]
theorem pl_eGPair'L : ∀ l, plainLL (eGPair'L l) = true
 | [] => rfl
 | (z0, z1) :: l => by simp [eGPair'L, plainLL, plainL, plain, plainL_append, pl_GValue' z0, pl_GValue' z1, pl_eGPair'L l]
theorem pl_eGSlot'L : ∀ l, plainLL (eGSlot'L l) = true
 | [] => rfl
 | (z0, z1) :: l => by simp [eGSlot'L, plainLL, plainL, plain, plainL_append, pl_GValue' z1, pl_eGSlot'L l]
end
theorem plm_GValue (l : List GValue) : plainLL (l.map eGValue') = true := by rw [← eGValue'L_map]; exact pl_eGValue'L l
theorem pl_GValue (x : GValue) : plainL (eGValue x) = true := by have := plm_GValue [x]; simpa [plainLL, eGValue'_eq] using this
theorem plm_GPair (l : List (GValue × GValue)) : plainLL (l.map eGPair') = true := by rw [← eGPair'L_map]; exact pl_eGPair'L l
theorem pl_GPair (x : (GValue × GValue)) : plainL (eGPair x) = true := by have := plm_GPair [x]; simpa [plainLL, eGPair'_eq] using this
theorem plm_GSlot (l : List (Int × GValue)) : plainLL (l.map eGSlot') = true := by rw [← eGSlot'L_map]; exact pl_eGSlot'L l
theorem pl_GSlot (x : (Int × GValue)) : plainL (eGSlot x) = true := by have := plm_GSlot [x]; simpa [plainLL, eGSlot'_eq] using this
structure GNote where
 Name : ByteArray
 Val : GValue
def eGNote (x : GNote) : List AV := [.v (.string x.Name), .v (.int .i64 x.Val.Kind), .v (.int .u64 x.Val.Bits), .v (.string x.Val.Text), .sl (List.map eGValue' x.Val.List_) .no, .sl (List.map eGPair' x.Val.Pairs) .no, .sl (List.map eGSlot' x.Val.Slots) .no, .sl (List.map eGRaw x.Val.Raws) .no]
theorem pl_GNote (x : GNote) : plainL (eGNote x) = true := by simp [eGNote, plainL, plain, plm_I_i8, plm_I_i16, plm_I_i32, plm_I_i64, plm_I_u8, plm_I_u16, plm_I_u32, plm_I_u64, plm_Bool, plm_Str, gfn_fi, gfn_cap, plm_Fn, pl_GOp, plm_GOp, pl_GProg, plm_GProg, pl_GRaw, plm_GRaw, pl_GValue, plm_GValue, pl_GPair, plm_GPair, pl_GSlot, plm_GSlot]
theorem plm_GNote (l : List GNote) : plainLL (l.map eGNote) = true := plainLL_map _ _ fun x _ => pl_GNote x
structure GItem where
 Name : ByteArray
 Num : Int
 Notes : (List GNote)
def eGItem (x : GItem) : List AV := [.v (.string x.Name), .v (.int .i64 x.Num), .sl (List.map eGNote x.Notes) .no]
theorem pl_GItem (x : GItem) : plainL (eGItem x) = true := by simp [eGItem, plainL, plain, plm_I_i8, plm_I_i16, plm_I_i32, plm_I_i64, plm_I_u8, plm_I_u16, plm_I_u32, plm_I_u64, plm_Bool, plm_Str, gfn_fi, gfn_cap, plm_Fn, pl_GOp, plm_GOp, pl_GProg, plm_GProg, pl_GRaw, plm_GRaw, pl_GValue, plm_GValue, pl_GPair, plm_GPair, pl_GSlot, plm_GSlot, pl_GNote, plm_GNote]
theorem plm_GItem (l : List GItem) : plainLL (l.map eGItem) = true := plainLL_map _ _ fun x _ => pl_GItem x
structure GSpan where
 From : Int
 To : Int
def eGSpan (x : GSpan) : List AV := [.v (.int .i64 x.From), .v (.int .i64 x.To)]
theorem pl_GSpan (x : GSpan) : plainL (eGSpan x) = true := by simp [eGSpan, plainL, plain, plm_I_i8, plm_I_i16, plm_I_i32, plm_I_i64, plm_I_u8, plm_I_u16, plm_I_u32, plm_I_u64, plm_Bool, plm_Str, gfn_fi, gfn_cap, plm_Fn, pl_GOp, plm_GOp, pl_GProg, plm_GProg, pl_GRaw, plm_GRaw, pl_GValue, plm_GValue, pl_GPair, plm_GPair, pl_GSlot, plm_GSlot, pl_GNote, plm_GNote, pl_GItem, plm_GItem]
theorem plm_GSpan (l : List GSpan) : plainLL (l.map eGSpan) = true := plainLL_map _ _ fun x _ => pl_GSpan x
structure GEnum where
 Name : ByteArray
 Open : Bool
 Items : (List GItem)
 Reserved : (List GSpan)
 Notes : (List GNote)
def eGEnum (x : GEnum) : List AV := [.v (.string x.Name), .v (.bool x.Open), .sl (List.map eGItem x.Items) .no, .sl (List.map eGSpan x.Reserved) .no, .sl (List.map eGNote x.Notes) .no]
theorem pl_GEnum (x : GEnum) : plainL (eGEnum x) = true := by simp [eGEnum, plainL, plain, plm_I_i8, plm_I_i16, plm_I_i32, plm_I_i64, plm_I_u8, plm_I_u16, plm_I_u32, plm_I_u64, plm_Bool, plm_Str, gfn_fi, gfn_cap, plm_Fn, pl_GOp, plm_GOp, pl_GProg, plm_GProg, pl_GRaw, plm_GRaw, pl_GValue, plm_GValue, pl_GPair, plm_GPair, pl_GSlot, plm_GSlot, pl_GNote, plm_GNote, pl_GItem, plm_GItem, pl_GSpan, plm_GSpan]
theorem plm_GEnum (l : List GEnum) : plainLL (l.map eGEnum) = true := plainLL_map _ _ fun x _ => pl_GEnum x
structure GPlan where
 Progs : (List GProg)
 Enums : (List GEnum)
def eGPlan (x : GPlan) : List AV := [.sl (List.map eGProg x.Progs) .no, .sl (List.map eGEnum x.Enums) .no]
theorem pl_GPlan (x : GPlan) : plainL (eGPlan x) = true := by simp [eGPlan, plainL, plain, plm_I_i8, plm_I_i16, plm_I_i32, plm_I_i64, plm_I_u8, plm_I_u16, plm_I_u32, plm_I_u64, plm_Bool, plm_Str, gfn_fi, gfn_cap, plm_Fn, pl_GOp, plm_GOp, pl_GProg, plm_GProg, pl_GRaw, plm_GRaw, pl_GValue, plm_GValue, pl_GPair, plm_GPair, pl_GSlot, plm_GSlot, pl_GNote, plm_GNote, pl_GItem, plm_GItem, pl_GSpan, plm_GSpan, pl_GEnum, plm_GEnum]
theorem plm_GPlan (l : List GPlan) : plainLL (l.map eGPlan) = true := plainLL_map _ _ fun x _ => pl_GPlan x
structure GS26 where
 a0 : Int
 a1 : Int
def eGS26 (x : GS26) : List AV := [.v (.int .i64 x.a0), .v (.int .i64 x.a1)]
theorem pl_GS26 (x : GS26) : plainL (eGS26 x) = true := by simp [eGS26, plainL, plain, plm_I_i8, plm_I_i16, plm_I_i32, plm_I_i64, plm_I_u8, plm_I_u16, plm_I_u32, plm_I_u64, plm_Bool, plm_Str, gfn_fi, gfn_cap, plm_Fn, pl_GOp, plm_GOp, pl_GProg, plm_GProg, pl_GRaw, plm_GRaw, pl_GValue, plm_GValue, pl_GPair, plm_GPair, pl_GSlot, plm_GSlot, pl_GNote, plm_GNote, pl_GItem, plm_GItem, pl_GSpan, plm_GSpan, pl_GEnum, plm_GEnum, pl_GPlan, plm_GPlan]
theorem plm_GS26 (l : List GS26) : plainLL (l.map eGS26) = true := plainLL_map _ _ fun x _ => pl_GS26 x
structure GCursor where
 Data : ByteArray
 At : Int
 End : Int
 Depth : Int
 Nodes : Int
 Text : Int
def eGCursor (x : GCursor) : List AV := [.v (.string x.Data), .v (.int .i64 x.At), .v (.int .i64 x.End), .v (.int .i64 x.Depth), .v (.int .i64 x.Nodes), .v (.int .i64 x.Text)]
theorem pl_GCursor (x : GCursor) : plainL (eGCursor x) = true := by simp [eGCursor, plainL, plain, plm_I_i8, plm_I_i16, plm_I_i32, plm_I_i64, plm_I_u8, plm_I_u16, plm_I_u32, plm_I_u64, plm_Bool, plm_Str, gfn_fi, gfn_cap, plm_Fn, pl_GOp, plm_GOp, pl_GProg, plm_GProg, pl_GRaw, plm_GRaw, pl_GValue, plm_GValue, pl_GPair, plm_GPair, pl_GSlot, plm_GSlot, pl_GNote, plm_GNote, pl_GItem, plm_GItem, pl_GSpan, plm_GSpan, pl_GEnum, plm_GEnum, pl_GPlan, plm_GPlan, pl_GS26, plm_GS26]
theorem plm_GCursor (l : List GCursor) : plainLL (l.map eGCursor) = true := plainLL_map _ _ fun x _ => pl_GCursor x
structure GLimits where
 Bytes : Int
 Depth : Int
 Nodes : Int
 Text : Int
def eGLimits (x : GLimits) : List AV := [.v (.int .i64 x.Bytes), .v (.int .i64 x.Depth), .v (.int .i64 x.Nodes), .v (.int .i64 x.Text)]
theorem pl_GLimits (x : GLimits) : plainL (eGLimits x) = true := by simp [eGLimits, plainL, plain, plm_I_i8, plm_I_i16, plm_I_i32, plm_I_i64, plm_I_u8, plm_I_u16, plm_I_u32, plm_I_u64, plm_Bool, plm_Str, gfn_fi, gfn_cap, plm_Fn, pl_GOp, plm_GOp, pl_GProg, plm_GProg, pl_GRaw, plm_GRaw, pl_GValue, plm_GValue, pl_GPair, plm_GPair, pl_GSlot, plm_GSlot, pl_GNote, plm_GNote, pl_GItem, plm_GItem, pl_GSpan, plm_GSpan, pl_GEnum, plm_GEnum, pl_GPlan, plm_GPlan, pl_GS26, plm_GS26, pl_GCursor, plm_GCursor]
theorem lwc_GValue (m : List Bool) (n : Nat) (x : GValue) : lowL m n (eGValue x) = true := lowL_plain _ _ _ (pl_GValue x)
theorem lwc_GEnum (m : List Bool) (n : Nat) (x : GEnum) : lowL m n (eGEnum x) = true := lowL_plain _ _ _ (pl_GEnum x)
theorem lwc_GPlan (m : List Bool) (n : Nat) (x : GPlan) : lowL m n (eGPlan x) = true := lowL_plain _ _ _ (pl_GPlan x)
theorem lwc_GCursor (m : List Bool) (n : Nat) (x : GCursor) : lowL m n (eGCursor x) = true := lowL_plain _ _ _ (pl_GCursor x)
theorem lwm_I_u8 (m : List Bool) (n : Nat) (l : List Int) : lowLL m n (l.map eI_u8) = true := lowLL_plain _ _ _ (plm_I_u8 l)
theorem lwm_GEnum (m : List Bool) (n : Nat) (l : List GEnum) : lowLL m n (l.map eGEnum) = true := lowLL_plain _ _ _ (plm_GEnum l)
theorem lwr_Bool (m : List Bool) (n : Nat) (l : List Bool) : lowL m n (cellsOf eBool l) = true := lowL_plain _ _ _ (plainL_cellsOf _ (plm_Bool l))
def e3 (r : Bool) : AV := .v (.bool r)
def law28_RowScalars (p : GPlan) (q : GS26) (c : GCursor) (v : GValue) (r : Bool) : Prop := PureN Tryz.prog [] 3 [.agg (eGPlan p), .agg (eGS26 q), .agg (eGCursor c), .agg (eGValue v)] (e3 r)
def e4 (r : Bool) : AV := .v (.bool r)
def e5 (r : Bool) : AV := .v (.bool r)
def e6 (r : Bool) : AV := .v (.bool r)
def e9 (r : Bool) : AV := .v (.bool r)
def law28_usable (p : GPlan) (r : Bool) : Prop := PureN Tryz.prog [] 9 [.agg (eGPlan p)] (e9 r)
def e10 (r : (GValue × GCursor × Int)) : AV := .tuple [.agg (eGValue r.1), .agg (eGCursor r.2.1), .v (.int .i64 r.2.2)]
def row_Scalar (p : GPlan) (o_ : GOp) (c : GCursor) (r : (GValue × GCursor × Int)) : Prop := PureN Tryz.prog [] 10 [.agg (eGPlan p), .agg (eGOp o_), .agg (eGCursor c)] (e10 r)
def e11 (r : (GValue × GCursor × Int)) : AV := .tuple [.agg (eGValue r.1), .agg (eGCursor r.2.1), .v (.int .i64 r.2.2)]
def ref28_Scalar (p : GPlan) (o_ : GOp) (c : GCursor) (r : (GValue × GCursor × Int)) : Prop := PureN Tryz.prog [] 11 [.agg (eGPlan p), .agg (eGOp o_), .agg (eGCursor c)] (e11 r)
def e12 (r : ByteArray) : AV := .v (.string r)
def row_Put (v : GValue) (r : ByteArray) : Prop := PureN Tryz.prog [] 12 [.agg (eGValue v)] (e12 r)
def e13 (r : Bool) : AV := .v (.bool r)
def law28_same (a : GValue) (b : GValue) (r : Bool) : Prop := PureN Tryz.prog [] 13 [.agg (eGValue a), .agg (eGValue b)] (e13 r)
def e14 (r : ByteArray) : AV := .v (.string r)
def ref28_Put (v : GValue) (r : ByteArray) : Prop := PureN Tryz.prog [] 14 [.agg (eGValue v)] (e14 r)
def e15 (r : Bool) : AV := .v (.bool r)
def law28_awake  (r : Bool) : Prop := PureN Tryz.prog [] 15 [] (e15 r)
def e16 (r : (GCursor × Int)) : AV := .tuple [.agg (eGCursor r.1), .v (.int .i64 r.2)]
def ref02_Open (data : ByteArray) (l : GLimits) (r : (GCursor × Int)) : Prop := PureN Tryz.prog [] 16 [.v (.string data), .agg (eGLimits l)] (e16 r)
def e23 (r : Int) : AV := .v (.int .i64 r)
def e30 (r : Int) : AV := .v (.int .i64 r)
def ref22_Check (p : GPlan) (r : Int) : Prop := PureN Tryz.prog [] 30 [.agg (eGPlan p)] (e30 r)
def e31 (r : (Int × GCursor × Int)) : AV := .tuple [.v (.int .u8 r.1), .agg (eGCursor r.2.1), .v (.int .i64 r.2.2)]
def cursor_Byte (c : GCursor) (r : (Int × GCursor × Int)) : Prop := PureN Tryz.prog [] 31 [.agg (eGCursor c)] (e31 r)
def e32 (r : (GValue × GCursor × Int)) : AV := .tuple [.agg (eGValue r.1), .agg (eGCursor r.2.1), .v (.int .i64 r.2.2)]
def row_double (c : GCursor) (r : (GValue × GCursor × Int)) : Prop := PureN Tryz.prog [] 32 [.agg (eGCursor c)] (e32 r)
def e33 (r : (GValue × GCursor × Int)) : AV := .tuple [.agg (eGValue r.1), .agg (eGCursor r.2.1), .v (.int .i64 r.2.2)]
def row_text (kind : Int) (c : GCursor) (r : (GValue × GCursor × Int)) : Prop := PureN Tryz.prog [] 33 [.v (.int .i64 kind), .agg (eGCursor c)] (e33 r)
def e34 (r : (Int × GCursor × Int)) : AV := .tuple [.v (.int .u64 r.1), .agg (eGCursor r.2.1), .v (.int .i64 r.2.2)]
def row_number (c : GCursor) (r : (Int × GCursor × Int)) : Prop := PureN Tryz.prog [] 34 [.agg (eGCursor c)] (e34 r)
def e35 (r : Int) : AV := .v (.int .i64 r)
def varint_Zag (u : Int) (r : Int) : Prop := PureN Tryz.prog [] 35 [.v (.int .u64 u)] (e35 r)
def e36 (r : Bool) : AV := .v (.bool r)
def scalar_Fits (kind : Int) (v : GValue) (r : Bool) : Prop := PureN Tryz.prog [] 36 [.v (.int .i64 kind), .agg (eGValue v)] (e36 r)
def e37 (r : Bool) : AV := .v (.bool r)
def plan_Accepts (p : GPlan) (enum : Int) (num : Int) (r : Bool) : Prop := PureN Tryz.prog [] 37 [.agg (eGPlan p), .v (.int .i64 enum), .v (.int .u64 num)] (e37 r)
def e38 (r : (GValue × GCursor × Int)) : AV := .tuple [.agg (eGValue r.1), .agg (eGCursor r.2.1), .v (.int .i64 r.2.2)]
def ref28_text (kind : Int) (c : GCursor) (r : (GValue × GCursor × Int)) : Prop := PureN Tryz.prog [] 38 [.v (.int .i64 kind), .agg (eGCursor c)] (e38 r)
def e39 (r : (Int × GCursor × Int)) : AV := .tuple [.v (.int .u8 r.1), .agg (eGCursor r.2.1), .v (.int .i64 r.2.2)]
def ref02_Byte (c : GCursor) (r : (Int × GCursor × Int)) : Prop := PureN Tryz.prog [] 39 [.agg (eGCursor c)] (e39 r)
def e40 (r : (Int × GCursor × Int)) : AV := .tuple [.v (.int .u64 r.1), .agg (eGCursor r.2.1), .v (.int .i64 r.2.2)]
def ref02_Fixed (c : GCursor) (r : (Int × GCursor × Int)) : Prop := PureN Tryz.prog [] 40 [.agg (eGCursor c)] (e40 r)
def e41 (r : GValue) : AV := .agg (eGValue r)
def ref04_Norm (v : GValue) (r : GValue) : Prop := PureN Tryz.prog [] 41 [.agg (eGValue v)] (e41 r)
def e42 (r : Bool) : AV := .v (.bool r)
def ref04_Is (kind : Int) (r : Bool) : Prop := PureN Tryz.prog [] 42 [.v (.int .i64 kind)] (e42 r)
def e43 (r : (Int × GCursor × Int)) : AV := .tuple [.v (.int .u64 r.1), .agg (eGCursor r.2.1), .v (.int .i64 r.2.2)]
def ref28_number (c : GCursor) (r : (Int × GCursor × Int)) : Prop := PureN Tryz.prog [] 43 [.agg (eGCursor c)] (e43 r)
def e44 (r : Int) : AV := .v (.int .i64 r)
def ref01_Zag (u : Int) (r : Int) : Prop := PureN Tryz.prog [] 44 [.v (.int .u64 u)] (e44 r)
def e45 (r : Bool) : AV := .v (.bool r)
def ref04_Fits (kind : Int) (v : GValue) (r : Bool) : Prop := PureN Tryz.prog [] 45 [.v (.int .i64 kind), .agg (eGValue v)] (e45 r)
def e46 (r : Bool) : AV := .v (.bool r)
def ref22_Accepts (p : GPlan) (enum : Int) (num : Int) (r : Bool) : Prop := PureN Tryz.prog [] 46 [.agg (eGPlan p), .v (.int .i64 enum), .v (.int .u64 num)] (e46 r)
def e47 (r : ByteArray) : AV := .v (.string r)
def varint_Put (u : Int) (r : ByteArray) : Prop := PureN Tryz.prog [] 47 [.v (.int .u64 u)] (e47 r)
def e48 (r : Int) : AV := .v (.int .u64 r)
def varint_Zig (n : Int) (r : Int) : Prop := PureN Tryz.prog [] 48 [.v (.int .i64 n)] (e48 r)
def e49 (r : ByteArray) : AV := .v (.string r)
def varint_Fixed (u : Int) (r : ByteArray) : Prop := PureN Tryz.prog [] 49 [.v (.int .u64 u)] (e49 r)
def e50 (r : GValue) : AV := .agg (eGValue r)
def scalar_Norm (v : GValue) (r : GValue) : Prop := PureN Tryz.prog [] 50 [.agg (eGValue v)] (e50 r)
def e51 (r : Bool) : AV := .v (.bool r)
def ref16_Equal (a : GValue) (b : GValue) (r : Bool) : Prop := PureN Tryz.prog [] 51 [.agg (eGValue a), .agg (eGValue b)] (e51 r)
def e52 (r : ByteArray) : AV := .v (.string r)
def ref01_Put (u : Int) (r : ByteArray) : Prop := PureN Tryz.prog [] 52 [.v (.int .u64 u)] (e52 r)
def e53 (r : Int) : AV := .v (.int .u64 r)
def ref01_Zig (n : Int) (r : Int) : Prop := PureN Tryz.prog [] 53 [.v (.int .i64 n)] (e53 r)
def e54 (r : ByteArray) : AV := .v (.string r)
def ref01_Fixed (u : Int) (r : ByteArray) : Prop := PureN Tryz.prog [] 54 [.v (.int .u64 u)] (e54 r)
def e62 (r : Int) : AV := .v (.int .i64 r)
def cursor_Left (c : GCursor) (r : Int) : Prop := PureN Tryz.prog [] 62 [.agg (eGCursor c)] (e62 r)
def e69 (r : Bool) : AV := .v (.bool r)
def ref22_limits (p : GPlan) (r : Bool) : Prop := PureN Tryz.prog [] 69 [.agg (eGPlan p)] (e69 r)
def e70 (r : Bool) : AV := .v (.bool r)
def ref22_names (p : GPlan) (r : Bool) : Prop := PureN Tryz.prog [] 70 [.agg (eGPlan p)] (e70 r)
def e71 (r : Bool) : AV := .v (.bool r)
def ref22_ordered (p : GPlan) (r : Bool) : Prop := PureN Tryz.prog [] 71 [.agg (eGPlan p)] (e71 r)
def e72 (r : Bool) : AV := .v (.bool r)
def ref22_single (p : GPlan) (r : Bool) : Prop := PureN Tryz.prog [] 72 [.agg (eGPlan p)] (e72 r)
def e73 (r : Bool) : AV := .v (.bool r)
def ref22_ranges (p : GPlan) (r : Bool) : Prop := PureN Tryz.prog [] 73 [.agg (eGPlan p)] (e73 r)
def e74 (r : Bool) : AV := .v (.bool r)
def ref22_arguments (p : GPlan) (r : Bool) : Prop := PureN Tryz.prog [] 74 [.agg (eGPlan p)] (e74 r)
def e75 (r : Bool) : AV := .v (.bool r)
def ref22_finite (p : GPlan) (r : Bool) : Prop := PureN Tryz.prog [] 75 [.agg (eGPlan p)] (e75 r)
def e76 (r : GCursor) : AV := .agg (eGCursor r)
def cursor_ahead (c : GCursor) (n : Int) (r : GCursor) : Prop := PureN Tryz.prog [] 76 [.agg (eGCursor c), .v (.int .i64 n)] (e76 r)
def e77 (r : (Int × GCursor × Int)) : AV := .tuple [.v (.int .u64 r.1), .agg (eGCursor r.2.1), .v (.int .i64 r.2.2)]
def cursor_Fixed (c : GCursor) (r : (Int × GCursor × Int)) : Prop := PureN Tryz.prog [] 77 [.agg (eGCursor c)] (e77 r)
def e78 (r : (ByteArray × GCursor × Int)) : AV := .tuple [.v (.string r.1), .agg (eGCursor r.2.1), .v (.int .i64 r.2.2)]
def cursor_Text (c : GCursor) (n : Int) (r : (ByteArray × GCursor × Int)) : Prop := PureN Tryz.prog [] 78 [.agg (eGCursor c), .v (.int .i64 n)] (e78 r)
def e79 (r : Bool) : AV := .v (.bool r)
def utf_Valid (s : ByteArray) (r : Bool) : Prop := PureN Tryz.prog [] 79 [.v (.string s)] (e79 r)
def e80 (r : (Int × GCursor × Int)) : AV := .tuple [.v (.int .u64 r.1), .agg (eGCursor r.2.1), .v (.int .i64 r.2.2)]
def cursor_Varint (c : GCursor) (r : (Int × GCursor × Int)) : Prop := PureN Tryz.prog [] 80 [.agg (eGCursor c)] (e80 r)
def e81 (r : Int) : AV := .v (.int .i64 r)
def varint_Len (u : Int) (r : Int) : Prop := PureN Tryz.prog [] 81 [.v (.int .u64 u)] (e81 r)
def e82 (r : Bool) : AV := .v (.bool r)
def scalar_Is (kind : Int) (r : Bool) : Prop := PureN Tryz.prog [] 82 [.v (.int .i64 kind)] (e82 r)
def e83 (r : Bool) : AV := .v (.bool r)
def scalar_lean (v : GValue) (r : Bool) : Prop := PureN Tryz.prog [] 83 [.agg (eGValue v)] (e83 r)
def e84 (r : Bool) : AV := .v (.bool r)
def scalar_within (kind : Int) (bits : Int) (r : Bool) : Prop := PureN Tryz.prog [] 84 [.v (.int .i64 kind), .v (.int .u64 bits)] (e84 r)
def e85 (r : Bool) : AV := .v (.bool r)
def slices_ContainsFunc_g85 (s : (List GItem)) (f : GFn) (r : Bool) : Prop := PureN Tryz.prog [] 85 [.sl (List.map eGItem s) .no, .clo (.func f.fn) f.fi f.cap] (e85 r)
def e86 (r : Bool) : AV := .v (.bool r)
def plan_Accepts_1 (it : GItem) (c1_ : Int) (r : Bool) : Prop := PureN Tryz.prog [] 86 [.agg (eGItem it), .elt (eI_u64 c1_) 0] (e86 r)
def e87 (r : Int) : AV := .v (.int .i64 r)
def ref02_Left (c : GCursor) (r : Int) : Prop := PureN Tryz.prog [] 87 [.agg (eGCursor c)] (e87 r)
def e88 (r : (ByteArray × GCursor × Int)) : AV := .tuple [.v (.string r.1), .agg (eGCursor r.2.1), .v (.int .i64 r.2.2)]
def ref02_Text (c : GCursor) (n : Int) (r : (ByteArray × GCursor × Int)) : Prop := PureN Tryz.prog [] 88 [.agg (eGCursor c), .v (.int .i64 n)] (e88 r)
def e89 (r : Bool) : AV := .v (.bool r)
def ref03_Valid (s : ByteArray) (r : Bool) : Prop := PureN Tryz.prog [] 89 [.v (.string s)] (e89 r)
def e90 (r : ByteArray) : AV := .v (.string r)
def ref02_rest (c : GCursor) (r : ByteArray) : Prop := PureN Tryz.prog [] 90 [.agg (eGCursor c)] (e90 r)
def e91 (r : GCursor) : AV := .agg (eGCursor r)
def ref02_behind (c : GCursor) (n : Int) (r : GCursor) : Prop := PureN Tryz.prog [] 91 [.agg (eGCursor c), .v (.int .i64 n)] (e91 r)
def e92 (r : Int) : AV := .v (.int .i64 r)
def ref04_Class (bits : Int) (r : Int) : Prop := PureN Tryz.prog [] 92 [.v (.int .u64 bits)] (e92 r)
def e93 (r : (Int × GCursor × Int)) : AV := .tuple [.v (.int .u64 r.1), .agg (eGCursor r.2.1), .v (.int .i64 r.2.2)]
def ref02_Varint (c : GCursor) (r : (Int × GCursor × Int)) : Prop := PureN Tryz.prog [] 93 [.agg (eGCursor c)] (e93 r)
def e94 (r : Int) : AV := .v (.int .i64 r)
def ref01_Len (u : Int) (r : Int) : Prop := PureN Tryz.prog [] 94 [.v (.int .u64 u)] (e94 r)
def e95 (r : Bool) : AV := .v (.bool r)
def ref04_lone (v : GValue) (r : Bool) : Prop := PureN Tryz.prog [] 95 [.agg (eGValue v)] (e95 r)
def e96 (r : Bool) : AV := .v (.bool r)
def ref04_texts (kind : Int) (r : Bool) : Prop := PureN Tryz.prog [] 96 [.v (.int .i64 kind)] (e96 r)
def e97 (r : Int) : AV := .v (.int .i64 r)
def scalar_Class (bits : Int) (r : Int) : Prop := PureN Tryz.prog [] 97 [.v (.int .u64 bits)] (e97 r)
def e98 (r : Int) : AV := .v (.int .i64 r)
def ref16_Cmp (a : GValue) (b : GValue) (r : Int) : Prop := PureN Tryz.prog [] 98 [.agg (eGValue a), .agg (eGValue b)] (e98 r)
def e118 (r : Bool) : AV := .v (.bool r)
def cursor_Sound (c : GCursor) (r : Bool) : Prop := PureN Tryz.prog [] 118 [.agg (eGCursor c)] (e118 r)
def e130 (r : Bool) : AV := .v (.bool r)
def ref22_defined (s : ByteArray) (r : Bool) : Prop := PureN Tryz.prog [] 130 [.v (.string s)] (e130 r)
def e131 (r : Bool) : AV := .v (.bool r)
def ref22_simple (s : ByteArray) (r : Bool) : Prop := PureN Tryz.prog [] 131 [.v (.string s)] (e131 r)
def e132 (r : Bool) : AV := .v (.bool r)
def ref12_Reserved (l : (List GSpan)) (n : Int) (r : Bool) : Prop := PureN Tryz.prog [] 132 [.sl (List.map eGSpan l) .no, .v (.int .i64 n)] (e132 r)
def e133 (r : Int) : AV := .v (.int .i64 r)
def ref08_Check (l : (List GNote)) (target : Int) (r : Int) : Prop := PureN Tryz.prog [] 133 [.sl (List.map eGNote l) .no, .v (.int .i64 target)] (e133 r)
def e134 (r : Bool) : AV := .v (.bool r)
def ref22_joined (g : GProg) (r : Bool) : Prop := PureN Tryz.prog [] 134 [.agg (eGProg g)] (e134 r)
def e135 (r : Bool) : AV := .v (.bool r)
def ref22_operation (p : GPlan) (o_ : GOp) (r : Bool) : Prop := PureN Tryz.prog [] 135 [.agg (eGPlan p), .agg (eGOp o_)] (e135 r)
def e136 (r : (Int × Int)) : AV := .tuple [.v (.int .u64 r.1), .v (.int .i64 r.2)]
def varint_TakeFixed (s : ByteArray) (r : (Int × Int)) : Prop := PureN Tryz.prog [] 136 [.v (.string s)] (e136 r)
def e137 (r : ByteArray) : AV := .v (.string r)
def cursor_head (c : GCursor) (n : Int) (r : ByteArray) : Prop := PureN Tryz.prog [] 137 [.agg (eGCursor c), .v (.int .i64 n)] (e137 r)
def e138 (r : (List Int)) : AV := .sl (List.map eI_u8 r) .no
def cursor_piece (c : GCursor) (n : Int) (r : (List Int)) : Prop := PureN Tryz.prog [] 138 [.agg (eGCursor c), .v (.int .i64 n)] (e138 r)
def e139 (r : Int) : AV := .v (.int .i64 r)
def utf_Bad (s : ByteArray) (r : Int) : Prop := PureN Tryz.prog [] 139 [.v (.string s)] (e139 r)
def e140 (r : (Int × Int × Int)) : AV := .tuple [.v (.int .u64 r.1), .v (.int .i64 r.2.1), .v (.int .i64 r.2.2)]
def varint_Take (s : ByteArray) (r : (Int × Int × Int)) : Prop := PureN Tryz.prog [] 140 [.v (.string s)] (e140 r)
def e141 (r : Bool) : AV := .v (.bool r)
def scalar_texty (kind : Int) (r : Bool) : Prop := PureN Tryz.prog [] 141 [.v (.int .i64 kind)] (e141 r)
def e142 (r : Int) : AV := .v (.int .i64 r)
def slices_IndexFunc_g142 (s : (List GItem)) (f : GFn) (r : Int) : Prop := PureN Tryz.prog [] 142 [.sl (List.map eGItem s) .no, .clo (.func f.fn) f.fi f.cap] (e142 r)
def e143 (r : Int) : AV := .v (.int .i64 r)
def ref03_Bad (s : ByteArray) (r : Int) : Prop := PureN Tryz.prog [] 143 [.v (.string s)] (e143 r)
def e144 (r : Bool) : AV := .v (.bool r)
def ref02_Sound (c : GCursor) (r : Bool) : Prop := PureN Tryz.prog [] 144 [.agg (eGCursor c)] (e144 r)
def e145 (r : (Int × Int × Int)) : AV := .tuple [.v (.int .u64 r.1), .v (.int .i64 r.2.1), .v (.int .i64 r.2.2)]
def ref01_Take (s : ByteArray) (r : (Int × Int × Int)) : Prop := PureN Tryz.prog [] 145 [.v (.string s)] (e145 r)
def e146 (r : Int) : AV := .v (.int .i64 r)
def ref16_number (a : Int) (b : Int) (r : Int) : Prop := PureN Tryz.prog [] 146 [.v (.int .i64 a), .v (.int .i64 b)] (e146 r)
def e147 (r : Int) : AV := .v (.int .i64 r)
def ref16_lists (a : (List GValue)) (b : (List GValue)) (r : Int) : Prop := PureN Tryz.prog [] 147 [.sl (List.map eGValue' a) .no, .sl (List.map eGValue' b) .no] (e147 r)
def e148 (r : Int) : AV := .v (.int .i64 r)
def ref16_pairs (a : (List (GValue × GValue))) (b : (List (GValue × GValue))) (r : Int) : Prop := PureN Tryz.prog [] 148 [.sl (List.map eGPair' a) .no, .sl (List.map eGPair' b) .no] (e148 r)
def e149 (r : Int) : AV := .v (.int .i64 r)
def ref16_slots (a : (List (Int × GValue))) (b : (List (Int × GValue))) (r : Int) : Prop := PureN Tryz.prog [] 149 [.sl (List.map eGSlot' a) .no, .sl (List.map eGSlot' b) .no] (e149 r)
def e150 (r : Int) : AV := .v (.int .i64 r)
def ref16_raws (a : (List GRaw)) (b : (List GRaw)) (r : Int) : Prop := PureN Tryz.prog [] 150 [.sl (List.map eGRaw a) .no, .sl (List.map eGRaw b) .no] (e150 r)
def e151 (r : Int) : AV := .v (.int .i64 r)
def ref04_Cmp (a : GValue) (b : GValue) (r : Int) : Prop := PureN Tryz.prog [] 151 [.agg (eGValue a), .agg (eGValue b)] (e151 r)
def e173 (r : Bool) : AV := .v (.bool r)
def ref06_IsFull (s : ByteArray) (r : Bool) : Prop := PureN Tryz.prog [] 173 [.v (.string s)] (e173 r)
def e174 (r : (ByteArray × ByteArray)) : AV := .tuple [.v (.string r.1), .v (.string r.2)]
def ref06_Split (full : ByteArray) (r : (ByteArray × ByteArray)) : Prop := PureN Tryz.prog [] 174 [.v (.string full)] (e174 r)
def e175 (r : Bool) : AV := .v (.bool r)
def ref06_IsWord (s : ByteArray) (r : Bool) : Prop := PureN Tryz.prog [] 175 [.v (.string s)] (e175 r)
def e176 (r : Bool) : AV := .v (.bool r)
def ref06_IsPart (s : ByteArray) (r : Bool) : Prop := PureN Tryz.prog [] 176 [.v (.string s)] (e176 r)
def e177 (r : Int) : AV := .v (.int .i64 r)
def ref08_Kind (name : ByteArray) (r : Int) : Prop := PureN Tryz.prog [] 177 [.v (.string name)] (e177 r)
def e178 (r : Bool) : AV := .v (.bool r)
def ref08_fits (name : ByteArray) (target : Int) (r : Bool) : Prop := PureN Tryz.prog [] 178 [.v (.string name), .v (.int .i64 target)] (e178 r)
def e179 (r : Bool) : AV := .v (.bool r)
def ref08_Right (n : GNote) (r : Bool) : Prop := PureN Tryz.prog [] 179 [.agg (eGNote n)] (e179 r)
def e180 (r : Bool) : AV := .v (.bool r)
def ref22_target (p : GPlan) (o_ : GOp) (r : Bool) : Prop := PureN Tryz.prog [] 180 [.agg (eGPlan p), .agg (eGOp o_)] (e180 r)
def e181 (r : Bool) : AV := .v (.bool r)
def utf_wrong (s : ByteArray) (at_ : Int) (c : Int) (r : Bool) : Prop := PureN Tryz.prog [] 181 [.v (.string s), .v (.int .i64 at_), .v (.int .i32 c)] (e181 r)
def e182 (r : Int) : AV := .v (.int .i64 r)
def ref03_Size (s : ByteArray) (i : Int) (r : Int) : Prop := PureN Tryz.prog [] 182 [.v (.string s), .v (.int .i64 i)] (e182 r)
def e184 (r : Int) : AV := .v (.int .u64 r)
def ref04_rank (v : GValue) (r : Int) : Prop := PureN Tryz.prog [] 184 [.agg (eGValue v)] (e184 r)
def e208 (r : Bool) : AV := .v (.bool r)
def ref06_small (b : Int) (r : Bool) : Prop := PureN Tryz.prog [] 208 [.v (.int .u8 b)] (e208 r)
def e209 (r : Bool) : AV := .v (.bool r)
def ref06_capital (b : Int) (r : Bool) : Prop := PureN Tryz.prog [] 209 [.v (.int .u8 b)] (e209 r)
def e210 (r : Bool) : AV := .v (.bool r)
def strings_HasPrefix (s : ByteArray) (prefix_ : ByteArray) (r : Bool) : Prop := PureN Tryz.prog [] 210 [.v (.string s), .v (.string prefix_)] (e210 r)
def e211 (r : Bool) : AV := .v (.bool r)
def ref03_tail (s : ByteArray) (i : Int) (n : Int) (r : Bool) : Prop := PureN Tryz.prog [] 211 [.v (.string s), .v (.int .i64 i), .v (.int .i64 n)] (e211 r)
def e212 (r : Bool) : AV := .v (.bool r)
def ref03_between (s : ByteArray) (i : Int) (lo : Int) (hi : Int) (r : Bool) : Prop := PureN Tryz.prog [] 212 [.v (.string s), .v (.int .i64 i), .v (.int .u8 lo), .v (.int .u8 hi)] (e212 r)
def e213 (r : Bool) : AV := .v (.bool r)
def ref04_signed (kind : Int) (r : Bool) : Prop := PureN Tryz.prog [] 213 [.v (.int .i64 kind)] (e213 r)
def e223 (r : Bool) : AV := .v (.bool r)
def internal_stringslite_HasPrefix (s : ByteArray) (prefix_ : ByteArray) (r : Bool) : Prop := PureN Tryz.prog [] 223 [.v (.string s), .v (.string prefix_)] (e223 r)
theorem pl9 {x0 : GPlan} : plainL [.agg (eGPlan x0)] = true := (pcons (pl_GPlan x0) rfl)
theorem pl10 {x0 : GPlan} {x1 : GOp} {x2 : GCursor} : plainL [.agg (eGPlan x0), .agg (eGOp x1), .agg (eGCursor x2)] = true := (pcons (pl_GPlan x0) (pcons (pl_GOp x1) (pcons (pl_GCursor x2) rfl)))
theorem pl11 {x0 : GPlan} {x1 : GOp} {x2 : GCursor} : plainL [.agg (eGPlan x0), .agg (eGOp x1), .agg (eGCursor x2)] = true := (pcons (pl_GPlan x0) (pcons (pl_GOp x1) (pcons (pl_GCursor x2) rfl)))
theorem pl12 {x0 : GValue} : plainL [.agg (eGValue x0)] = true := (pcons (pl_GValue x0) rfl)
theorem pl13 {x0 : GValue} {x1 : GValue} : plainL [.agg (eGValue x0), .agg (eGValue x1)] = true := (pcons (pl_GValue x0) (pcons (pl_GValue x1) rfl))
theorem pl14 {x0 : GValue} : plainL [.agg (eGValue x0)] = true := (pcons (pl_GValue x0) rfl)
theorem pl15  : plainL [] = true := rfl
theorem pl16 {x0 : ByteArray} {x1 : GLimits} : plainL [.v (.string x0), .agg (eGLimits x1)] = true := (pcons rfl (pcons (pl_GLimits x1) rfl))
theorem pl30 {x0 : GPlan} : plainL [.agg (eGPlan x0)] = true := (pcons (pl_GPlan x0) rfl)
theorem pl31 {x0 : GCursor} : plainL [.agg (eGCursor x0)] = true := (pcons (pl_GCursor x0) rfl)
theorem pl32 {x0 : GCursor} : plainL [.agg (eGCursor x0)] = true := (pcons (pl_GCursor x0) rfl)
theorem pl33 {x0 : Int} {x1 : GCursor} : plainL [.v (.int .i64 x0), .agg (eGCursor x1)] = true := (pcons rfl (pcons (pl_GCursor x1) rfl))
theorem pl34 {x0 : GCursor} : plainL [.agg (eGCursor x0)] = true := (pcons (pl_GCursor x0) rfl)
theorem pl35 {x0 : Int} : plainL [.v (.int .u64 x0)] = true := (pcons rfl rfl)
theorem pl36 {x0 : Int} {x1 : GValue} : plainL [.v (.int .i64 x0), .agg (eGValue x1)] = true := (pcons rfl (pcons (pl_GValue x1) rfl))
theorem pl37 {x0 : GPlan} {x1 : Int} {x2 : Int} : plainL [.agg (eGPlan x0), .v (.int .i64 x1), .v (.int .u64 x2)] = true := (pcons (pl_GPlan x0) (pcons rfl (pcons rfl rfl)))
theorem pl38 {x0 : Int} {x1 : GCursor} : plainL [.v (.int .i64 x0), .agg (eGCursor x1)] = true := (pcons rfl (pcons (pl_GCursor x1) rfl))
theorem pl39 {x0 : GCursor} : plainL [.agg (eGCursor x0)] = true := (pcons (pl_GCursor x0) rfl)
theorem pl40 {x0 : GCursor} : plainL [.agg (eGCursor x0)] = true := (pcons (pl_GCursor x0) rfl)
theorem pl41 {x0 : GValue} : plainL [.agg (eGValue x0)] = true := (pcons (pl_GValue x0) rfl)
theorem pl42 {x0 : Int} : plainL [.v (.int .i64 x0)] = true := (pcons rfl rfl)
theorem pl43 {x0 : GCursor} : plainL [.agg (eGCursor x0)] = true := (pcons (pl_GCursor x0) rfl)
theorem pl44 {x0 : Int} : plainL [.v (.int .u64 x0)] = true := (pcons rfl rfl)
theorem pl45 {x0 : Int} {x1 : GValue} : plainL [.v (.int .i64 x0), .agg (eGValue x1)] = true := (pcons rfl (pcons (pl_GValue x1) rfl))
theorem pl46 {x0 : GPlan} {x1 : Int} {x2 : Int} : plainL [.agg (eGPlan x0), .v (.int .i64 x1), .v (.int .u64 x2)] = true := (pcons (pl_GPlan x0) (pcons rfl (pcons rfl rfl)))
theorem pl47 {x0 : Int} : plainL [.v (.int .u64 x0)] = true := (pcons rfl rfl)
theorem pl48 {x0 : Int} : plainL [.v (.int .i64 x0)] = true := (pcons rfl rfl)
theorem pl49 {x0 : Int} : plainL [.v (.int .u64 x0)] = true := (pcons rfl rfl)
theorem pl50 {x0 : GValue} : plainL [.agg (eGValue x0)] = true := (pcons (pl_GValue x0) rfl)
theorem pl51 {x0 : GValue} {x1 : GValue} : plainL [.agg (eGValue x0), .agg (eGValue x1)] = true := (pcons (pl_GValue x0) (pcons (pl_GValue x1) rfl))
theorem pl52 {x0 : Int} : plainL [.v (.int .u64 x0)] = true := (pcons rfl rfl)
theorem pl53 {x0 : Int} : plainL [.v (.int .i64 x0)] = true := (pcons rfl rfl)
theorem pl54 {x0 : Int} : plainL [.v (.int .u64 x0)] = true := (pcons rfl rfl)
theorem pl62 {x0 : GCursor} : plainL [.agg (eGCursor x0)] = true := (pcons (pl_GCursor x0) rfl)
theorem pl69 {x0 : GPlan} : plainL [.agg (eGPlan x0)] = true := (pcons (pl_GPlan x0) rfl)
theorem pl70 {x0 : GPlan} : plainL [.agg (eGPlan x0)] = true := (pcons (pl_GPlan x0) rfl)
theorem pl71 {x0 : GPlan} : plainL [.agg (eGPlan x0)] = true := (pcons (pl_GPlan x0) rfl)
theorem pl72 {x0 : GPlan} : plainL [.agg (eGPlan x0)] = true := (pcons (pl_GPlan x0) rfl)
theorem pl73 {x0 : GPlan} : plainL [.agg (eGPlan x0)] = true := (pcons (pl_GPlan x0) rfl)
theorem pl74 {x0 : GPlan} : plainL [.agg (eGPlan x0)] = true := (pcons (pl_GPlan x0) rfl)
theorem pl75 {x0 : GPlan} : plainL [.agg (eGPlan x0)] = true := (pcons (pl_GPlan x0) rfl)
theorem pl76 {x0 : GCursor} {x1 : Int} : plainL [.agg (eGCursor x0), .v (.int .i64 x1)] = true := (pcons (pl_GCursor x0) (pcons rfl rfl))
theorem pl77 {x0 : GCursor} : plainL [.agg (eGCursor x0)] = true := (pcons (pl_GCursor x0) rfl)
theorem pl78 {x0 : GCursor} {x1 : Int} : plainL [.agg (eGCursor x0), .v (.int .i64 x1)] = true := (pcons (pl_GCursor x0) (pcons rfl rfl))
theorem pl79 {x0 : ByteArray} : plainL [.v (.string x0)] = true := (pcons rfl rfl)
theorem pl80 {x0 : GCursor} : plainL [.agg (eGCursor x0)] = true := (pcons (pl_GCursor x0) rfl)
theorem pl81 {x0 : Int} : plainL [.v (.int .u64 x0)] = true := (pcons rfl rfl)
theorem pl82 {x0 : Int} : plainL [.v (.int .i64 x0)] = true := (pcons rfl rfl)
theorem pl83 {x0 : GValue} : plainL [.agg (eGValue x0)] = true := (pcons (pl_GValue x0) rfl)
theorem pl84 {x0 : Int} {x1 : Int} : plainL [.v (.int .i64 x0), .v (.int .u64 x1)] = true := (pcons rfl (pcons rfl rfl))
theorem pl85 {x0 : (List GItem)} {x1 : GFn} : plainL [.sl (List.map eGItem x0) .no, .clo (.func x1.fn) x1.fi x1.cap] = true := (pcons (psl (plm_GItem x0)) (pcons (gfn_pl x1) rfl))
theorem pl87 {x0 : GCursor} : plainL [.agg (eGCursor x0)] = true := (pcons (pl_GCursor x0) rfl)
theorem pl88 {x0 : GCursor} {x1 : Int} : plainL [.agg (eGCursor x0), .v (.int .i64 x1)] = true := (pcons (pl_GCursor x0) (pcons rfl rfl))
theorem pl89 {x0 : ByteArray} : plainL [.v (.string x0)] = true := (pcons rfl rfl)
theorem pl90 {x0 : GCursor} : plainL [.agg (eGCursor x0)] = true := (pcons (pl_GCursor x0) rfl)
theorem pl91 {x0 : GCursor} {x1 : Int} : plainL [.agg (eGCursor x0), .v (.int .i64 x1)] = true := (pcons (pl_GCursor x0) (pcons rfl rfl))
theorem pl92 {x0 : Int} : plainL [.v (.int .u64 x0)] = true := (pcons rfl rfl)
theorem pl93 {x0 : GCursor} : plainL [.agg (eGCursor x0)] = true := (pcons (pl_GCursor x0) rfl)
theorem pl94 {x0 : Int} : plainL [.v (.int .u64 x0)] = true := (pcons rfl rfl)
theorem pl95 {x0 : GValue} : plainL [.agg (eGValue x0)] = true := (pcons (pl_GValue x0) rfl)
theorem pl96 {x0 : Int} : plainL [.v (.int .i64 x0)] = true := (pcons rfl rfl)
theorem pl97 {x0 : Int} : plainL [.v (.int .u64 x0)] = true := (pcons rfl rfl)
theorem pl98 {x0 : GValue} {x1 : GValue} : plainL [.agg (eGValue x0), .agg (eGValue x1)] = true := (pcons (pl_GValue x0) (pcons (pl_GValue x1) rfl))
theorem pl118 {x0 : GCursor} : plainL [.agg (eGCursor x0)] = true := (pcons (pl_GCursor x0) rfl)
theorem pl130 {x0 : ByteArray} : plainL [.v (.string x0)] = true := (pcons rfl rfl)
theorem pl131 {x0 : ByteArray} : plainL [.v (.string x0)] = true := (pcons rfl rfl)
theorem pl132 {x0 : (List GSpan)} {x1 : Int} : plainL [.sl (List.map eGSpan x0) .no, .v (.int .i64 x1)] = true := (pcons (psl (plm_GSpan x0)) (pcons rfl rfl))
theorem pl133 {x0 : (List GNote)} {x1 : Int} : plainL [.sl (List.map eGNote x0) .no, .v (.int .i64 x1)] = true := (pcons (psl (plm_GNote x0)) (pcons rfl rfl))
theorem pl134 {x0 : GProg} : plainL [.agg (eGProg x0)] = true := (pcons (pl_GProg x0) rfl)
theorem pl135 {x0 : GPlan} {x1 : GOp} : plainL [.agg (eGPlan x0), .agg (eGOp x1)] = true := (pcons (pl_GPlan x0) (pcons (pl_GOp x1) rfl))
theorem pl136 {x0 : ByteArray} : plainL [.v (.string x0)] = true := (pcons rfl rfl)
theorem pl137 {x0 : GCursor} {x1 : Int} : plainL [.agg (eGCursor x0), .v (.int .i64 x1)] = true := (pcons (pl_GCursor x0) (pcons rfl rfl))
theorem pl138 {x0 : GCursor} {x1 : Int} : plainL [.agg (eGCursor x0), .v (.int .i64 x1)] = true := (pcons (pl_GCursor x0) (pcons rfl rfl))
theorem pl139 {x0 : ByteArray} : plainL [.v (.string x0)] = true := (pcons rfl rfl)
theorem pl140 {x0 : ByteArray} : plainL [.v (.string x0)] = true := (pcons rfl rfl)
theorem pl141 {x0 : Int} : plainL [.v (.int .i64 x0)] = true := (pcons rfl rfl)
theorem pl142 {x0 : (List GItem)} {x1 : GFn} : plainL [.sl (List.map eGItem x0) .no, .clo (.func x1.fn) x1.fi x1.cap] = true := (pcons (psl (plm_GItem x0)) (pcons (gfn_pl x1) rfl))
theorem pl143 {x0 : ByteArray} : plainL [.v (.string x0)] = true := (pcons rfl rfl)
theorem pl144 {x0 : GCursor} : plainL [.agg (eGCursor x0)] = true := (pcons (pl_GCursor x0) rfl)
theorem pl145 {x0 : ByteArray} : plainL [.v (.string x0)] = true := (pcons rfl rfl)
theorem pl146 {x0 : Int} {x1 : Int} : plainL [.v (.int .i64 x0), .v (.int .i64 x1)] = true := (pcons rfl (pcons rfl rfl))
theorem pl147 {x0 : (List GValue)} {x1 : (List GValue)} : plainL [.sl (List.map eGValue' x0) .no, .sl (List.map eGValue' x1) .no] = true := (pcons (psl (plm_GValue x0)) (pcons (psl (plm_GValue x1)) rfl))
theorem pl148 {x0 : (List (GValue × GValue))} {x1 : (List (GValue × GValue))} : plainL [.sl (List.map eGPair' x0) .no, .sl (List.map eGPair' x1) .no] = true := (pcons (psl (plm_GPair x0)) (pcons (psl (plm_GPair x1)) rfl))
theorem pl149 {x0 : (List (Int × GValue))} {x1 : (List (Int × GValue))} : plainL [.sl (List.map eGSlot' x0) .no, .sl (List.map eGSlot' x1) .no] = true := (pcons (psl (plm_GSlot x0)) (pcons (psl (plm_GSlot x1)) rfl))
theorem pl150 {x0 : (List GRaw)} {x1 : (List GRaw)} : plainL [.sl (List.map eGRaw x0) .no, .sl (List.map eGRaw x1) .no] = true := (pcons (psl (plm_GRaw x0)) (pcons (psl (plm_GRaw x1)) rfl))
theorem pl151 {x0 : GValue} {x1 : GValue} : plainL [.agg (eGValue x0), .agg (eGValue x1)] = true := (pcons (pl_GValue x0) (pcons (pl_GValue x1) rfl))
theorem pl173 {x0 : ByteArray} : plainL [.v (.string x0)] = true := (pcons rfl rfl)
theorem pl174 {x0 : ByteArray} : plainL [.v (.string x0)] = true := (pcons rfl rfl)
theorem pl175 {x0 : ByteArray} : plainL [.v (.string x0)] = true := (pcons rfl rfl)
theorem pl176 {x0 : ByteArray} : plainL [.v (.string x0)] = true := (pcons rfl rfl)
theorem pl177 {x0 : ByteArray} : plainL [.v (.string x0)] = true := (pcons rfl rfl)
theorem pl178 {x0 : ByteArray} {x1 : Int} : plainL [.v (.string x0), .v (.int .i64 x1)] = true := (pcons rfl (pcons rfl rfl))
theorem pl179 {x0 : GNote} : plainL [.agg (eGNote x0)] = true := (pcons (pl_GNote x0) rfl)
theorem pl180 {x0 : GPlan} {x1 : GOp} : plainL [.agg (eGPlan x0), .agg (eGOp x1)] = true := (pcons (pl_GPlan x0) (pcons (pl_GOp x1) rfl))
theorem pl181 {x0 : ByteArray} {x1 : Int} {x2 : Int} : plainL [.v (.string x0), .v (.int .i64 x1), .v (.int .i32 x2)] = true := (pcons rfl (pcons rfl (pcons rfl rfl)))
theorem pl182 {x0 : ByteArray} {x1 : Int} : plainL [.v (.string x0), .v (.int .i64 x1)] = true := (pcons rfl (pcons rfl rfl))
theorem pl184 {x0 : GValue} : plainL [.agg (eGValue x0)] = true := (pcons (pl_GValue x0) rfl)
theorem pl208 {x0 : Int} : plainL [.v (.int .u8 x0)] = true := (pcons rfl rfl)
theorem pl209 {x0 : Int} : plainL [.v (.int .u8 x0)] = true := (pcons rfl rfl)
theorem pl210 {x0 : ByteArray} {x1 : ByteArray} : plainL [.v (.string x0), .v (.string x1)] = true := (pcons rfl (pcons rfl rfl))
theorem pl211 {x0 : ByteArray} {x1 : Int} {x2 : Int} : plainL [.v (.string x0), .v (.int .i64 x1), .v (.int .i64 x2)] = true := (pcons rfl (pcons rfl (pcons rfl rfl)))
theorem pl212 {x0 : ByteArray} {x1 : Int} {x2 : Int} {x3 : Int} : plainL [.v (.string x0), .v (.int .i64 x1), .v (.int .u8 x2), .v (.int .u8 x3)] = true := (pcons rfl (pcons rfl (pcons rfl (pcons rfl rfl))))
theorem pl213 {x0 : Int} : plainL [.v (.int .i64 x0)] = true := (pcons rfl rfl)
theorem pl223 {x0 : ByteArray} {x1 : ByteArray} : plainL [.v (.string x0), .v (.string x1)] = true := (pcons rfl (pcons rfl rfl))
section
attribute [-simp] List.map_take List.map_drop List.map_append List.map_set List.map_replicate List.map_cons List.map_map
attribute [local simp] plain plainL lowE lowB keepB low lowL lowLL plm_I_i8 plm_I_i16 plm_I_i32 plm_I_i64 plm_I_u8 plm_I_u16 plm_I_u32 plm_I_u64 plm_Bool plm_Str gfn_fi gfn_cap plm_Fn pl_GOp plm_GOp pl_GProg plm_GProg pl_GRaw plm_GRaw pl_GValue plm_GValue pl_GPair plm_GPair pl_GSlot plm_GSlot pl_GNote plm_GNote pl_GItem plm_GItem pl_GSpan plm_GSpan pl_GEnum plm_GEnum pl_GPlan plm_GPlan pl_GS26 plm_GS26 pl_GCursor plm_GCursor pl_GLimits eI_i8 eI_i16 eI_i32 eI_i64 eI_u8 eI_u16 eI_u32 eI_u64 eBool eStr eFn lwr_Bool lwm_I_u8 lwm_GEnum lwc_GValue lwc_GEnum lwc_GPlan lwc_GCursor
theorem plr3 (r : Bool) : plain (e3 r) = true := rfl
def r3_0 : LO := [o 4 (bx 0), o 5 (bx 1), o 6 (bx 2), o 7 (bx 3), o 8 (mb false)]
def r3_1 : LO := [o 20 (ln 2 4), o 21 (.call (cf 9) [(T 20)]), o 22 (.un .not (T 21)), o 23 (mv 22), og 24 (fa 0 6) 23 false, og 25 (ld 24) 23 false, og 26 (.len true (T 25)) 23 false, og 27 (.bin .gtr (T 26) (ci 3000)) 23 false, o 28 (.pick (T 23) (cb true) (T 27)), o 29 (mv 28), og 30 (fa 2 7) 29 false, og 31 (ld 30) 29 false, og 32 (.len true (T 31)) 29 false, og 33 (.bin .gtr (T 32) (ci 5000)) 29 false, o 34 (.pick (T 29) (cb true) (T 33))]
def r3_2 : LO := [o 8 (mb true)]
def k3_1 : ACode := .cond (T 34) (.seq (.region r3_2) .ret) .skip
def k3_2 : ACode := .seq (.region r3_1) k3_1
def r3_8 : LO := [o 9 (.alloc [(aI 0), aE, aE, (aI 0), (aI 0), (aI 0), (aI 0), (aI 0)])]
def r3_9 : LO := [o 35 (.idxA 2 1 (T 5) (ci 0)), o 36 (ld 35), o 37 (.bin .geq (T 36) (ci 0)), o 38 (mv 37), og 39 (.idxA 2 1 (T 5) (ci 0)) 38 true, og 40 (ld 39) 38 true, og 41 (fa 0 4) 38 true, og 42 (ld 41) 38 true, og 43 (.len false (T 42)) 38 true, og 44 (.bin .lss (T 40) (T 43)) 38 true, o 45 (.pick (T 38) (T 44) (cb false)), o 46 (mv 45), og 47 (.idxA 2 1 (T 5) (ci 1)) 46 true, og 48 (ld 47) 46 true, og 49 (.bin .geq (T 48) (ci 0)) 46 true, o 50 (.pick (T 46) (T 49) (cb false)), o 51 (mv 50), og 52 (.idxA 2 1 (T 5) (ci 1)) 51 true, og 53 (ld 52) 51 true, og 54 (fa 0 4) 51 true, og 55 (ld 54) 51 true, og 56 (.idxA 2 1 (T 5) (ci 0)) 51 true, og 57 (ld 56) 51 true, og 58 (.idxSl 3 (T 55) (T 57)) 51 true, og 59 (fa 1 58) 51 true, og 60 (ld 59) 51 true, og 61 (.len false (T 60)) 51 true, og 62 (.bin .lss (T 53) (T 61)) 51 true, o 63 (.pick (T 51) (T 62) (cb false))]
def r3_9t : LO := []
def r3_9o : LN := [[], [0], [1], [2], [3], [3, 4], [3], [3, 6], [3, 7], [3, 5, 8], [3, 9], [3, 10], [11], [11, 12], [11, 13], [11, 14], [11, 15], [16], [16, 17], [16], [16, 19], [16], [16, 21], [16, 20, 22], [16, 23], [16, 24], [16, 25], [16, 18, 26], [16, 27]]
def r3_10 : LO := [o 64 (fa 0 4), o 65 (ld 64), o 66 (.idxA 2 1 (T 5) (ci 0)), o 67 (ld 66), o 68 (.idxSl 3 (T 65) (T 67)), o 69 (fa 1 68), o 70 (ld 69), o 71 (.idxA 2 1 (T 5) (ci 1)), o 72 (ld 71), o 73 (.idxSl 8 (T 70) (T 72)), o 74 (ln 8 73)]
def r3_10t : LO := [on (st 8 9 74)]
def r3_10o : LN := [[], [0], [], [2], [1, 3], [4], [5], [], [7], [6, 8], [9]]
def k3_3 : ACode := .cond (T 63) (.drawn r3_10o r3_10 r3_10t) .skip
def k3_4 : ACode := .seq (.drawn r3_9o r3_9 r3_9t) k3_3
def r3_14 : LO := [o 76 (ln 2 4), o 77 (ln 8 9), o 78 (ln 6 6), o 79 (.call (cf 10) [(T 76), (T 77), (T 78)]), o 75 (mv 79), o 80 (.extract 0 (T 75)), o 81 (.extract 1 (T 75)), o 82 (.extract 2 (T 75)), o 10 (.alloc zV), o 11 (.alloc [aE, (aI 0), (aI 0), (aI 0), (aI 0), (aI 0)]), on (st 7 10 80), on (st 6 11 81), o 12 (mv 82)]
def r3_15 : LO := [o 84 (ln 2 4), o 85 (ln 8 9), o 86 (ln 6 6), o 87 (.call (cf 11) [(T 84), (T 85), (T 86)]), o 83 (mv 87), o 88 (.extract 0 (T 83)), o 89 (.extract 1 (T 83)), o 90 (.extract 2 (T 83)), o 13 (.alloc zV), o 14 (.alloc [aE, (aI 0), (aI 0), (aI 0), (aI 0), (aI 0)]), on (st 7 13 88), on (st 6 14 89), o 15 (mv 90)]
def r3_16 : LO := [o 91 (ln 7 7), o 92 (.call (cf 12) [(T 91)]), o 16 (mv 92)]
def r3_17 : LO := [o 93 (ln 7 10), o 94 (ln 7 13), o 95 (.call (cf 13) [(T 93), (T 94)]), o 96 (.un .not (T 95)), o 97 (mv 96), og 98 (ln 6 11) 97 false, og 99 (ln 6 14) 97 false, og 100 (.eq (.flat [2, 0, 0, 0, 0, 0]) false (T 98) (T 99)) 97 false, o 101 (.pick (T 97) (cb true) (T 100)), o 102 (mv 101), og 103 (mv 12) 102 false, og 104 (mv 15) 102 false, og 105 (.bin .neq (T 103) (T 104)) 102 false, o 106 (.pick (T 102) (cb true) (T 105)), o 107 (mv 106), og 108 (mv 16) 107 false, og 109 (ln 7 7) 107 false, og 110 (.call (cf 14) [(T 109)]) 107 false, og 111 (.bin .neq (T 108) (T 110)) 107 false, o 112 (.pick (T 107) (cb true) (T 111))]
def r3_18 : LO := [o 8 (mb false)]
def k3_5 : ACode := .cond (T 112) (.seq (.region r3_18) .ret) .skip
def k3_6 : ACode := .seq (.region r3_17) k3_5
def r3_24 : LO := [o 113 (mv 16), o 114 (.bin .eql (T 113) (.c aE)), o 115 (mv 114), og 116 (fa 0 7) 115 false, og 117 (ld 116) 115 false, og 118 (.bin .eql (T 117) (ci 9)) 115 false, o 119 (.pick (T 115) (cb true) (T 118))]
def r3_25 : LO := [o 120 (.call (cf 15) []), o 8 (mv 120)]
def k3_7 : ACode := .cond (T 119) (.seq (.region r3_25) .ret) .skip
def k3_8 : ACode := .seq (.region r3_24) k3_7
def r3_31 : LO := [o 122 (mv 16), o 123 (fa 0 6), o 124 (ld 123), o 125 (.bin .add (T 122) (T 124)), o 126 (.build [(aI 0), (aI 0), (aI 0), (aI 0)] [((0, 1), (ci 99999)), ((3, 1), (ci 9999))]), o 127 (.call (cf 16) [(T 125), (T 126)]), o 121 (mv 127), o 128 (.extract 0 (T 121)), o 129 (.extract 1 (T 121)), o 17 (.alloc [aE, (aI 0), (aI 0), (aI 0), (aI 0), (aI 0)]), on (st 6 17 128), o 18 (mv 129)]
def r3_32 : LO := [o 131 (ln 2 4), o 132 (fa 0 7), o 133 (ld 132), o 134 (.build [(aI 0), aE, aE, (aI 0), (aI 0), (aI 0), (aI 0), (aI 0)] [((5, 1), (T 133)), ((6, 1), (ci (-1)))]), o 135 (ln 6 17), o 136 (.call (cf 10) [(T 131), (T 134), (T 135)]), o 130 (mv 136), o 137 (.extract 0 (T 130)), o 138 (.extract 1 (T 130)), o 139 (.extract 2 (T 130)), o 19 (.alloc zV), on (st 7 19 137), on (st 6 11 138), o 12 (mv 139)]
def r3_33 : LO := [o 140 (mv 12), o 141 (.bin .eql (T 140) (ci 0)), o 142 (mv 141), og 143 (fa 1 11) 142 true, og 144 (ld 143) 142 true, og 145 (mv 16) 142 true, og 146 (.len true (T 145)) 142 true, og 147 (.bin .eql (T 144) (T 146)) 142 true, o 148 (.pick (T 142) (T 147) (cb false)), o 149 (mv 148), og 150 (ln 7 19) 149 true, og 151 (ln 7 7) 149 true, og 152 (.call (cf 13) [(T 150), (T 151)]) 149 true, o 153 (.pick (T 149) (T 152) (cb false)), o 154 (mv 153), og 155 (.call (cf 15) []) 154 true, o 156 (.pick (T 154) (T 155) (cb false)), o 8 (mv 156)]
def k3_9 : ACode := .seq (.region r3_33) .ret
def k3_10 : ACode := .seq (.region r3_32) k3_9
def k3_11 : ACode := .seq (.region r3_31) k3_10
def k3_12 : ACode := .seq k3_8 k3_11
def k3_13 : ACode := .seq k3_6 k3_12
def k3_14 : ACode := .seq (.region r3_16) k3_13
def k3_15 : ACode := .seq (.region r3_15) k3_14
def k3_16 : ACode := .seq (.region r3_14) k3_15
def k3_17 : ACode := .seq k3_4 k3_16
def k3_18 : ACode := .seq (.region r3_8) k3_17
def k3_19 : ACode := .seq k3_2 k3_18
def k3_20 : ACode := .seq (.region r3_0) k3_19
theorem fn3 : getFn Tryz.prog 3 = some (157, k3_20, [.tmp 8]) := by kernel_rfl
def q3_0 (r : Bool) : QP := qret [.tmp 8] (e3 r)
def law28_RowScalars_j2 (p : GPlan) (c : GCursor) (v : GValue) (ij1 : Int) (sj2 : ByteArray) (sj3 : ByteArray) (ij4 : Int) (ij5 : Int) (ij6 : Int) (ij7 : Int) (ij8 : Int) (r : Bool) : Prop := D Tryz.prog 157 0 0 k3_16 (q3_0 r) [(9, .ptr 4 0), (7, .ptr 3 0), (6, .ptr 2 0), (4, .ptr 0 0)] ⟨[some (eGPlan p), none, some (eGCursor c), some (eGValue v), some [aI ij1, aS sj2, aS sj3, aI ij4, aI ij5, aI ij6, aI ij7, aI ij8]], [], []⟩
theorem law28_RowScalars_j2_low {p : GPlan} {c : GCursor} {v : GValue} {ij1 : Int} {sj2 : ByteArray} {sj3 : ByteArray} {ij4 : Int} {ij5 : Int} {ij6 : Int} {ij7 : Int} {ij8 : Int} : lowE [true, false, true, true, true] 0 [(9, .ptr 4 0), (7, .ptr 3 0), (6, .ptr 2 0), (4, .ptr 0 0)] = true /\ lowB [true, false, true, true, true] 0 [some (eGPlan p), none, some (eGCursor c), some (eGValue v), some [aI ij1, aS sj2, aS sj3, aI ij4, aI ij5, aI ij6, aI ij7, aI ij8]] = true := ⟨by first | rfl | simp, by first | rfl | simp⟩
theorem law28_RowScalars_j2_step (p : GPlan) (c : GCursor) (v : GValue) (ij1 : Int) (sj2 : ByteArray) (sj3 : ByteArray) (ij4 : Int) (ij5 : Int) (ij6 : Int) (ij7 : Int) (ij8 : Int) (r : Bool) (hw : ∃ y16, row_Scalar p (⟨ij1, sj2, sj3, ij4, ij5, ij6, ij7, ij8⟩ : GOp) c y16 /\ (∃ y17, ref28_Scalar p (⟨ij1, sj2, sj3, ij4, ij5, ij6, ij7, ij8⟩ : GOp) c y17 /\ (∃ y18, row_Put v y18 /\ (∃ y19, law28_same y16.1 y17.1 y19 /\ (∃ R4 : Bool -> Prop, (∀ bz4 : Bool, R4 bz4 -> ((bz4 = true -> r = false) /\ (bz4 = false -> (((decide (y18 = (⟨#[]⟩ : ByteArray))) || (v.Kind == 9)) = true -> ∃ y21, law28_awake  y21 /\ (r = y21)) /\ (((decide (y18 = (⟨#[]⟩ : ByteArray))) || (v.Kind == 9)) = false -> ((y18.size + c.Data.size : Nat) : Int) <= 9223372036854775807 /\ (∃ y22, ref02_Open (y18 ++ c.Data) (⟨99999, 0, 0, 9999⟩ : GLimits) y22 /\ (∃ y23, row_Scalar p (⟨0, (⟨#[]⟩ : ByteArray), (⟨#[]⟩ : ByteArray), 0, 0, v.Kind, (-1), 0⟩ : GOp) y22.1 y23 /\ ((((y23.2.2 == 0) && (y23.2.1.At == (y18.size : Int))) = true -> ∃ y24, law28_same y23.1 v y24 /\ ((y24 = true -> ∃ y25, law28_awake  y25 /\ (r = y25)) /\ (y24 = false -> r = false))) /\ (((y23.2.2 == 0) && (y23.2.1.At == (y18.size : Int))) = false -> r = false)))))))) /\ (((((!y19) || (!(y16.2.1.Data == y17.2.1.Data && (y16.2.1.At == y17.2.1.At && (y16.2.1.End == y17.2.1.End && (y16.2.1.Depth == y17.2.1.Depth && (y16.2.1.Nodes == y17.2.1.Nodes && (y16.2.1.Text == y17.2.1.Text && true)))))))) || (y16.2.2 != y17.2.2)) = true -> R4 true) /\ ((((!y19) || (!(y16.2.1.Data == y17.2.1.Data && (y16.2.1.At == y17.2.1.At && (y16.2.1.End == y17.2.1.End && (y16.2.1.Depth == y17.2.1.Depth && (y16.2.1.Nodes == y17.2.1.Nodes && (y16.2.1.Text == y17.2.1.Text && true)))))))) || (y16.2.2 != y17.2.2)) = false -> ∃ y20, ref28_Put v y20 /\ (R4 (!(decide (y18 = y20))))))))))) : law28_RowScalars_j2 p c v ij1 sj2 sj3 ij4 ij5 ij6 ij7 ij8 r := by
 show D _ _ _ _ _ _ _ _
 refine ds (va 3 [(78, .agg (eGCursor c)), (77, .agg [aI ij1, aS sj2, aS sj3, aI ij4, aI ij5, aI ij6, aI ij7, aI ij8]), (76, .agg (eGPlan p))] ?_)
 obtain ⟨y16, hy, hw⟩ := hw
 refine vo rfl (x_call hy pl10) rfl (vg 9 [(12, aI y16.2.2), (11, .ptr 6 0), (10, .ptr 5 0)] [(eGValue y16.1), (eGCursor y16.2.1)] [] (ve (ds (va 3 [(86, .agg (eGCursor c)), (85, .agg [aI ij1, aS sj2, aS sj3, aI ij4, aI ij5, aI ij6, aI ij7, aI ij8]), (84, .agg (eGPlan p))] ?_))))
 obtain ⟨y17, hy, hw⟩ := hw
 refine vo rfl (x_call hy pl11) rfl (vg 9 [(15, aI y17.2.2), (14, .ptr 8 0), (13, .ptr 7 0)] [(eGValue y17.1), (eGCursor y17.2.1)] [] (ve (ds (va 1 [(91, .agg (eGValue v))] ?_))))
 obtain ⟨y18, hy, hw⟩ := hw
 refine vo rfl (x_call hy pl12) rfl (va 1 [(16, aS y18)] (ve (d_seqQ (ds (va 2 [(94, .agg (eGValue y17.1)), (93, .agg (eGValue y16.1))] ?_)))))
 obtain ⟨y19, hy, hw⟩ := hw
 refine vo rfl (x_call hy pl13) rfl (va 2 [(97, aB (!y19))] (vj 97 101 9 (!y19) (fun z => aB (z || (!(y16.2.1.Data == y17.2.1.Data && (y16.2.1.At == y17.2.1.At && (y16.2.1.End == y17.2.1.End && (y16.2.1.Depth == y17.2.1.Depth && (y16.2.1.Nodes == y17.2.1.Nodes && (y16.2.1.Text == y17.2.1.Text && true))))))))) km_d (fun _ key => ?_) (fun _ key => ?_) ?_))
 ·exact va 3 [(100, .tuple [])] (va 1 [(101, aB true)] (vle km_d key))
 ·exact va 3 [(100, aB (!(y16.2.1.Data == y17.2.1.Data && (y16.2.1.At == y17.2.1.At && (y16.2.1.End == y17.2.1.End && (y16.2.1.Depth == y17.2.1.Depth && (y16.2.1.Nodes == y17.2.1.Nodes && (y16.2.1.Text == y17.2.1.Text && true))))))))] (va 1 [(101, aB (!(y16.2.1.Data == y17.2.1.Data && (y16.2.1.At == y17.2.1.At && (y16.2.1.End == y17.2.1.End && (y16.2.1.Depth == y17.2.1.Depth && (y16.2.1.Nodes == y17.2.1.Nodes && (y16.2.1.Text == y17.2.1.Text && true))))))))] (vle km_d key))
 refine va 1 [(102, aB ((!y19) || (!(y16.2.1.Data == y17.2.1.Data && (y16.2.1.At == y17.2.1.At && (y16.2.1.End == y17.2.1.End && (y16.2.1.Depth == y17.2.1.Depth && (y16.2.1.Nodes == y17.2.1.Nodes && (y16.2.1.Text == y17.2.1.Text && true)))))))))] (vj 102 106 14 ((!y19) || (!(y16.2.1.Data == y17.2.1.Data && (y16.2.1.At == y17.2.1.At && (y16.2.1.End == y17.2.1.End && (y16.2.1.Depth == y17.2.1.Depth && (y16.2.1.Nodes == y17.2.1.Nodes && (y16.2.1.Text == y17.2.1.Text && true)))))))) (fun z => aB (z || (y16.2.2 != y17.2.2))) km_d (fun _ key => ?_) (fun _ key => ?_) ?_)
 ·exact va 3 [(105, .tuple [])] (va 1 [(106, aB true)] (vle km_d key))
 ·exact va 3 [(105, aB (y16.2.2 != y17.2.2))] (va 1 [(106, aB (y16.2.2 != y17.2.2))] (vle km_d key))
 refine va 1 [(107, aB (((!y19) || (!(y16.2.1.Data == y17.2.1.Data && (y16.2.1.At == y17.2.1.At && (y16.2.1.End == y17.2.1.End && (y16.2.1.Depth == y17.2.1.Depth && (y16.2.1.Nodes == y17.2.1.Nodes && (y16.2.1.Text == y17.2.1.Text && true)))))))) || (y16.2.2 != y17.2.2)))] ?_
 obtain ⟨R4, hR, hw⟩ := hw
 refine vr 107 112 20 (((!y19) || (!(y16.2.1.Data == y17.2.1.Data && (y16.2.1.At == y17.2.1.At && (y16.2.1.End == y17.2.1.End && (y16.2.1.Depth == y17.2.1.Depth && (y16.2.1.Nodes == y17.2.1.Nodes && (y16.2.1.Text == y17.2.1.Text && true)))))))) || (y16.2.2 != y17.2.2)) R4 (fun bz4 => aB bz4) km_d (fun bz4 hz => ?_) (fun key => ⟨fun hb24 => ?_, fun hb24 => ?_⟩)
 ·have hw := hR bz4 hz
  refine ve (dw hw (fun _ hw => ?_) (fun _ hw => ?_))
  ·exact ds (va 1 [(8, aB false)] (ve (d_ret (rx hw (plr3 _)))))
  refine d_skip (d_seqQ (ds (va 1 [(113, aS y18)] (vo rfl (x_eqS y18 (⟨#[]⟩ : ByteArray)) rfl (va 1 [(115, aB (decide (y18 = (⟨#[]⟩ : ByteArray))))] (vj 115 119 7 (decide (y18 = (⟨#[]⟩ : ByteArray))) (fun z => aB (z || (v.Kind == 9))) km_d (fun _ key => ?_) (fun _ key => ?_) ?_))))))
  ·exact va 3 [(118, .tuple [])] (va 1 [(119, aB true)] (vle km_d key))
  ·exact va 3 [(118, aB (v.Kind == 9))] (va 1 [(119, aB (v.Kind == 9))] (vle km_d key))
  refine ve (dw hw (fun _ hw => ?_) (fun _ hw => ?_))
  ·refine ds ?_
   obtain ⟨y21, hy, hw⟩ := hw
   exact vo rfl (x_call hy pl15) rfl (va 1 [(8, aB y21)] (ve (d_ret (rx hw (plr3 _)))))
  refine d_skip (ds (va 3 [(124, aS c.Data), (122, aS y18)] ?_))
  obtain ⟨h0, hw⟩ := hw
  refine vo rfl (x_cat h0) rfl (va 1 [(126, .agg [aI 99999, aI 0, aI 0, aI 9999])] ?_)
  obtain ⟨y22, hy, hw⟩ := hw
  refine vo rfl (x_call hy pl16) rfl (vg 6 [(17, .ptr 9 0)] [(eGCursor y22.1)] [] (ve (ds (va 5 [(135, .agg (eGCursor y22.1)), (134, .agg [aI 0, aE, aE, aI 0, aI 0, aI v.Kind, aI (-1), aI 0]), (131, .agg (eGPlan p))] ?_))))
  obtain ⟨y23, hy, hw⟩ := hw
  refine vo rfl (x_call hy pl10) rfl (vg 8 [(12, aI y23.2.2), (19, .ptr 10 0)] [(eGValue y23.1)] [(6, (eGCursor y23.2.1))] (ve (ds (va 3 [(142, aB (y23.2.2 == 0))] (vj 142 148 9 (y23.2.2 == 0) (fun z => aB (z && (y23.2.1.At == (y18.size : Int)))) km_d (fun _ key => ?_) (fun _ key => ?_) ?_)))))
  ·exact va 3 [(145, aS y18), (144, aI y23.2.1.At)] (vo rfl (x_lenS y18) rfl (va 1 [(147, aB (y23.2.1.At == (y18.size : Int)))] (va 1 [(148, aB (y23.2.1.At == (y18.size : Int)))] (vle km_d key))))
  ·exact va 5 [(147, .tuple [])] (va 1 [(148, aB false)] (vle km_d key))
  refine va 1 [(149, aB ((y23.2.2 == 0) && (y23.2.1.At == (y18.size : Int))))] (vw2 149 hw (fun _ hw => ?_) (fun _ hw => ?_))
  ·refine va 2 [(151, .agg (eGValue v)), (150, .agg (eGValue y23.1))] ?_
   obtain ⟨y24, hy, hw⟩ := hw
   refine vo rfl (x_call hy pl13) rfl (va 2 [(154, aB y24)] (vw2 154 hw (fun _ hw => ?_) (fun _ hw => ?_)))
   ·obtain ⟨y25, hy, hw⟩ := hw
    exact vo rfl (x_call hy pl15) rfl (va 2 [(8, aB y25)] (ve (d_ret (rx hw (plr3 _)))))
   exact va 3 [(8, aB false)] (ve (d_ret (rx hw (plr3 _))))
  exact va 8 [(8, aB false)] (ve (d_ret (rx hw (plr3 _))))
 ·have hw := hw.1 hb24
  exact va 4 [(111, .tuple [])] (va 1 [(112, aB true)] (vle km_d (key _ hw)))
 ·have hw := hw.2 hb24
  refine va 2 [(109, .agg (eGValue v)), (108, aS y18)] ?_
  obtain ⟨y20, hy, hw⟩ := hw
  exact vo rfl (x_call hy pl14) rfl (vo rfl (x_neS y18 y20) rfl (va 1 [(112, aB (!(decide (y18 = y20))))] (vle km_d (key _ hw))))
theorem law28_RowScalars_step (p : GPlan) (q : GS26) (c : GCursor) (v : GValue) (r : Bool) (hw : ∃ y1, law28_usable p y1 /\ (((((!y1) || (decide (3000 < (c.Data.size : Int)))) || (decide (5000 < (v.Text.size : Int)))) = true -> r = true) /\ ((((!y1) || (decide (3000 < (c.Data.size : Int)))) || (decide (5000 < (v.Text.size : Int)))) = false -> ∃ R2 : Bool -> Prop, (∀ bz2 : Bool, R2 bz2 -> ((bz2 = true -> ∃ y4, p.Progs[q.a0.toNat]? = some y4 /\ 0 <= q.a0 /\ (∃ y5, y4.Ops[q.a1.toNat]? = some y5 /\ 0 <= q.a1 /\ (law28_RowScalars_j2 p c v y5.Num y5.Name y5.Alias y5.Card y5.Key y5.Kind y5.Target y5.Union r))) /\ (bz2 = false -> law28_RowScalars_j2 p c v 0 (⟨#[]⟩ : ByteArray) (⟨#[]⟩ : ByteArray) 0 0 0 0 0 r))) /\ (((((decide (0 <= q.a0)) && (decide (q.a0 < (p.Progs.length : Int)))) && (decide (0 <= q.a1))) = true -> ∃ y3, p.Progs[q.a0.toNat]? = some y3 /\ 0 <= q.a0 /\ (R2 (decide (q.a1 < (y3.Ops.length : Int))))) /\ ((((decide (0 <= q.a0)) && (decide (q.a0 < (p.Progs.length : Int)))) && (decide (0 <= q.a1))) = false -> R2 false))))) : law28_RowScalars p q c v r := by
 refine f_pureD fn3 nle rfl (ds (vg 5 [(7, .ptr 3 0), (6, .ptr 2 0), (5, .ptr 1 0), (4, .ptr 0 0)] [(eGPlan p), (eGS26 q), (eGCursor c), (eGValue v)] [] (ve (d_seqQ (ds (va 1 [(20, .agg (eGPlan p))] ?_))))))
 obtain ⟨y1, hy, hw⟩ := hw
 refine vo rfl (x_call hy pl9) rfl (va 2 [(23, aB (!y1))] (vj 23 28 9 (!y1) (fun z => aB (z || (decide (3000 < (c.Data.size : Int))))) km_d (fun _ key => ?_) (fun _ key => ?_) ?_))
 ·exact va 4 [(27, .tuple [])] (va 1 [(28, aB true)] (vle km_d key))
 ·exact va 2 [(25, aS c.Data)] (vo rfl (x_lenS c.Data) rfl (va 1 [(27, aB (decide (3000 < (c.Data.size : Int))))] (va 1 [(28, aB (decide (3000 < (c.Data.size : Int))))] (vle km_d key))))
 refine va 1 [(29, aB ((!y1) || (decide (3000 < (c.Data.size : Int)))))] (vj 29 34 15 ((!y1) || (decide (3000 < (c.Data.size : Int)))) (fun z => aB (z || (decide (5000 < (v.Text.size : Int))))) km_d (fun _ key => ?_) (fun _ key => ?_) ?_)
 ·exact va 4 [(33, .tuple [])] (va 1 [(34, aB true)] (vle km_d key))
 ·exact va 2 [(31, aS v.Text)] (vo rfl (x_lenS v.Text) rfl (va 1 [(33, aB (decide (5000 < (v.Text.size : Int))))] (va 1 [(34, aB (decide (5000 < (v.Text.size : Int))))] (vle km_d key))))
 refine ve (dw hw (fun _ hw => ?_) (fun _ hw => ?_))
 ·exact ds (va 1 [(8, aB true)] (ve (d_ret (rx hw (plr3 _)))))
 refine d_skip (ds (vg 1 [(9, .ptr 4 0)] [[aI 0, aE, aE, aI 0, aI 0, aI 0, aI 0, aI 0]] [] (ve (d_seqQ (d_seqQ (dS [(0, (eGPlan p)), (1, (eGS26 q))] (sa 2 4 [(38, aB (decide (0 <= q.a0)))] (sj 38 45 11 (decide (0 <= q.a0)) (fun z => aB (z && (decide (q.a0 < (p.Progs.length : Int))))) (km_vd km_d) (fun _ key => ?_) (fun _ key => ?_) ?_))))))))
 ·exact sa 2 4 [(42, .sl (List.map eGProg p.Progs) .no), (40, aI q.a0)] (sq rfl (fun _ _ => x_len p.Progs eGProg) rfl (sa 2 1 [(44, aB (decide (q.a0 < (p.Progs.length : Int))))] (sa 2 1 [(45, aB (decide (q.a0 < (p.Progs.length : Int))))] (sle (km_vd km_d) key))))
 ·exact sa 2 6 [(44, .tuple [])] (sa 2 1 [(45, aB false)] (sle (km_vd km_d) key))
 refine sa 2 1 [(46, aB ((decide (0 <= q.a0)) && (decide (q.a0 < (p.Progs.length : Int)))))] (sj 46 50 16 ((decide (0 <= q.a0)) && (decide (q.a0 < (p.Progs.length : Int)))) (fun z => aB (z && (decide (0 <= q.a1)))) (km_vd km_d) (fun _ key => ?_) (fun _ key => ?_) ?_)
 ·exact sa 2 3 [(49, aB (decide (0 <= q.a1)))] (sa 2 1 [(50, aB (decide (0 <= q.a1)))] (sle (km_vd km_d) key))
 ·exact sa 2 3 [(49, .tuple [])] (sa 2 1 [(50, aB false)] (sle (km_vd km_d) key))
 refine sa 2 1 [(51, aB (((decide (0 <= q.a0)) && (decide (q.a0 < (p.Progs.length : Int)))) && (decide (0 <= q.a1))))] ?_
 obtain ⟨R2, hR, hw⟩ := hw
 refine sr 51 63 29 (((decide (0 <= q.a0)) && (decide (q.a0 < (p.Progs.length : Int)))) && (decide (0 <= q.a1))) R2 (fun bz2 => aB bz2) (km_vd km_d) (fun bz2 hz => ?_) (fun key => ⟨fun hb7 => ?_, fun hb7 => ?_⟩)
 ·have hw := hR bz2 hz
  refine send (vp_start' (ve (dw hw (fun _ hw => ?_) (fun _ hw => ?_))))
  ·refine dS [(0, (eGPlan p)), (1, (eGS26 q))] (sa 2 4 [(67, aI q.a0), (65, .sl (List.map eGProg p.Progs) .no)] ?_)
   obtain ⟨y4, hy, h0, hw⟩ := hw
   refine sq rfl (fun _ _ => x_idx h0 hy (rfl : eGProg y4 = eGProg y4)) rfl (sa 2 4 [(72, aI q.a1), (70, .sl (List.map eGOp y4.Ops) .no)] ?_)
   obtain ⟨y5, hy, h0, hw⟩ := hw
   exact sq rfl (fun _ _ => x_idx h0 hy (rfl : eGOp y5 = eGOp y5)) rfl (sa 2 1 [(74, .agg (eGOp y5))] (send (vp_start' (vg 1 [] [] [(4, (eGOp y5))] (ve (jd law28_RowScalars_j2_low hw))))))
  exact d_skip (jd law28_RowScalars_j2_low hw)
 ·have hw := hw.1 hb7
  refine sa 2 6 [(57, aI q.a0), (55, .sl (List.map eGProg p.Progs) .no), (53, aI q.a1)] ?_
  obtain ⟨y3, hy, h0, hw⟩ := hw
  exact sq rfl (fun _ _ => x_idx h0 hy (rfl : eGProg y3 = eGProg y3)) rfl (sa 2 2 [(60, .sl (List.map eGOp y3.Ops) .no)] (sq rfl (fun _ _ => x_len y3.Ops eGOp) rfl (sa 2 1 [(62, aB (decide (q.a1 < (y3.Ops.length : Int))))] (sa 2 1 [(63, aB (decide (q.a1 < (y3.Ops.length : Int))))] (sle (km_vd km_d) (key _ hw))))))
 ·have hw := hw.2 hb7
  exact sa 2 11 [(62, .tuple [])] (sa 2 1 [(63, aB false)] (sle (km_vd km_d) (key _ hw)))
theorem plr9 (r : Bool) : plain (e9 r) = true := rfl
def r9_0 : LO := [o 1 (bx 0), o 2 (mb false)]
def r9_1 : LO := [o 3 (fa 0 1), o 4 (ld 3), o 5 (.len false (T 4)), o 6 (.bin .leq (T 5) (ci 8)), o 7 (mv 6), og 8 (fa 1 1) 7 true, og 9 (ld 8) 7 true, og 10 (.len false (T 9)) 7 true, og 11 (.bin .leq (T 10) (ci 8)) 7 true, o 12 (.pick (T 7) (T 11) (cb false)), o 13 (mv 12), og 14 (ln 2 1) 13 true, og 15 (.call (cf 30) [(T 14)]) 13 true, og 16 (.bin .eql (T 15) (ci 0)) 13 true, o 17 (.pick (T 13) (T 16) (cb false)), o 2 (mv 17)]
def k9_1 : ACode := .seq (.region r9_1) .ret
def k9_2 : ACode := .seq (.region r9_0) k9_1
theorem fn9 : getFn Tryz.prog 9 = some (18, k9_2, [.tmp 2]) := by kernel_rfl
theorem law28_usable_step (p : GPlan) (r : Bool) (hw : (((decide ((p.Progs.length : Int) <= 8)) && (decide ((p.Enums.length : Int) <= 8))) = true -> ∃ y1, ref22_Check p y1 /\ (r = (y1 == 0))) /\ (((decide ((p.Progs.length : Int) <= 8)) && (decide ((p.Enums.length : Int) <= 8))) = false -> r = false)) : law28_usable p r := by
 refine f_pureD fn9 nle rfl (ds (vg 2 [(1, .ptr 0 0)] [(eGPlan p)] [] (ve (ds (va 2 [(4, .sl (List.map eGProg p.Progs) .no)] (vo rfl (x_len p.Progs eGProg) rfl (va 2 [(7, aB (decide ((p.Progs.length : Int) <= 8)))] (vj 7 12 10 (decide ((p.Progs.length : Int) <= 8)) (fun z => aB (z && (decide ((p.Enums.length : Int) <= 8)))) km_d (fun _ key => ?_) (fun _ key => ?_) ?_))))))))
 ·exact va 2 [(9, .sl (List.map eGEnum p.Enums) .no)] (vo rfl (x_len p.Enums eGEnum) rfl (va 1 [(11, aB (decide ((p.Enums.length : Int) <= 8)))] (va 1 [(12, aB (decide ((p.Enums.length : Int) <= 8)))] (vle km_d key))))
 ·exact va 4 [(11, .tuple [])] (va 1 [(12, aB false)] (vle km_d key))
 refine va 1 [(13, aB ((decide ((p.Progs.length : Int) <= 8)) && (decide ((p.Enums.length : Int) <= 8))))] (vw2 13 hw (fun _ hw => ?_) (fun _ hw => ?_))
 ·refine va 1 [(14, .agg (eGPlan p))] ?_
  obtain ⟨y1, hy, hw⟩ := hw
  exact vo rfl (x_call hy pl30) rfl (va 3 [(2, aB (y1 == 0))] (ve (d_ret (rx hw (plr9 _)))))
 exact va 5 [(2, aB false)] (ve (d_ret (rx hw (plr9 _))))
theorem plr10 (r : (GValue × GCursor × Int)) : plain (e10 r) = true := (ptup (pcons (pl_GValue r.1) (pcons (pl_GCursor r.2.1) (pcons rfl rfl))))
def r10_0 : LO := [o 3 (bx 0), o 4 (bx 1), o 5 (bx 2), o 6 (.alloc zV), o 7 (.alloc [aE, (aI 0), (aI 0), (aI 0), (aI 0), (aI 0)]), o 8 (mi 0)]
def r10_1 : LO := [o 16 (fa 5 4), o 17 (ld 16)]
def r10_2 : LO := [o 21 (.bin .eql (T 17) (ci 1)), o 20 (mv 21)]
def r10_3 : LO := [o 23 (ln 6 5), o 24 (.call (cf 31) [(T 23)]), o 22 (mv 24), o 25 (.extract 0 (T 22)), o 26 (.extract 1 (T 22)), o 27 (.extract 2 (T 22)), o 10 (.alloc [aE, (aI 0), (aI 0), (aI 0), (aI 0), (aI 0)]), o 9 (mv 25), on (st 6 10 26), o 11 (mv 27)]
def r10_4 : LO := [o 28 (mv 11), o 29 (.bin .neq (T 28) (ci 0))]
def r10_5 : LO := [o 30 (.build zV []), o 31 (ln 6 5), o 32 (mv 11), on (st 7 6 30), on (st 6 7 31)]
def r10_5t : LO := [o 8 (mv 32)]
def r10_5o : LN := [[], [], [], [0], [0, 1, 3]]
def k10_1 : ACode := .cond (T 29) (.seq (.drawn r10_5o r10_5 r10_5t) .ret) .skip
def k10_2 : ACode := .seq (.region r10_4) k10_1
def r10_11 : LO := [o 33 (mv 9), o 34 (.bin .gtr (T 33) (.c (aC 1)))]
def r10_12 : LO := [o 35 (.build zV []), o 36 (ln 6 5), on (st 7 6 35)]
def r10_12t : LO := [on (st 6 7 36), o 8 (mi 5)]
def r10_12o : LN := [[], [], [0]]
def k10_3 : ACode := .cond (T 34) (.seq (.drawn r10_12o r10_12 r10_12t) .ret) .skip
def r10_18 : LO := [o 37 (fa 5 4), o 38 (ld 37), o 39 (mv 9), o 40 (.conv (.num .u64) (T 39)), o 41 (.build zV [((0, 1), (T 38)), ((1, 1), (T 40))]), o 42 (ln 6 10), on (st 7 6 41)]
def r10_18t : LO := [on (st 6 7 42), o 8 (mi 0)]
def r10_18o : LN := [[], [0], [], [2], [1, 3], [], [0, 1, 2, 3, 4]]
def k10_4 : ACode := .seq (.drawn r10_18o r10_18 r10_18t) .ret
def k10_5 : ACode := .seq (.seq (.region r10_11) k10_3) k10_4
def k10_6 : ACode := .seq k10_2 k10_5
def r10_24 : LO := [o 44 (.bin .eql (T 17) (ci 6)), o 43 (mv 44)]
def r10_25 : LO := [o 45 (ln 6 5), o 46 (.call (cf 32) [(T 45)]), o 47 (.extract 0 (T 46)), o 48 (.extract 1 (T 46)), o 49 (.extract 2 (T 46)), on (st 7 6 47), on (st 6 7 48), o 8 (mv 49)]
def r10_28 : LO := [o 51 (.bin .eql (T 17) (ci 7)), o 50 (mv 51)]
def r10_30 : LO := [o 52 (.bin .eql (T 17) (ci 8)), o 50 (mv 52)]
def k10_7 : ACode := .cond (T 50) .skip (.region r10_30)
def r10_33 : LO := [o 53 (fa 5 4), o 54 (ld 53), o 55 (ln 6 5), o 56 (.call (cf 33) [(T 54), (T 55)]), o 57 (.extract 0 (T 56)), o 58 (.extract 1 (T 56)), o 59 (.extract 2 (T 56)), on (st 7 6 57), on (st 6 7 58), o 8 (mv 59)]
def r10_36 : LO := [o 61 (.bin .eql (T 17) (ci 2)), o 60 (mv 61)]
def r10_38 : LO := [o 62 (.bin .eql (T 17) (ci 3)), o 60 (mv 62)]
def r10_40 : LO := [o 63 (.bin .eql (T 17) (ci 4)), o 60 (mv 63)]
def r10_42 : LO := [o 64 (.bin .eql (T 17) (ci 5)), o 60 (mv 64)]
def r10_44 : LO := [o 65 (.bin .eql (T 17) (ci 9)), o 60 (mv 65)]
def k10_8 : ACode := .cond (T 60) .skip (.region r10_44)
def k10_9 : ACode := .cond (T 60) .skip (.seq (.region r10_42) k10_8)
def k10_10 : ACode := .cond (T 60) .skip (.seq (.region r10_40) k10_9)
def k10_11 : ACode := .seq (.region r10_38) k10_10
def k10_12 : ACode := .cond (T 60) .skip k10_11
def r10_54 : LO := [o 18 (.build zV []), o 19 (ln 6 5), on (st 7 6 18)]
def r10_54t : LO := [on (st 6 7 19), o 8 (mi 12)]
def r10_54o : LN := [[], [], [0]]
def k10_13 : ACode := .cond (T 60) .skip (.seq (.drawn r10_54o r10_54 r10_54t) .ret)
def k10_14 : ACode := .seq (.seq (.region r10_36) k10_12) k10_13
def k10_15 : ACode := .cond (T 50) (.seq (.region r10_33) .ret) k10_14
def k10_16 : ACode := .seq (.seq (.region r10_28) k10_7) k10_15
def k10_17 : ACode := .cond (T 43) (.seq (.region r10_25) .ret) k10_16
def k10_18 : ACode := .seq (.region r10_24) k10_17
def k10_19 : ACode := .cond (T 20) (.seq (.region r10_3) k10_6) k10_18
def k10_20 : ACode := .seq (.region r10_2) k10_19
def k10_21 : ACode := .block 0 k10_20
def r10_67 : LO := [o 67 (ln 6 5), o 68 (.call (cf 34) [(T 67)]), o 66 (mv 68), o 69 (.extract 0 (T 66)), o 70 (.extract 1 (T 66)), o 71 (.extract 2 (T 66)), o 13 (.alloc [aE, (aI 0), (aI 0), (aI 0), (aI 0), (aI 0)]), o 12 (mv 69), on (st 6 13 70), o 14 (mv 71)]
def r10_68 : LO := [o 72 (mv 14), o 73 (.bin .neq (T 72) (ci 0))]
def r10_69 : LO := [o 74 (.build zV []), o 75 (ln 6 5), o 76 (mv 14), on (st 7 6 74), on (st 6 7 75)]
def r10_69t : LO := [o 8 (mv 76)]
def r10_69o : LN := [[], [], [], [0], [0, 1, 3]]
def k10_22 : ACode := .cond (T 73) (.seq (.drawn r10_69o r10_69 r10_69t) .ret) .skip
def r10_75 : LO := [o 77 (fa 5 4), o 78 (ld 77), o 79 (mv 12), o 80 (.build zV [((0, 1), (T 78)), ((1, 1), (T 79))]), o 15 (.alloc zV), on (st 7 15 80)]
def r10_76 : LO := [o 81 (fa 5 4), o 82 (ld 81), o 83 (.bin .eql (T 82) (ci 2)), o 84 (mv 83), og 85 (fa 5 4) 84 false, og 86 (ld 85) 84 false, og 87 (.bin .eql (T 86) (ci 3)) 84 false, o 88 (.pick (T 84) (cb true) (T 87))]
def r10_77 : LO := [o 89 (mv 12), o 90 (.call (cf 35) [(T 89)]), o 91 (.conv (.num .u64) (T 90)), o 92 (fa 1 15), on (st 1 92 91)]
def k10_23 : ACode := .cond (T 88) (.region r10_77) .skip
def r10_81 : LO := [o 93 (fa 5 4), o 94 (ld 93), o 95 (ln 7 15), o 96 (.call (cf 36) [(T 94), (T 95)]), o 97 (.un .not (T 96))]
def r10_82 : LO := [o 98 (.build zV []), o 99 (ln 6 5), on (st 7 6 98)]
def r10_82t : LO := [on (st 6 7 99), o 8 (mi 6)]
def r10_82o : LN := [[], [], [0]]
def k10_24 : ACode := .cond (T 97) (.seq (.drawn r10_82o r10_82 r10_82t) .ret) .skip
def r10_88 : LO := [o 100 (fa 5 4), o 101 (ld 100), o 102 (.bin .eql (T 101) (ci 9)), o 103 (mv 102), og 104 (ln 2 3) 103 true, og 105 (fa 6 4) 103 true, og 106 (ld 105) 103 true, og 107 (mv 12) 103 true, og 108 (.call (cf 37) [(T 104), (T 106), (T 107)]) 103 true, og 109 (.un .not (T 108)) 103 true, o 110 (.pick (T 103) (T 109) (cb false))]
def r10_89 : LO := [o 111 (.build zV []), o 112 (ln 6 5), on (st 7 6 111)]
def r10_89t : LO := [on (st 6 7 112), o 8 (mi 16)]
def r10_89o : LN := [[], [], [0]]
def k10_25 : ACode := .cond (T 110) (.seq (.drawn r10_89o r10_89 r10_89t) .ret) .skip
def r10_95 : LO := [o 113 (ln 7 15), o 114 (ln 6 13), on (st 7 6 113)]
def r10_95t : LO := [on (st 6 7 114), o 8 (mi 0)]
def r10_95o : LN := [[], [], [0]]
def k10_26 : ACode := .seq (.drawn r10_95o r10_95 r10_95t) .ret
def k10_27 : ACode := .seq (.seq (.region r10_88) k10_25) k10_26
def k10_28 : ACode := .seq (.seq (.region r10_81) k10_24) k10_27
def k10_29 : ACode := .seq (.seq (.region r10_76) k10_23) k10_28
def k10_30 : ACode := .seq (.region r10_75) k10_29
def k10_31 : ACode := .seq (.seq (.region r10_68) k10_22) k10_30
def k10_32 : ACode := .seq (.region r10_67) k10_31
def k10_33 : ACode := .seq (.seq (.region r10_1) k10_21) k10_32
def k10_34 : ACode := .seq (.region r10_0) k10_33
theorem fn10 : getFn Tryz.prog 10 = some (115, k10_34, [.cell 6 (some 7), .cell 7 (some 6), .tmp 8]) := by kernel_rfl
def q10_0 (r : (GValue × GCursor × Int)) : QP := qret [.cell 6 (some 7), .cell 7 (some 6), .tmp 8] (e10 r)
def row_Scalar_j10 (y17 : (Int × GCursor × Int)) (p : GPlan) (o_ : GOp) (c : GCursor) (ij5 : Int) (r : (GValue × GCursor × Int)) : Prop := D Tryz.prog 115 0 0 k10_28 (q10_0 r) [(15, .ptr 6 0), (12, aU y17.1), (13, .ptr 5 0), (7, .ptr 4 0), (6, .ptr 3 0), (5, .ptr 2 0), (4, .ptr 1 0), (3, .ptr 0 0)] ⟨[some (eGPlan p), some (eGOp o_), some (eGCursor c), some zV, some [aE, aI 0, aI 0, aI 0, aI 0, aI 0], some (eGCursor y17.2.1), some [aI o_.Kind, aU ij5, aE, .nil, .nil, .nil, .nil]], [], []⟩
def q10_2 (r : (GValue × GCursor × Int)) : QP := tq Tryz.prog 115 k10_32 (q10_0 r)
def q10_4 (r : (GValue × GCursor × Int)) : QP := inBlockA 0 (q10_2 r)
def row_Scalar_j8 (bj4 : Bool) (p : GPlan) (o_ : GOp) (c : GCursor) (r : (GValue × GCursor × Int)) : Prop := D Tryz.prog 115 0 0 k10_13 (q10_4 r) [(60, aB bj4), (7, .ptr 4 0), (6, .ptr 3 0), (5, .ptr 2 0), (4, .ptr 1 0), (3, .ptr 0 0)] ⟨[some (eGPlan p), some (eGOp o_), some (eGCursor c), some zV, some [aE, aI 0, aI 0, aI 0, aI 0, aI 0]], [], []⟩
def row_Scalar_j6 (bj3 : Bool) (o_ : GOp) (p : GPlan) (c : GCursor) (r : (GValue × GCursor × Int)) : Prop := D Tryz.prog 115 0 0 k10_15 (q10_4 r) [(50, aB bj3), (17, aI o_.Kind), (7, .ptr 4 0), (6, .ptr 3 0), (5, .ptr 2 0), (4, .ptr 1 0), (3, .ptr 0 0)] ⟨[some (eGPlan p), some (eGOp o_), some (eGCursor c), some zV, some [aE, aI 0, aI 0, aI 0, aI 0, aI 0]], [], []⟩
theorem row_Scalar_j10_step (y17 : (Int × GCursor × Int)) (p : GPlan) (o_ : GOp) (c : GCursor) (ij5 : Int) (r : (GValue × GCursor × Int)) (hw : ∃ y21, scalar_Fits o_.Kind (⟨o_.Kind, ij5, (⟨#[]⟩ : ByteArray), ([] : (List GValue)), ([] : (List (GValue × GValue))), ([] : (List (Int × GValue))), ([] : (List GRaw))⟩ : GValue) y21 /\ (((!y21) = true -> r = ((⟨0, 0, (⟨#[]⟩ : ByteArray), ([] : (List GValue)), ([] : (List (GValue × GValue))), ([] : (List (Int × GValue))), ([] : (List GRaw))⟩ : GValue), c, 6)) /\ ((!y21) = false -> ∃ R4 : Bool -> Prop, (∀ bz4 : Bool, R4 bz4 -> ((bz4 = true -> r = ((⟨0, 0, (⟨#[]⟩ : ByteArray), ([] : (List GValue)), ([] : (List (GValue × GValue))), ([] : (List (Int × GValue))), ([] : (List GRaw))⟩ : GValue), c, 16)) /\ (bz4 = false -> r = ((⟨o_.Kind, ij5, (⟨#[]⟩ : ByteArray), ([] : (List GValue)), ([] : (List (GValue × GValue))), ([] : (List (Int × GValue))), ([] : (List GRaw))⟩ : GValue), y17.2.1, 0)))) /\ (((o_.Kind == 9) = true -> ∃ y22, plan_Accepts p o_.Target y17.1 y22 /\ (R4 (!y22))) /\ ((o_.Kind == 9) = false -> R4 false))))) : row_Scalar_j10 y17 p o_ c ij5 r := by
 show D _ _ _ _ _ _ _ _
 refine d_seqQ (ds (va 3 [(95, .agg [aI o_.Kind, aU ij5, aE, .nil, .nil, .nil, .nil]), (94, aI o_.Kind)] ?_))
 obtain ⟨y21, hy, hw⟩ := hw
 refine vo rfl (x_call hy pl36) rfl (va 1 [(97, aB (!y21))] (ve (dw hw (fun _ hw => ?_) (fun _ hw => ?_))))
 ·exact d_seqQ (dS [(2, (eGCursor c))] (sa 3 2 [(99, .agg (eGCursor c)), (98, .agg zV)] (sw [] rfl (x_U (.tuple []) [] []) (send (vp_start' (vg 2 [(8, aI 6)] [] [(4, (eGCursor c))] (ve (d_ret (rx hw (plr10 _))))))))))
 refine d_skip (d_seqQ (ds (va 4 [(103, aB (o_.Kind == 9))] ?_)))
 obtain ⟨R4, hR, hw⟩ := hw
 refine vr 103 110 11 (o_.Kind == 9) R4 (fun bz4 => aB bz4) km_d (fun bz4 hz => ?_) (fun key => ⟨fun hb44 => ?_, fun hb44 => ?_⟩)
 ·have hw := hR bz4 hz
  refine ve (dw hw (fun _ hw => ?_) (fun _ hw => ?_))
  ·exact d_seqQ (dS [(2, (eGCursor c))] (sa 3 2 [(112, .agg (eGCursor c)), (111, .agg zV)] (sw [] rfl (x_U (.tuple []) [] []) (send (vp_start' (vg 2 [(8, aI 16)] [] [(4, (eGCursor c))] (ve (d_ret (rx hw (plr10 _))))))))))
  exact d_skip (d_seqQ (dS [(5, (eGCursor y17.2.1)), (6, [aI o_.Kind, aU ij5, aE, .nil, .nil, .nil, .nil])] (sa 7 2 [(114, .agg (eGCursor y17.2.1)), (113, .agg [aI o_.Kind, aU ij5, aE, .nil, .nil, .nil, .nil])] (sw [] rfl (x_U (.tuple []) [] [(3, [aI o_.Kind, aU ij5, aE, .nil, .nil, .nil, .nil])]) (send (vp_start' (vg 2 [(8, aI 0)] [] [(4, (eGCursor y17.2.1))] (ve (d_ret (rx hw (plr10 _)))))))))))
 ·have hw := hw.1 hb44
  refine va 4 [(107, aU y17.1), (106, aI o_.Target), (104, .agg (eGPlan p))] ?_
  obtain ⟨y22, hy, hw⟩ := hw
  exact vo rfl (x_call hy pl37) rfl (va 1 [(109, aB (!y22))] (va 1 [(110, aB (!y22))] (vle km_d (key _ hw))))
 ·have hw := hw.2 hb44
  exact va 6 [(109, .tuple [])] (va 1 [(110, aB false)] (vle km_d (key _ hw)))
theorem row_Scalar_j8_step (bj4 : Bool) (p : GPlan) (o_ : GOp) (c : GCursor) (r : (GValue × GCursor × Int)) (hw : (bj4 = true -> ∃ y17, row_number c y17 /\ (((y17.2.2 != 0) = true -> r = ((⟨0, 0, (⟨#[]⟩ : ByteArray), ([] : (List GValue)), ([] : (List (GValue × GValue))), ([] : (List (Int × GValue))), ([] : (List GRaw))⟩ : GValue), c, y17.2.2)) /\ ((y17.2.2 != 0) = false -> (((o_.Kind == 2) || (o_.Kind == 3)) = true -> ∃ y18, varint_Zag y17.1 y18 /\ (row_Scalar_j10 y17 p o_ c (wU y18) r)) /\ (((o_.Kind == 2) || (o_.Kind == 3)) = false -> row_Scalar_j10 y17 p o_ c y17.1 r)))) /\ (bj4 = false -> r = ((⟨0, 0, (⟨#[]⟩ : ByteArray), ([] : (List GValue)), ([] : (List (GValue × GValue))), ([] : (List (Int × GValue))), ([] : (List GRaw))⟩ : GValue), c, 12))) : row_Scalar_j8 bj4 p o_ c r := by
 show D _ _ _ _ _ _ _ _
 refine dw hw (fun _ hw => ?_) (fun _ hw => ?_)
 ·refine d_skip (ds (va 1 [(67, .agg (eGCursor c))] ?_))
  obtain ⟨y17, hy, hw⟩ := hw
  refine vo rfl (x_call hy pl34) rfl (vg 8 [(14, aI y17.2.2), (12, aU y17.1), (13, .ptr 5 0)] [(eGCursor y17.2.1)] [] (ve (d_seqQ (ds (va 2 [(73, aB (y17.2.2 != 0))] (ve (dw hw (fun _ hw => ?_) (fun _ hw => ?_))))))))
  ·exact d_seqQ (dS [(2, (eGCursor c))] (sa 3 3 [(76, aI y17.2.2), (75, .agg (eGCursor c)), (74, .agg zV)] (sw [] rfl (x_U (.tuple []) [] []) (sw [] rfl (x_U (.tuple []) [] [(4, (eGCursor c))]) (send (vp_start' (va 1 [(8, aI y17.2.2)] (ve (d_ret (rx hw (plr10 _)))))))))))
  refine d_skip (ds (vg 6 [(15, .ptr 6 0)] [[aI o_.Kind, aU y17.1, aE, .nil, .nil, .nil, .nil]] [] (ve (d_seqQ (ds (va 4 [(84, aB (o_.Kind == 2))] (vj 84 88 8 (o_.Kind == 2) (fun z => aB (z || (o_.Kind == 3))) km_d (fun _ key => ?_) (fun _ key => ?_) ?_)))))))
  ·exact va 3 [(87, .tuple [])] (va 1 [(88, aB true)] (vle km_d key))
  ·exact va 3 [(87, aB (o_.Kind == 3))] (va 1 [(88, aB (o_.Kind == 3))] (vle km_d key))
  refine ve (dw hw (fun _ hw => ?_) (fun _ hw => ?_))
  ·refine dr (va 1 [(89, aU y17.1)] ?_)
   obtain ⟨y18, hy, hw⟩ := hw
   exact vo rfl (x_call hy pl35) rfl (vg 3 [] [] [(6, [aI o_.Kind, aU (wU y18), aE, .nil, .nil, .nil, .nil])] (ve (jd0 hw)))
  exact d_skip (jd0 hw)
 exact d_seqQ (dS [(2, (eGCursor c))] (sa 3 2 [(19, .agg (eGCursor c)), (18, .agg zV)] (sw [] rfl (x_U (.tuple []) [] []) (send (vp_start' (vg 2 [(8, aI 12)] [] [(4, (eGCursor c))] (ve (d_ret (rx hw (plr10 _))))))))))
theorem row_Scalar_j6_step (bj3 : Bool) (o_ : GOp) (p : GPlan) (c : GCursor) (r : (GValue × GCursor × Int)) (hw : (bj3 = true -> ∃ y13, row_text o_.Kind c y13 /\ (r = (y13.1, y13.2.1, y13.2.2))) /\ (bj3 = false -> ((o_.Kind == 2) = true -> row_Scalar_j8 (o_.Kind == 2) p o_ c r) /\ ((o_.Kind == 2) = false -> ((o_.Kind == 3) = true -> row_Scalar_j8 (o_.Kind == 3) p o_ c r) /\ ((o_.Kind == 3) = false -> ((o_.Kind == 4) = true -> row_Scalar_j8 (o_.Kind == 4) p o_ c r) /\ ((o_.Kind == 4) = false -> ((o_.Kind == 5) = true -> row_Scalar_j8 (o_.Kind == 5) p o_ c r) /\ ((o_.Kind == 5) = false -> row_Scalar_j8 (o_.Kind == 9) p o_ c r)))))) : row_Scalar_j6 bj3 o_ p c r := by
 show D _ _ _ _ _ _ _ _
 refine dw hw (fun _ hw => ?_) (fun _ hw => ?_)
 ·refine ds (va 3 [(55, .agg (eGCursor c)), (54, aI o_.Kind)] ?_)
  obtain ⟨y13, hy, hw⟩ := hw
  exact vo rfl (x_call hy pl33) rfl (vg 6 [(8, aI y13.2.2)] [] [(3, (eGValue y13.1)), (4, (eGCursor y13.2.1))] (ve (d_ret (rx hw (plr10 _)))))
 refine d_seqQ (ds (va 2 [(60, aB (o_.Kind == 2))] (ve (dw hw (fun _ hw => ?_) (fun _ hw => ?_)))))
 ·exact d_skip (jd0 hw)
 refine ds (va 2 [(60, aB (o_.Kind == 3))] (ve (dw hw (fun _ hw => ?_) (fun _ hw => ?_))))
 ·exact d_skip (jd0 hw)
 refine ds (va 2 [(60, aB (o_.Kind == 4))] (ve (dw hw (fun _ hw => ?_) (fun _ hw => ?_))))
 ·exact d_skip (jd0 hw)
 refine ds (va 2 [(60, aB (o_.Kind == 5))] (ve (dw hw (fun _ hw => ?_) (fun _ hw => ?_))))
 ·exact d_skip (jd0 hw)
 exact dr (va 2 [(60, aB (o_.Kind == 9))] (ve (jd0 hw)))
theorem row_Scalar_step (p : GPlan) (o_ : GOp) (c : GCursor) (r : (GValue × GCursor × Int)) (hw : ((o_.Kind == 1) = true -> ∃ y1, cursor_Byte c y1 /\ (((y1.2.2 != 0) = true -> r = ((⟨0, 0, (⟨#[]⟩ : ByteArray), ([] : (List GValue)), ([] : (List (GValue × GValue))), ([] : (List (Int × GValue))), ([] : (List GRaw))⟩ : GValue), c, y1.2.2)) /\ ((y1.2.2 != 0) = false -> ((decide (1 < y1.1)) = true -> r = ((⟨0, 0, (⟨#[]⟩ : ByteArray), ([] : (List GValue)), ([] : (List (GValue × GValue))), ([] : (List (Int × GValue))), ([] : (List GRaw))⟩ : GValue), c, 5)) /\ ((decide (1 < y1.1)) = false -> r = ((⟨o_.Kind, (wU y1.1), (⟨#[]⟩ : ByteArray), ([] : (List GValue)), ([] : (List (GValue × GValue))), ([] : (List (Int × GValue))), ([] : (List GRaw))⟩ : GValue), y1.2.1, 0))))) /\ ((o_.Kind == 1) = false -> ((o_.Kind == 6) = true -> ∃ y2, row_double c y2 /\ (r = (y2.1, y2.2.1, y2.2.2))) /\ ((o_.Kind == 6) = false -> ((o_.Kind == 7) = true -> row_Scalar_j6 (o_.Kind == 7) o_ p c r) /\ ((o_.Kind == 7) = false -> row_Scalar_j6 (o_.Kind == 8) o_ p c r)))) : row_Scalar p o_ c r := by
 refine f_pureD fn10 nle rfl (ds (vg 6 [(7, .ptr 4 0), (6, .ptr 3 0), (5, .ptr 2 0), (4, .ptr 1 0), (3, .ptr 0 0)] [(eGPlan p), (eGOp o_), (eGCursor c), zV, [aE, aI 0, aI 0, aI 0, aI 0, aI 0]] [] (ve (d_seqQ (ds (va 2 [(17, aI o_.Kind)] (ve (d_blockQ (ds (va 2 [(20, aB (o_.Kind == 1))] (ve (dw hw (fun _ hw => ?_) (fun _ hw => ?_)))))))))))))
 ·refine ds (va 1 [(23, .agg (eGCursor c))] ?_)
  obtain ⟨y1, hy, hw⟩ := hw
  refine vo rfl (x_call hy pl31) rfl (vg 8 [(11, aI y1.2.2), (9, aC y1.1), (10, .ptr 5 0)] [(eGCursor y1.2.1)] [] (ve (d_seqQ (ds (va 2 [(29, aB (y1.2.2 != 0))] (ve (dw hw (fun _ hw => ?_) (fun _ hw => ?_))))))))
  ·exact d_seqQ (dS [(2, (eGCursor c))] (sa 3 3 [(32, aI y1.2.2), (31, .agg (eGCursor c)), (30, .agg zV)] (sw [] rfl (x_U (.tuple []) [] []) (sw [] rfl (x_U (.tuple []) [] [(4, (eGCursor c))]) (send (vp_start' (va 1 [(8, aI y1.2.2)] (ve (d_ret (rx hw (plr10 _)))))))))))
  refine d_skip (d_seqQ (ds (va 2 [(34, aB (decide (1 < y1.1)))] (ve (dw hw (fun _ hw => ?_) (fun _ hw => ?_))))))
  ·exact d_seqQ (dS [(2, (eGCursor c))] (sa 3 2 [(36, .agg (eGCursor c)), (35, .agg zV)] (sw [] rfl (x_U (.tuple []) [] []) (send (vp_start' (vg 2 [(8, aI 5)] [] [(4, (eGCursor c))] (ve (d_ret (rx hw (plr10 _))))))))))
  exact d_skip (d_seqQ (dS [(1, (eGOp o_)), (5, (eGCursor y1.2.1))] (sa 6 6 [(42, .agg (eGCursor y1.2.1)), (41, .agg [aI o_.Kind, aU (wU y1.1), aE, .nil, .nil, .nil, .nil])] (sw [] rfl (x_U (.tuple []) [] [(3, [aI o_.Kind, aU (wU y1.1), aE, .nil, .nil, .nil, .nil])]) (send (vp_start' (vg 2 [(8, aI 0)] [] [(4, (eGCursor y1.2.1))] (ve (d_ret (rx hw (plr10 _)))))))))))
 refine ds (va 2 [(43, aB (o_.Kind == 6))] (ve (dw hw (fun _ hw => ?_) (fun _ hw => ?_))))
 ·refine ds (va 1 [(45, .agg (eGCursor c))] ?_)
  obtain ⟨y2, hy, hw⟩ := hw
  exact vo rfl (x_call hy pl32) rfl (vg 6 [(8, aI y2.2.2)] [] [(3, (eGValue y2.1)), (4, (eGCursor y2.2.1))] (ve (d_ret (rx hw (plr10 _)))))
 refine d_seqQ (ds (va 2 [(50, aB (o_.Kind == 7))] (ve (dw hw (fun _ hw => ?_) (fun _ hw => ?_)))))
 ·exact d_skip (jd0 hw)
 exact dr (va 2 [(50, aB (o_.Kind == 8))] (ve (jd0 hw)))
theorem plr11 (r : (GValue × GCursor × Int)) : plain (e11 r) = true := (ptup (pcons (pl_GValue r.1) (pcons (pl_GCursor r.2.1) (pcons rfl rfl))))
def r11_0 : LO := [o 3 (bx 0), o 4 (bx 1), o 5 (bx 2), o 6 (.alloc zV), o 7 (.alloc [aE, (aI 0), (aI 0), (aI 0), (aI 0), (aI 0)]), o 8 (mi 0)]
def r11_1 : LO := [o 19 (fa 5 4), o 20 (ld 19), o 21 (.build zV [((0, 1), (T 20))]), o 9 (.alloc zV), on (st 7 9 21)]
def r11_2 : LO := [o 22 (fa 5 4), o 23 (ld 22)]
def r11_3 : LO := [o 25 (.bin .eql (T 23) (ci 7)), o 24 (mv 25)]
def r11_5 : LO := [o 26 (.bin .eql (T 23) (ci 8)), o 24 (mv 26)]
def k11_1 : ACode := .cond (T 24) .skip (.region r11_5)
def r11_8 : LO := [o 27 (fa 5 4), o 28 (ld 27), o 29 (ln 6 5), o 30 (.call (cf 38) [(T 28), (T 29)]), o 31 (.extract 0 (T 30)), o 32 (.extract 1 (T 30)), o 33 (.extract 2 (T 30)), on (st 7 6 31), on (st 6 7 32), o 8 (mv 33)]
def r11_11 : LO := [o 35 (.bin .eql (T 23) (ci 1)), o 34 (mv 35)]
def r11_12 : LO := [o 37 (ln 6 5), o 38 (.call (cf 39) [(T 37)]), o 36 (mv 38), o 39 (.extract 0 (T 36)), o 40 (.extract 1 (T 36)), o 41 (.extract 2 (T 36)), o 11 (.alloc [aE, (aI 0), (aI 0), (aI 0), (aI 0), (aI 0)]), o 10 (mv 39), on (st 6 11 40), o 12 (mv 41)]
def r11_13 : LO := [o 42 (mv 12), o 43 (.bin .neq (T 42) (ci 0))]
def r11_14 : LO := [o 44 (.build zV []), o 45 (ln 6 5), o 46 (mv 12), on (st 7 6 44), on (st 6 7 45)]
def r11_14t : LO := [o 8 (mv 46)]
def r11_14o : LN := [[], [], [], [0], [0, 1, 3]]
def k11_2 : ACode := .cond (T 43) (.seq (.drawn r11_14o r11_14 r11_14t) .ret) .skip
def r11_20 : LO := [o 47 (mv 10), o 48 (.bin .gtr (T 47) (.c (aC 1)))]
def r11_21 : LO := [o 49 (.build zV []), o 50 (ln 6 5), on (st 7 6 49)]
def r11_21t : LO := [on (st 6 7 50), o 8 (mi 5)]
def r11_21o : LN := [[], [], [0]]
def k11_3 : ACode := .cond (T 48) (.seq (.drawn r11_21o r11_21 r11_21t) .ret) .skip
def r11_27 : LO := [o 51 (mv 10), o 52 (.conv (.num .u64) (T 51)), o 53 (fa 1 9), on (st 1 53 52)]
def r11_28 : LO := [o 54 (ln 7 9), o 55 (ln 6 11), on (st 7 6 54)]
def r11_28t : LO := [on (st 6 7 55), o 8 (mi 0)]
def r11_28o : LN := [[], [], [0]]
def k11_4 : ACode := .seq (.drawn r11_28o r11_28 r11_28t) .ret
def k11_5 : ACode := .seq (.region r11_27) k11_4
def k11_6 : ACode := .seq (.seq (.region r11_20) k11_3) k11_5
def k11_7 : ACode := .seq (.seq (.region r11_13) k11_2) k11_6
def r11_35 : LO := [o 57 (.bin .eql (T 23) (ci 6)), o 56 (mv 57)]
def r11_36 : LO := [o 59 (ln 6 5), o 60 (.call (cf 40) [(T 59)]), o 58 (mv 60), o 61 (.extract 0 (T 58)), o 62 (.extract 1 (T 58)), o 63 (.extract 2 (T 58)), o 14 (.alloc [aE, (aI 0), (aI 0), (aI 0), (aI 0), (aI 0)]), o 13 (mv 61), on (st 6 14 62), o 15 (mv 63)]
def r11_37 : LO := [o 64 (mv 15), o 65 (.bin .neq (T 64) (ci 0))]
def r11_38 : LO := [o 66 (.build zV []), o 67 (ln 6 5), o 68 (mv 15), on (st 7 6 66), on (st 6 7 67)]
def r11_38t : LO := [o 8 (mv 68)]
def r11_38o : LN := [[], [], [], [0], [0, 1, 3]]
def k11_8 : ACode := .cond (T 65) (.seq (.drawn r11_38o r11_38 r11_38t) .ret) .skip
def r11_44 : LO := [o 69 (mv 13), o 70 (fa 1 9), on (st 1 70 69)]
def r11_45 : LO := [o 71 (ln 7 9), o 72 (.call (cf 41) [(T 71)]), o 73 (.field none 1 (T 72)), o 74 (mv 13), o 75 (.bin .neq (T 73) (T 74))]
def r11_46 : LO := [o 76 (.build zV []), o 77 (ln 6 5), on (st 7 6 76)]
def r11_46t : LO := [on (st 6 7 77), o 8 (mi 5)]
def r11_46o : LN := [[], [], [0]]
def k11_9 : ACode := .cond (T 75) (.seq (.drawn r11_46o r11_46 r11_46t) .ret) .skip
def r11_52 : LO := [o 78 (ln 7 9), o 79 (ln 6 14), on (st 7 6 78)]
def r11_52t : LO := [on (st 6 7 79), o 8 (mi 0)]
def r11_52o : LN := [[], [], [0]]
def k11_10 : ACode := .seq (.drawn r11_52o r11_52 r11_52t) .ret
def k11_11 : ACode := .seq (.seq (.region r11_45) k11_9) k11_10
def k11_12 : ACode := .seq (.region r11_44) k11_11
def k11_13 : ACode := .seq (.seq (.region r11_37) k11_8) k11_12
def k11_14 : ACode := .cond (T 56) (.seq (.region r11_36) k11_13) .skip
def k11_15 : ACode := .seq (.region r11_35) k11_14
def k11_16 : ACode := .cond (T 34) (.seq (.region r11_12) k11_7) k11_15
def k11_17 : ACode := .seq (.region r11_11) k11_16
def k11_18 : ACode := .cond (T 24) (.seq (.region r11_8) .ret) k11_17
def k11_19 : ACode := .seq (.seq (.region r11_3) k11_1) k11_18
def k11_20 : ACode := .block 0 k11_19
def r11_68 : LO := [o 80 (fa 5 4), o 81 (ld 80), o 82 (.call (cf 42) [(T 81)]), o 83 (.un .not (T 82))]
def r11_69 : LO := [o 84 (.build zV []), o 85 (ln 6 5), on (st 7 6 84)]
def r11_69t : LO := [on (st 6 7 85), o 8 (mi 12)]
def r11_69o : LN := [[], [], [0]]
def k11_21 : ACode := .cond (T 83) (.seq (.drawn r11_69o r11_69 r11_69t) .ret) .skip
def r11_75 : LO := [o 87 (ln 6 5), o 88 (.call (cf 43) [(T 87)]), o 86 (mv 88), o 89 (.extract 0 (T 86)), o 90 (.extract 1 (T 86)), o 91 (.extract 2 (T 86)), o 17 (.alloc [aE, (aI 0), (aI 0), (aI 0), (aI 0), (aI 0)]), o 16 (mv 89), on (st 6 17 90), o 18 (mv 91)]
def r11_76 : LO := [o 92 (mv 18), o 93 (.bin .neq (T 92) (ci 0))]
def r11_77 : LO := [o 94 (.build zV []), o 95 (ln 6 5), o 96 (mv 18), on (st 7 6 94), on (st 6 7 95)]
def r11_77t : LO := [o 8 (mv 96)]
def r11_77o : LN := [[], [], [], [0], [0, 1, 3]]
def k11_22 : ACode := .cond (T 93) (.seq (.drawn r11_77o r11_77 r11_77t) .ret) .skip
def r11_83 : LO := [o 97 (mv 16), o 98 (fa 1 9), on (st 1 98 97)]
def r11_84 : LO := [o 99 (fa 5 4), o 100 (ld 99), o 101 (.bin .eql (T 100) (ci 2)), o 102 (mv 101), og 103 (fa 5 4) 102 false, og 104 (ld 103) 102 false, og 105 (.bin .eql (T 104) (ci 3)) 102 false, o 106 (.pick (T 102) (cb true) (T 105))]
def r11_85 : LO := [o 107 (mv 16), o 108 (.call (cf 44) [(T 107)]), o 109 (.conv (.num .u64) (T 108)), o 110 (fa 1 9), on (st 1 110 109)]
def k11_23 : ACode := .cond (T 106) (.region r11_85) .skip
def r11_89 : LO := [o 111 (fa 5 4), o 112 (ld 111), o 113 (ln 7 9), o 114 (.call (cf 45) [(T 112), (T 113)]), o 115 (.un .not (T 114))]
def r11_90 : LO := [o 116 (.build zV []), o 117 (ln 6 5), on (st 7 6 116)]
def r11_90t : LO := [on (st 6 7 117), o 8 (mi 6)]
def r11_90o : LN := [[], [], [0]]
def k11_24 : ACode := .cond (T 115) (.seq (.drawn r11_90o r11_90 r11_90t) .ret) .skip
def r11_96 : LO := [o 118 (fa 5 4), o 119 (ld 118), o 120 (.bin .eql (T 119) (ci 9)), o 121 (mv 120), og 122 (ln 2 3) 121 true, og 123 (fa 6 4) 121 true, og 124 (ld 123) 121 true, og 125 (mv 16) 121 true, og 126 (.call (cf 46) [(T 122), (T 124), (T 125)]) 121 true, og 127 (.un .not (T 126)) 121 true, o 128 (.pick (T 121) (T 127) (cb false))]
def r11_97 : LO := [o 129 (.build zV []), o 130 (ln 6 5), on (st 7 6 129)]
def r11_97t : LO := [on (st 6 7 130), o 8 (mi 16)]
def r11_97o : LN := [[], [], [0]]
def k11_25 : ACode := .cond (T 128) (.seq (.drawn r11_97o r11_97 r11_97t) .ret) .skip
def r11_103 : LO := [o 131 (ln 7 9), o 132 (ln 6 17), on (st 7 6 131)]
def r11_103t : LO := [on (st 6 7 132), o 8 (mi 0)]
def r11_103o : LN := [[], [], [0]]
def k11_26 : ACode := .seq (.drawn r11_103o r11_103 r11_103t) .ret
def k11_27 : ACode := .seq (.seq (.region r11_96) k11_25) k11_26
def k11_28 : ACode := .seq (.seq (.region r11_89) k11_24) k11_27
def k11_29 : ACode := .seq (.seq (.region r11_84) k11_23) k11_28
def k11_30 : ACode := .seq (.region r11_83) k11_29
def k11_31 : ACode := .seq (.seq (.region r11_76) k11_22) k11_30
def k11_32 : ACode := .seq (.region r11_75) k11_31
def k11_33 : ACode := .seq (.seq (.region r11_68) k11_21) k11_32
def k11_34 : ACode := .seq (.seq (.region r11_2) k11_20) k11_33
def k11_35 : ACode := .seq (.region r11_1) k11_34
def k11_36 : ACode := .seq (.region r11_0) k11_35
theorem fn11 : getFn Tryz.prog 11 = some (133, k11_36, [.cell 6 (some 7), .cell 7 (some 6), .tmp 8]) := by kernel_rfl
def q11_0 (r : (GValue × GCursor × Int)) : QP := qret [.cell 6 (some 7), .cell 7 (some 6), .tmp 8] (e11 r)
def ref28_Scalar_j6 (y17 : (Int × GCursor × Int)) (p : GPlan) (o_ : GOp) (c : GCursor) (ij3 : Int) (r : (GValue × GCursor × Int)) : Prop := D Tryz.prog 133 0 0 k11_28 (q11_0 r) [(16, aU y17.1), (17, .ptr 6 0), (9, .ptr 5 0), (7, .ptr 4 0), (6, .ptr 3 0), (5, .ptr 2 0), (4, .ptr 1 0), (3, .ptr 0 0)] ⟨[some (eGPlan p), some (eGOp o_), some (eGCursor c), some zV, some [aE, aI 0, aI 0, aI 0, aI 0, aI 0], some [aI o_.Kind, aU ij3, aE, .nil, .nil, .nil, .nil], some (eGCursor y17.2.1)], [], []⟩
def q11_3 (r : (GValue × GCursor × Int)) : QP := tq Tryz.prog 133 k11_33 (q11_0 r)
def q11_5 (r : (GValue × GCursor × Int)) : QP := inBlockA 0 (q11_3 r)
def ref28_Scalar_j4 (bj2 : Bool) (o_ : GOp) (p : GPlan) (c : GCursor) (r : (GValue × GCursor × Int)) : Prop := D Tryz.prog 133 0 0 k11_18 (q11_5 r) [(24, aB bj2), (23, aI o_.Kind), (9, .ptr 5 0), (7, .ptr 4 0), (6, .ptr 3 0), (5, .ptr 2 0), (4, .ptr 1 0), (3, .ptr 0 0)] ⟨[some (eGPlan p), some (eGOp o_), some (eGCursor c), some zV, some [aE, aI 0, aI 0, aI 0, aI 0, aI 0], some [aI o_.Kind, aU 0, aE, .nil, .nil, .nil, .nil]], [], []⟩
theorem ref28_Scalar_j6_step (y17 : (Int × GCursor × Int)) (p : GPlan) (o_ : GOp) (c : GCursor) (ij3 : Int) (r : (GValue × GCursor × Int)) (hw : ∃ y21, ref04_Fits o_.Kind (⟨o_.Kind, ij3, (⟨#[]⟩ : ByteArray), ([] : (List GValue)), ([] : (List (GValue × GValue))), ([] : (List (Int × GValue))), ([] : (List GRaw))⟩ : GValue) y21 /\ (((!y21) = true -> r = ((⟨0, 0, (⟨#[]⟩ : ByteArray), ([] : (List GValue)), ([] : (List (GValue × GValue))), ([] : (List (Int × GValue))), ([] : (List GRaw))⟩ : GValue), c, 6)) /\ ((!y21) = false -> ∃ R4 : Bool -> Prop, (∀ bz4 : Bool, R4 bz4 -> ((bz4 = true -> r = ((⟨0, 0, (⟨#[]⟩ : ByteArray), ([] : (List GValue)), ([] : (List (GValue × GValue))), ([] : (List (Int × GValue))), ([] : (List GRaw))⟩ : GValue), c, 16)) /\ (bz4 = false -> r = ((⟨o_.Kind, ij3, (⟨#[]⟩ : ByteArray), ([] : (List GValue)), ([] : (List (GValue × GValue))), ([] : (List (Int × GValue))), ([] : (List GRaw))⟩ : GValue), y17.2.1, 0)))) /\ (((o_.Kind == 9) = true -> ∃ y22, ref22_Accepts p o_.Target y17.1 y22 /\ (R4 (!y22))) /\ ((o_.Kind == 9) = false -> R4 false))))) : ref28_Scalar_j6 y17 p o_ c ij3 r := by
 show D _ _ _ _ _ _ _ _
 refine d_seqQ (ds (va 3 [(113, .agg [aI o_.Kind, aU ij3, aE, .nil, .nil, .nil, .nil]), (112, aI o_.Kind)] ?_))
 obtain ⟨y21, hy, hw⟩ := hw
 refine vo rfl (x_call hy pl45) rfl (va 1 [(115, aB (!y21))] (ve (dw hw (fun _ hw => ?_) (fun _ hw => ?_))))
 ·exact d_seqQ (dS [(2, (eGCursor c))] (sa 3 2 [(117, .agg (eGCursor c)), (116, .agg zV)] (sw [] rfl (x_U (.tuple []) [] []) (send (vp_start' (vg 2 [(8, aI 6)] [] [(4, (eGCursor c))] (ve (d_ret (rx hw (plr11 _))))))))))
 refine d_skip (d_seqQ (ds (va 4 [(121, aB (o_.Kind == 9))] ?_)))
 obtain ⟨R4, hR, hw⟩ := hw
 refine vr 121 128 11 (o_.Kind == 9) R4 (fun bz4 => aB bz4) km_d (fun bz4 hz => ?_) (fun key => ⟨fun hb38 => ?_, fun hb38 => ?_⟩)
 ·have hw := hR bz4 hz
  refine ve (dw hw (fun _ hw => ?_) (fun _ hw => ?_))
  ·exact d_seqQ (dS [(2, (eGCursor c))] (sa 3 2 [(130, .agg (eGCursor c)), (129, .agg zV)] (sw [] rfl (x_U (.tuple []) [] []) (send (vp_start' (vg 2 [(8, aI 16)] [] [(4, (eGCursor c))] (ve (d_ret (rx hw (plr11 _))))))))))
  exact d_skip (d_seqQ (dS [(5, [aI o_.Kind, aU ij3, aE, .nil, .nil, .nil, .nil]), (6, (eGCursor y17.2.1))] (sa 7 2 [(132, .agg (eGCursor y17.2.1)), (131, .agg [aI o_.Kind, aU ij3, aE, .nil, .nil, .nil, .nil])] (sw [] rfl (x_U (.tuple []) [] [(3, [aI o_.Kind, aU ij3, aE, .nil, .nil, .nil, .nil])]) (send (vp_start' (vg 2 [(8, aI 0)] [] [(4, (eGCursor y17.2.1))] (ve (d_ret (rx hw (plr11 _)))))))))))
 ·have hw := hw.1 hb38
  refine va 4 [(125, aU y17.1), (124, aI o_.Target), (122, .agg (eGPlan p))] ?_
  obtain ⟨y22, hy, hw⟩ := hw
  exact vo rfl (x_call hy pl46) rfl (va 1 [(127, aB (!y22))] (va 1 [(128, aB (!y22))] (vle km_d (key _ hw))))
 ·have hw := hw.2 hb38
  exact va 6 [(127, .tuple [])] (va 1 [(128, aB false)] (vle km_d (key _ hw)))
theorem ref28_Scalar_j4_step (bj2 : Bool) (o_ : GOp) (p : GPlan) (c : GCursor) (r : (GValue × GCursor × Int)) (hw : (bj2 = true -> ∃ y12, ref28_text o_.Kind c y12 /\ (r = (y12.1, y12.2.1, y12.2.2))) /\ (bj2 = false -> ((o_.Kind == 1) = true -> ∃ y13, ref02_Byte c y13 /\ (((y13.2.2 != 0) = true -> r = ((⟨0, 0, (⟨#[]⟩ : ByteArray), ([] : (List GValue)), ([] : (List (GValue × GValue))), ([] : (List (Int × GValue))), ([] : (List GRaw))⟩ : GValue), c, y13.2.2)) /\ ((y13.2.2 != 0) = false -> ((decide (1 < y13.1)) = true -> r = ((⟨0, 0, (⟨#[]⟩ : ByteArray), ([] : (List GValue)), ([] : (List (GValue × GValue))), ([] : (List (Int × GValue))), ([] : (List GRaw))⟩ : GValue), c, 5)) /\ ((decide (1 < y13.1)) = false -> r = ((⟨o_.Kind, (wU y13.1), (⟨#[]⟩ : ByteArray), ([] : (List GValue)), ([] : (List (GValue × GValue))), ([] : (List (Int × GValue))), ([] : (List GRaw))⟩ : GValue), y13.2.1, 0))))) /\ ((o_.Kind == 1) = false -> ((o_.Kind == 6) = true -> ∃ y14, ref02_Fixed c y14 /\ (((y14.2.2 != 0) = true -> r = ((⟨0, 0, (⟨#[]⟩ : ByteArray), ([] : (List GValue)), ([] : (List (GValue × GValue))), ([] : (List (Int × GValue))), ([] : (List GRaw))⟩ : GValue), c, y14.2.2)) /\ ((y14.2.2 != 0) = false -> ∃ y15, ref04_Norm (⟨o_.Kind, y14.1, (⟨#[]⟩ : ByteArray), ([] : (List GValue)), ([] : (List (GValue × GValue))), ([] : (List (Int × GValue))), ([] : (List GRaw))⟩ : GValue) y15 /\ (((y15.Bits != y14.1) = true -> r = ((⟨0, 0, (⟨#[]⟩ : ByteArray), ([] : (List GValue)), ([] : (List (GValue × GValue))), ([] : (List (Int × GValue))), ([] : (List GRaw))⟩ : GValue), c, 5)) /\ ((y15.Bits != y14.1) = false -> r = ((⟨o_.Kind, y14.1, (⟨#[]⟩ : ByteArray), ([] : (List GValue)), ([] : (List (GValue × GValue))), ([] : (List (Int × GValue))), ([] : (List GRaw))⟩ : GValue), y14.2.1, 0)))))) /\ ((o_.Kind == 6) = false -> ∃ y16, ref04_Is o_.Kind y16 /\ (((!y16) = true -> r = ((⟨0, 0, (⟨#[]⟩ : ByteArray), ([] : (List GValue)), ([] : (List (GValue × GValue))), ([] : (List (Int × GValue))), ([] : (List GRaw))⟩ : GValue), c, 12)) /\ ((!y16) = false -> ∃ y17, ref28_number c y17 /\ (((y17.2.2 != 0) = true -> r = ((⟨0, 0, (⟨#[]⟩ : ByteArray), ([] : (List GValue)), ([] : (List (GValue × GValue))), ([] : (List (Int × GValue))), ([] : (List GRaw))⟩ : GValue), c, y17.2.2)) /\ ((y17.2.2 != 0) = false -> (((o_.Kind == 2) || (o_.Kind == 3)) = true -> ∃ y18, ref01_Zag y17.1 y18 /\ (ref28_Scalar_j6 y17 p o_ c (wU y18) r)) /\ (((o_.Kind == 2) || (o_.Kind == 3)) = false -> ref28_Scalar_j6 y17 p o_ c y17.1 r))))))))) : ref28_Scalar_j4 bj2 o_ p c r := by
 show D _ _ _ _ _ _ _ _
 refine dw hw (fun _ hw => ?_) (fun _ hw => ?_)
 ·refine ds (va 3 [(29, .agg (eGCursor c)), (28, aI o_.Kind)] ?_)
  obtain ⟨y12, hy, hw⟩ := hw
  exact vo rfl (x_call hy pl38) rfl (vg 6 [(8, aI y12.2.2)] [] [(3, (eGValue y12.1)), (4, (eGCursor y12.2.1))] (ve (d_ret (rx hw (plr11 _)))))
 refine ds (va 2 [(34, aB (o_.Kind == 1))] (ve (dw hw (fun _ hw => ?_) (fun _ hw => ?_))))
 ·refine ds (va 1 [(37, .agg (eGCursor c))] ?_)
  obtain ⟨y13, hy, hw⟩ := hw
  refine vo rfl (x_call hy pl39) rfl (vg 8 [(12, aI y13.2.2), (10, aC y13.1), (11, .ptr 6 0)] [(eGCursor y13.2.1)] [] (ve (d_seqQ (ds (va 2 [(43, aB (y13.2.2 != 0))] (ve (dw hw (fun _ hw => ?_) (fun _ hw => ?_))))))))
  ·exact d_seqQ (dS [(2, (eGCursor c))] (sa 3 3 [(46, aI y13.2.2), (45, .agg (eGCursor c)), (44, .agg zV)] (sw [] rfl (x_U (.tuple []) [] []) (sw [] rfl (x_U (.tuple []) [] [(4, (eGCursor c))]) (send (vp_start' (va 1 [(8, aI y13.2.2)] (ve (d_ret (rx hw (plr11 _)))))))))))
  refine d_skip (d_seqQ (ds (va 2 [(48, aB (decide (1 < y13.1)))] (ve (dw hw (fun _ hw => ?_) (fun _ hw => ?_))))))
  ·exact d_seqQ (dS [(2, (eGCursor c))] (sa 3 2 [(50, .agg (eGCursor c)), (49, .agg zV)] (sw [] rfl (x_U (.tuple []) [] []) (send (vp_start' (vg 2 [(8, aI 5)] [] [(4, (eGCursor c))] (ve (d_ret (rx hw (plr11 _))))))))))
  exact d_skip (ds (vg 4 [] [] [(5, [aI o_.Kind, aU (wU y13.1), aE, .nil, .nil, .nil, .nil])] (ve (d_seqQ (dS [(5, [aI o_.Kind, aU (wU y13.1), aE, .nil, .nil, .nil, .nil]), (6, (eGCursor y13.2.1))] (sa 7 2 [(55, .agg (eGCursor y13.2.1)), (54, .agg [aI o_.Kind, aU (wU y13.1), aE, .nil, .nil, .nil, .nil])] (sw [] rfl (x_U (.tuple []) [] [(3, [aI o_.Kind, aU (wU y13.1), aE, .nil, .nil, .nil, .nil])]) (send (vp_start' (vg 2 [(8, aI 0)] [] [(4, (eGCursor y13.2.1))] (ve (d_ret (rx hw (plr11 _))))))))))))))
 refine ds (va 2 [(56, aB (o_.Kind == 6))] (ve (dw hw (fun _ hw => ?_) (fun _ hw => ?_))))
 ·refine ds (va 1 [(59, .agg (eGCursor c))] ?_)
  obtain ⟨y14, hy, hw⟩ := hw
  refine vo rfl (x_call hy pl40) rfl (vg 8 [(15, aI y14.2.2), (13, aU y14.1), (14, .ptr 6 0)] [(eGCursor y14.2.1)] [] (ve (d_seqQ (ds (va 2 [(65, aB (y14.2.2 != 0))] (ve (dw hw (fun _ hw => ?_) (fun _ hw => ?_))))))))
  ·exact d_seqQ (dS [(2, (eGCursor c))] (sa 3 3 [(68, aI y14.2.2), (67, .agg (eGCursor c)), (66, .agg zV)] (sw [] rfl (x_U (.tuple []) [] []) (sw [] rfl (x_U (.tuple []) [] [(4, (eGCursor c))]) (send (vp_start' (va 1 [(8, aI y14.2.2)] (ve (d_ret (rx hw (plr11 _)))))))))))
  refine d_skip (ds (vg 3 [] [] [(5, [aI o_.Kind, aU y14.1, aE, .nil, .nil, .nil, .nil])] (ve (d_seqQ (ds (va 1 [(71, .agg [aI o_.Kind, aU y14.1, aE, .nil, .nil, .nil, .nil])] ?_))))))
  obtain ⟨y15, hy, hw⟩ := hw
  refine vo rfl (x_call hy pl41) rfl (va 3 [(75, aB (y15.Bits != y14.1))] (ve (dw hw (fun _ hw => ?_) (fun _ hw => ?_))))
  ·exact d_seqQ (dS [(2, (eGCursor c))] (sa 3 2 [(77, .agg (eGCursor c)), (76, .agg zV)] (sw [] rfl (x_U (.tuple []) [] []) (send (vp_start' (vg 2 [(8, aI 5)] [] [(4, (eGCursor c))] (ve (d_ret (rx hw (plr11 _))))))))))
  exact d_skip (d_seqQ (dS [(5, [aI o_.Kind, aU y14.1, aE, .nil, .nil, .nil, .nil]), (6, (eGCursor y14.2.1))] (sa 7 2 [(79, .agg (eGCursor y14.2.1)), (78, .agg [aI o_.Kind, aU y14.1, aE, .nil, .nil, .nil, .nil])] (sw [] rfl (x_U (.tuple []) [] [(3, [aI o_.Kind, aU y14.1, aE, .nil, .nil, .nil, .nil])]) (send (vp_start' (vg 2 [(8, aI 0)] [] [(4, (eGCursor y14.2.1))] (ve (d_ret (rx hw (plr11 _)))))))))))
 refine d_skip (d_seqQ (ds (va 2 [(81, aI o_.Kind)] ?_)))
 obtain ⟨y16, hy, hw⟩ := hw
 refine vo rfl (x_call hy pl42) rfl (va 1 [(83, aB (!y16))] (ve (dw hw (fun _ hw => ?_) (fun _ hw => ?_))))
 ·exact d_seqQ (dS [(2, (eGCursor c))] (sa 3 2 [(85, .agg (eGCursor c)), (84, .agg zV)] (sw [] rfl (x_U (.tuple []) [] []) (send (vp_start' (vg 2 [(8, aI 12)] [] [(4, (eGCursor c))] (ve (d_ret (rx hw (plr11 _))))))))))
 refine d_skip (ds (va 1 [(87, .agg (eGCursor c))] ?_))
 obtain ⟨y17, hy, hw⟩ := hw
 refine vo rfl (x_call hy pl43) rfl (vg 8 [(18, aI y17.2.2), (16, aU y17.1), (17, .ptr 6 0)] [(eGCursor y17.2.1)] [] (ve (d_seqQ (ds (va 2 [(93, aB (y17.2.2 != 0))] (ve (dw hw (fun _ hw => ?_) (fun _ hw => ?_))))))))
 ·exact d_seqQ (dS [(2, (eGCursor c))] (sa 3 3 [(96, aI y17.2.2), (95, .agg (eGCursor c)), (94, .agg zV)] (sw [] rfl (x_U (.tuple []) [] []) (sw [] rfl (x_U (.tuple []) [] [(4, (eGCursor c))]) (send (vp_start' (va 1 [(8, aI y17.2.2)] (ve (d_ret (rx hw (plr11 _)))))))))))
 refine d_skip (ds (vg 3 [] [] [(5, [aI o_.Kind, aU y17.1, aE, .nil, .nil, .nil, .nil])] (ve (d_seqQ (ds (va 4 [(102, aB (o_.Kind == 2))] (vj 102 106 8 (o_.Kind == 2) (fun z => aB (z || (o_.Kind == 3))) km_d (fun _ key => ?_) (fun _ key => ?_) ?_)))))))
 ·exact va 3 [(105, .tuple [])] (va 1 [(106, aB true)] (vle km_d key))
 ·exact va 3 [(105, aB (o_.Kind == 3))] (va 1 [(106, aB (o_.Kind == 3))] (vle km_d key))
 refine ve (dw hw (fun _ hw => ?_) (fun _ hw => ?_))
 ·refine dr (va 1 [(107, aU y17.1)] ?_)
  obtain ⟨y18, hy, hw⟩ := hw
  exact vo rfl (x_call hy pl44) rfl (vg 3 [] [] [(5, [aI o_.Kind, aU (wU y18), aE, .nil, .nil, .nil, .nil])] (ve (jd0 hw)))
 exact d_skip (jd0 hw)
theorem ref28_Scalar_step (p : GPlan) (o_ : GOp) (c : GCursor) (r : (GValue × GCursor × Int)) (hw : ((o_.Kind == 7) = true -> ref28_Scalar_j4 (o_.Kind == 7) o_ p c r) /\ ((o_.Kind == 7) = false -> ref28_Scalar_j4 (o_.Kind == 8) o_ p c r)) : ref28_Scalar p o_ c r := by
 refine f_pureD fn11 nle rfl (ds (vg 6 [(7, .ptr 4 0), (6, .ptr 3 0), (5, .ptr 2 0), (4, .ptr 1 0), (3, .ptr 0 0)] [(eGPlan p), (eGOp o_), (eGCursor c), zV, [aE, aI 0, aI 0, aI 0, aI 0, aI 0]] [] (ve (ds (vg 5 [(9, .ptr 5 0)] [[aI o_.Kind, aU 0, aE, .nil, .nil, .nil, .nil]] [] (ve (d_seqQ (ds (va 2 [(23, aI o_.Kind)] (ve (d_blockQ (d_seqQ (ds (va 2 [(24, aB (o_.Kind == 7))] (ve (dw hw (fun _ hw => ?_) (fun _ hw => ?_)))))))))))))))))
 ·exact d_skip (jd0 hw)
 exact dr (va 2 [(24, aB (o_.Kind == 8))] (ve (jd0 hw)))
theorem plr12 (r : ByteArray) : plain (e12 r) = true := rfl
def r12_0 : LO := [o 1 (bx 0), o 2 (.mv (.c aE))]
def r12_1 : LO := [o 3 (fa 0 1), o 4 (ld 3), o 5 (ln 7 1), o 6 (.call (cf 36) [(T 4), (T 5)]), o 7 (.un .not (T 6))]
def r12_2 : LO := [o 2 (.mv (.c aE))]
def k12_1 : ACode := .cond (T 7) (.seq (.region r12_2) .ret) .skip
def k12_2 : ACode := .seq (.region r12_1) k12_1
def r12_8 : LO := [o 8 (fa 0 1), o 9 (ld 8)]
def r12_9 : LO := [o 11 (.bin .eql (T 9) (ci 1)), o 10 (mv 11)]
def r12_10 : LO := [o 12 (fa 1 1), o 13 (ld 12), o 14 (.conv (.num .u8) (T 13)), o 15 (.sliceLit 1 1 [(aC 0)] [((0, 1), (T 14))]), o 16 (.conv .str (T 15)), o 2 (mv 16)]
def r12_13 : LO := [o 18 (.bin .eql (T 9) (ci 2)), o 17 (mv 18)]
def r12_15 : LO := [o 19 (.bin .eql (T 9) (ci 3)), o 17 (mv 19)]
def k12_3 : ACode := .cond (T 17) .skip (.region r12_15)
def r12_18 : LO := [o 20 (fa 1 1), o 21 (ld 20), o 22 (.conv (.num .i64) (T 21)), o 23 (.call (cf 48) [(T 22)]), o 24 (.call (cf 47) [(T 23)]), o 2 (mv 24)]
def r12_21 : LO := [o 26 (.bin .eql (T 9) (ci 6)), o 25 (mv 26)]
def r12_22 : LO := [o 27 (ln 7 1), o 28 (.call (cf 50) [(T 27)]), o 29 (.field none 1 (T 28)), o 30 (.call (cf 49) [(T 29)]), o 2 (mv 30)]
def r12_25 : LO := [o 32 (.bin .eql (T 9) (ci 7)), o 31 (mv 32)]
def r12_27 : LO := [o 33 (.bin .eql (T 9) (ci 8)), o 31 (mv 33)]
def k12_4 : ACode := .cond (T 31) .skip (.region r12_27)
def r12_30 : LO := [o 34 (fa 2 1), o 35 (ld 34), o 36 (.len true (T 35)), o 37 (.conv (.num .u64) (T 36)), o 38 (.call (cf 47) [(T 37)]), o 39 (fa 2 1), o 40 (ld 39), o 41 (.bin .add (T 38) (T 40))]
def r12_30t : LO := [o 2 (mv 41)]
def r12_30o : LN := [[], [0], [1], [2], [3], [], [5], [4, 6]]
def k12_5 : ACode := .cond (T 31) (.seq (.drawn r12_30o r12_30 r12_30t) .ret) .skip
def k12_6 : ACode := .seq (.seq (.region r12_25) k12_4) k12_5
def k12_7 : ACode := .cond (T 25) (.seq (.region r12_22) .ret) k12_6
def k12_8 : ACode := .seq (.region r12_21) k12_7
def k12_9 : ACode := .cond (T 17) (.seq (.region r12_18) .ret) k12_8
def k12_10 : ACode := .seq (.seq (.region r12_13) k12_3) k12_9
def k12_11 : ACode := .cond (T 10) (.seq (.region r12_10) .ret) k12_10
def k12_12 : ACode := .seq (.region r12_9) k12_11
def k12_13 : ACode := .block 0 k12_12
def r12_44 : LO := [o 42 (fa 1 1), o 43 (ld 42), o 44 (.call (cf 47) [(T 43)]), o 2 (mv 44)]
def k12_14 : ACode := .seq (.region r12_44) .ret
def k12_15 : ACode := .seq (.seq (.region r12_8) k12_13) k12_14
def k12_16 : ACode := .seq k12_2 k12_15
def k12_17 : ACode := .seq (.region r12_0) k12_16
theorem fn12 : getFn Tryz.prog 12 = some (45, k12_17, [.tmp 2]) := by kernel_rfl
def q12_0 (r : ByteArray) : QP := qret [.tmp 2] (e12 r)
def q12_5 (r : ByteArray) : QP := tq Tryz.prog 45 k12_14 (q12_0 r)
def q12_7 (r : ByteArray) : QP := inBlockA 0 (q12_5 r)
def row_Put_j6 (bj3 : Bool) (v : GValue) (r : ByteArray) : Prop := D Tryz.prog 45 0 0 k12_5 (q12_7 r) [(31, aB bj3), (1, .ptr 0 0)] ⟨[some (eGValue v)], [], []⟩
def row_Put_j4 (bj2 : Bool) (v : GValue) (r : ByteArray) : Prop := D Tryz.prog 45 0 0 k12_9 (q12_7 r) [(17, aB bj2), (9, aI v.Kind), (1, .ptr 0 0)] ⟨[some (eGValue v)], [], []⟩
theorem row_Put_j6_step (bj3 : Bool) (v : GValue) (r : ByteArray) (hw : (bj3 = true -> ∃ y17, varint_Put (wU (v.Text.size : Int)) y17 /\ (((y17.size + v.Text.size : Nat) : Int) <= 9223372036854775807 /\ (r = (y17 ++ v.Text)))) /\ (bj3 = false -> ∃ y18, varint_Put v.Bits y18 /\ (r = y18))) : row_Put_j6 bj3 v r := by
 show D _ _ _ _ _ _ _ _
 refine dw hw (fun _ hw => ?_) (fun _ hw => ?_)
 ·refine d_seqQ (dS [(0, (eGValue v))] (sa 1 2 [(35, aS v.Text)] (sq rfl (fun _ _ => x_lenS v.Text) rfl (sa 1 1 [(37, aU (wU (v.Text.size : Int)))] ?_))))
  obtain ⟨y17, hy, hw⟩ := hw
  refine sq rfl (y_call hy pl47) rfl (sa 1 2 [(40, aS v.Text)] ?_)
  obtain ⟨h0, hw⟩ := hw
  exact sq rfl (fun _ _ => x_cat h0) rfl (send (vp_start' (va 1 [(2, aS (y17 ++ v.Text))] (ve (d_ret (rx hw (plr12 _)))))))
 refine d_skip (ds (va 2 [(43, aU v.Bits)] ?_))
 obtain ⟨y18, hy, hw⟩ := hw
 exact vo rfl (x_call hy pl47) rfl (va 1 [(2, aS y18)] (ve (d_ret (rx hw (plr12 _)))))
theorem row_Put_j4_step (bj2 : Bool) (v : GValue) (r : ByteArray) (hw : (bj2 = true -> ∃ y11, varint_Zig (wI v.Bits) y11 /\ (∃ y12, varint_Put y11 y12 /\ (r = y12))) /\ (bj2 = false -> ((v.Kind == 6) = true -> ∃ y13, scalar_Norm v y13 /\ (∃ y14, varint_Fixed y13.Bits y14 /\ (r = y14))) /\ ((v.Kind == 6) = false -> ((v.Kind == 7) = true -> row_Put_j6 (v.Kind == 7) v r) /\ ((v.Kind == 7) = false -> row_Put_j6 (v.Kind == 8) v r)))) : row_Put_j4 bj2 v r := by
 show D _ _ _ _ _ _ _ _
 refine dw hw (fun _ hw => ?_) (fun _ hw => ?_)
 ·refine ds (va 3 [(22, aI (wI v.Bits))] ?_)
  obtain ⟨y11, hy, hw⟩ := hw
  refine vo rfl (x_call hy pl48) rfl ?_
  obtain ⟨y12, hy, hw⟩ := hw
  exact vo rfl (x_call hy pl47) rfl (va 1 [(2, aS y12)] (ve (d_ret (rx hw (plr12 _)))))
 refine ds (va 2 [(25, aB (v.Kind == 6))] (ve (dw hw (fun _ hw => ?_) (fun _ hw => ?_))))
 ·refine ds (va 1 [(27, .agg (eGValue v))] ?_)
  obtain ⟨y13, hy, hw⟩ := hw
  refine vo rfl (x_call hy pl50) rfl (va 1 [(29, aU y13.Bits)] ?_)
  obtain ⟨y14, hy, hw⟩ := hw
  exact vo rfl (x_call hy pl49) rfl (va 1 [(2, aS y14)] (ve (d_ret (rx hw (plr12 _)))))
 refine d_seqQ (ds (va 2 [(31, aB (v.Kind == 7))] (ve (dw hw (fun _ hw => ?_) (fun _ hw => ?_)))))
 ·exact d_skip (jd0 hw)
 exact dr (va 2 [(31, aB (v.Kind == 8))] (ve (jd0 hw)))
theorem row_Put_step (v : GValue) (r : ByteArray) (hw : ∃ y1, scalar_Fits v.Kind v y1 /\ (((!y1) = true -> r = (⟨#[]⟩ : ByteArray)) /\ ((!y1) = false -> ((v.Kind == 1) = true -> ∃ y2, ([(IntKind.u8.wrap v.Bits)] : List Int) = bI y2 /\ (r = y2)) /\ ((v.Kind == 1) = false -> ((v.Kind == 2) = true -> row_Put_j4 (v.Kind == 2) v r) /\ ((v.Kind == 2) = false -> row_Put_j4 (v.Kind == 3) v r))))) : row_Put v r := by
 refine f_pureD fn12 nle rfl (ds (vg 2 [(1, .ptr 0 0)] [(eGValue v)] [] (ve (d_seqQ (ds (va 3 [(5, .agg (eGValue v)), (4, aI v.Kind)] ?_))))))
 obtain ⟨y1, hy, hw⟩ := hw
 refine vo rfl (x_call hy pl36) rfl (va 1 [(7, aB (!y1))] (ve (dw hw (fun _ hw => ?_) (fun _ hw => ?_))))
 ·exact ds (va 1 [(2, aE)] (ve (d_ret (rx hw (plr12 _)))))
 refine d_skip (d_seqQ (ds (va 2 [(9, aI v.Kind)] (ve (d_blockQ (ds (va 2 [(10, aB (v.Kind == 1))] (ve (dw hw (fun _ hw => ?_) (fun _ hw => ?_))))))))))
 ·refine ds (va 4 [(15, .sl [[aC (IntKind.u8.wrap v.Bits)]] .full)] ?_)
  obtain ⟨y2, hy, hw⟩ := hw
  exact vo rfl (x_str hy) rfl (va 1 [(2, aS y2)] (ve (d_ret (rx hw (plr12 _)))))
 refine d_seqQ (ds (va 2 [(17, aB (v.Kind == 2))] (ve (dw hw (fun _ hw => ?_) (fun _ hw => ?_)))))
 ·exact d_skip (jd0 hw)
 exact dr (va 2 [(17, aB (v.Kind == 3))] (ve (jd0 hw)))
theorem plr13 (r : Bool) : plain (e13 r) = true := rfl
def r13_0 : LO := [o 2 (bx 0), o 3 (bx 1), o 4 (mb false)]
def r13_1 : LO := [o 5 (ln 7 2), o 6 (ln 7 3), o 7 (.call (cf 51) [(T 5), (T 6)]), o 4 (mv 7)]
def k13_1 : ACode := .seq (.region r13_1) .ret
def k13_2 : ACode := .seq (.region r13_0) k13_1
theorem fn13 : getFn Tryz.prog 13 = some (8, k13_2, [.tmp 4]) := by kernel_rfl
theorem law28_same_step (a : GValue) (b : GValue) (r : Bool) (hw : ∃ y1, ref16_Equal a b y1 /\ (r = y1)) : law28_same a b r := by
 refine f_pureD fn13 nle rfl (ds (vg 3 [(3, .ptr 1 0), (2, .ptr 0 0)] [(eGValue a), (eGValue b)] [] (ve (ds (va 2 [(6, .agg (eGValue b)), (5, .agg (eGValue a))] ?_)))))
 obtain ⟨y1, hy, hw⟩ := hw
 exact vo rfl (x_call hy pl51) rfl (va 1 [(4, aB y1)] (ve (d_ret (rx hw (plr13 _)))))
theorem plr14 (r : ByteArray) : plain (e14 r) = true := rfl
def r14_0 : LO := [o 1 (bx 0), o 2 (.mv (.c aE))]
def r14_1 : LO := [o 3 (fa 0 1), o 4 (ld 3), o 5 (ln 7 1), o 6 (.call (cf 45) [(T 4), (T 5)]), o 7 (.un .not (T 6))]
def r14_2 : LO := [o 2 (.mv (.c aE))]
def k14_1 : ACode := .cond (T 7) (.seq (.region r14_2) .ret) .skip
def k14_2 : ACode := .seq (.region r14_1) k14_1
def r14_8 : LO := [o 8 (fa 0 1), o 9 (ld 8)]
def r14_9 : LO := [o 11 (.bin .eql (T 9) (ci 1)), o 10 (mv 11)]
def r14_10 : LO := [o 12 (fa 1 1), o 13 (ld 12), o 14 (.conv (.num .u8) (T 13)), o 15 (.sliceLit 1 1 [(aC 0)] [((0, 1), (T 14))]), o 16 (.conv .str (T 15)), o 2 (mv 16)]
def r14_13 : LO := [o 18 (.bin .eql (T 9) (ci 2)), o 17 (mv 18)]
def r14_15 : LO := [o 19 (.bin .eql (T 9) (ci 3)), o 17 (mv 19)]
def k14_3 : ACode := .cond (T 17) .skip (.region r14_15)
def r14_18 : LO := [o 20 (fa 1 1), o 21 (ld 20), o 22 (.conv (.num .i64) (T 21)), o 23 (.call (cf 53) [(T 22)]), o 24 (.call (cf 52) [(T 23)]), o 2 (mv 24)]
def r14_21 : LO := [o 26 (.bin .eql (T 9) (ci 6)), o 25 (mv 26)]
def r14_22 : LO := [o 27 (ln 7 1), o 28 (.call (cf 41) [(T 27)]), o 29 (.field none 1 (T 28)), o 30 (.call (cf 54) [(T 29)]), o 2 (mv 30)]
def r14_25 : LO := [o 32 (.bin .eql (T 9) (ci 7)), o 31 (mv 32)]
def r14_27 : LO := [o 33 (.bin .eql (T 9) (ci 8)), o 31 (mv 33)]
def k14_4 : ACode := .cond (T 31) .skip (.region r14_27)
def r14_30 : LO := [o 34 (fa 2 1), o 35 (ld 34), o 36 (.len true (T 35)), o 37 (.conv (.num .u64) (T 36)), o 38 (.call (cf 52) [(T 37)]), o 39 (fa 2 1), o 40 (ld 39), o 41 (.bin .add (T 38) (T 40))]
def r14_30t : LO := [o 2 (mv 41)]
def r14_30o : LN := [[], [0], [1], [2], [3], [], [5], [4, 6]]
def k14_5 : ACode := .cond (T 31) (.seq (.drawn r14_30o r14_30 r14_30t) .ret) .skip
def k14_6 : ACode := .seq (.seq (.region r14_25) k14_4) k14_5
def k14_7 : ACode := .cond (T 25) (.seq (.region r14_22) .ret) k14_6
def k14_8 : ACode := .seq (.region r14_21) k14_7
def k14_9 : ACode := .cond (T 17) (.seq (.region r14_18) .ret) k14_8
def k14_10 : ACode := .seq (.seq (.region r14_13) k14_3) k14_9
def k14_11 : ACode := .cond (T 10) (.seq (.region r14_10) .ret) k14_10
def k14_12 : ACode := .seq (.region r14_9) k14_11
def k14_13 : ACode := .block 0 k14_12
def r14_44 : LO := [o 42 (fa 1 1), o 43 (ld 42), o 44 (.call (cf 52) [(T 43)]), o 2 (mv 44)]
def k14_14 : ACode := .seq (.region r14_44) .ret
def k14_15 : ACode := .seq (.seq (.region r14_8) k14_13) k14_14
def k14_16 : ACode := .seq k14_2 k14_15
def k14_17 : ACode := .seq (.region r14_0) k14_16
theorem fn14 : getFn Tryz.prog 14 = some (45, k14_17, [.tmp 2]) := by kernel_rfl
def q14_0 (r : ByteArray) : QP := qret [.tmp 2] (e14 r)
def q14_5 (r : ByteArray) : QP := tq Tryz.prog 45 k14_14 (q14_0 r)
def q14_7 (r : ByteArray) : QP := inBlockA 0 (q14_5 r)
def ref28_Put_j6 (bj3 : Bool) (v : GValue) (r : ByteArray) : Prop := D Tryz.prog 45 0 0 k14_5 (q14_7 r) [(31, aB bj3), (1, .ptr 0 0)] ⟨[some (eGValue v)], [], []⟩
def ref28_Put_j4 (bj2 : Bool) (v : GValue) (r : ByteArray) : Prop := D Tryz.prog 45 0 0 k14_9 (q14_7 r) [(17, aB bj2), (9, aI v.Kind), (1, .ptr 0 0)] ⟨[some (eGValue v)], [], []⟩
theorem ref28_Put_j6_step (bj3 : Bool) (v : GValue) (r : ByteArray) (hw : (bj3 = true -> ∃ y17, ref01_Put (wU (v.Text.size : Int)) y17 /\ (((y17.size + v.Text.size : Nat) : Int) <= 9223372036854775807 /\ (r = (y17 ++ v.Text)))) /\ (bj3 = false -> ∃ y18, ref01_Put v.Bits y18 /\ (r = y18))) : ref28_Put_j6 bj3 v r := by
 show D _ _ _ _ _ _ _ _
 refine dw hw (fun _ hw => ?_) (fun _ hw => ?_)
 ·refine d_seqQ (dS [(0, (eGValue v))] (sa 1 2 [(35, aS v.Text)] (sq rfl (fun _ _ => x_lenS v.Text) rfl (sa 1 1 [(37, aU (wU (v.Text.size : Int)))] ?_))))
  obtain ⟨y17, hy, hw⟩ := hw
  refine sq rfl (y_call hy pl52) rfl (sa 1 2 [(40, aS v.Text)] ?_)
  obtain ⟨h0, hw⟩ := hw
  exact sq rfl (fun _ _ => x_cat h0) rfl (send (vp_start' (va 1 [(2, aS (y17 ++ v.Text))] (ve (d_ret (rx hw (plr14 _)))))))
 refine d_skip (ds (va 2 [(43, aU v.Bits)] ?_))
 obtain ⟨y18, hy, hw⟩ := hw
 exact vo rfl (x_call hy pl52) rfl (va 1 [(2, aS y18)] (ve (d_ret (rx hw (plr14 _)))))
theorem ref28_Put_j4_step (bj2 : Bool) (v : GValue) (r : ByteArray) (hw : (bj2 = true -> ∃ y11, ref01_Zig (wI v.Bits) y11 /\ (∃ y12, ref01_Put y11 y12 /\ (r = y12))) /\ (bj2 = false -> ((v.Kind == 6) = true -> ∃ y13, ref04_Norm v y13 /\ (∃ y14, ref01_Fixed y13.Bits y14 /\ (r = y14))) /\ ((v.Kind == 6) = false -> ((v.Kind == 7) = true -> ref28_Put_j6 (v.Kind == 7) v r) /\ ((v.Kind == 7) = false -> ref28_Put_j6 (v.Kind == 8) v r)))) : ref28_Put_j4 bj2 v r := by
 show D _ _ _ _ _ _ _ _
 refine dw hw (fun _ hw => ?_) (fun _ hw => ?_)
 ·refine ds (va 3 [(22, aI (wI v.Bits))] ?_)
  obtain ⟨y11, hy, hw⟩ := hw
  refine vo rfl (x_call hy pl53) rfl ?_
  obtain ⟨y12, hy, hw⟩ := hw
  exact vo rfl (x_call hy pl52) rfl (va 1 [(2, aS y12)] (ve (d_ret (rx hw (plr14 _)))))
 refine ds (va 2 [(25, aB (v.Kind == 6))] (ve (dw hw (fun _ hw => ?_) (fun _ hw => ?_))))
 ·refine ds (va 1 [(27, .agg (eGValue v))] ?_)
  obtain ⟨y13, hy, hw⟩ := hw
  refine vo rfl (x_call hy pl41) rfl (va 1 [(29, aU y13.Bits)] ?_)
  obtain ⟨y14, hy, hw⟩ := hw
  exact vo rfl (x_call hy pl54) rfl (va 1 [(2, aS y14)] (ve (d_ret (rx hw (plr14 _)))))
 refine d_seqQ (ds (va 2 [(31, aB (v.Kind == 7))] (ve (dw hw (fun _ hw => ?_) (fun _ hw => ?_)))))
 ·exact d_skip (jd0 hw)
 exact dr (va 2 [(31, aB (v.Kind == 8))] (ve (jd0 hw)))
theorem ref28_Put_step (v : GValue) (r : ByteArray) (hw : ∃ y1, ref04_Fits v.Kind v y1 /\ (((!y1) = true -> r = (⟨#[]⟩ : ByteArray)) /\ ((!y1) = false -> ((v.Kind == 1) = true -> ∃ y2, ([(IntKind.u8.wrap v.Bits)] : List Int) = bI y2 /\ (r = y2)) /\ ((v.Kind == 1) = false -> ((v.Kind == 2) = true -> ref28_Put_j4 (v.Kind == 2) v r) /\ ((v.Kind == 2) = false -> ref28_Put_j4 (v.Kind == 3) v r))))) : ref28_Put v r := by
 refine f_pureD fn14 nle rfl (ds (vg 2 [(1, .ptr 0 0)] [(eGValue v)] [] (ve (d_seqQ (ds (va 3 [(5, .agg (eGValue v)), (4, aI v.Kind)] ?_))))))
 obtain ⟨y1, hy, hw⟩ := hw
 refine vo rfl (x_call hy pl45) rfl (va 1 [(7, aB (!y1))] (ve (dw hw (fun _ hw => ?_) (fun _ hw => ?_))))
 ·exact ds (va 1 [(2, aE)] (ve (d_ret (rx hw (plr14 _)))))
 refine d_skip (d_seqQ (ds (va 2 [(9, aI v.Kind)] (ve (d_blockQ (ds (va 2 [(10, aB (v.Kind == 1))] (ve (dw hw (fun _ hw => ?_) (fun _ hw => ?_))))))))))
 ·refine ds (va 4 [(15, .sl [[aC (IntKind.u8.wrap v.Bits)]] .full)] ?_)
  obtain ⟨y2, hy, hw⟩ := hw
  exact vo rfl (x_str hy) rfl (va 1 [(2, aS y2)] (ve (d_ret (rx hw (plr14 _)))))
 refine d_seqQ (ds (va 2 [(17, aB (v.Kind == 2))] (ve (dw hw (fun _ hw => ?_) (fun _ hw => ?_)))))
 ·exact d_skip (jd0 hw)
 exact dr (va 2 [(17, aB (v.Kind == 3))] (ve (jd0 hw)))
end
end Go.Proofs.YtidmmngcijapcaaGreat.Lift
