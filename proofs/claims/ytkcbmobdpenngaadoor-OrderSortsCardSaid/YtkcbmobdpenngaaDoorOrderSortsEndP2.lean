/- Part 3 of the texts that prove OrderSortsEnd. -/
import Derived.Test.YtkcbmobdpenngaaDoorOrderSortsEndP1
import Derived.LoopN
namespace Go.Proofs.YtkcbmobdpenngaaDoor.Lift
open Go.RowKit
set_option linter.unusedVariables false
set_option linter.unusedSimpArgs false
set_option linter.unnecessarySimpa false
set_option linter.unusedSectionVars false
set_option maxRecDepth 100000
def nz1 : AV -> AV
 | .nil => .sl [] .no
 | .sl els _ => .sl els .no
 | x => x
def nzA : AV -> AV
 | .agg cs => .agg (cs.map nz1)
 | x => nz1 x
def nz : AV -> AV
 | .tuple vs => .tuple (vs.map nzA)
 | x => nzA x
theorem nz1_cell (av : AV) : (nz1 av).isCell = av.isCell := by cases av <;> rfl
theorem Rel.nz1 {σ : Sg} {av : AV} {x : Value} (hr : Rel σ av x) : Rel σ (nz1 av) x := by
 cases av with
 | nil => cases hr; exact .sl0 _ trivial
 | sl els tok =>
  show Rel σ (.sl els .no) x
  cases hr with
  | sl0 _ _ => exact .sl0 _ trivial
  | slx _ a cap _ _ => exact .slx _ a cap trivial (.inl rfl)
  | sl _ _ b o cap size xs hs hcap ht hz hc hr => exact .sl _ _ b o cap size xs hs hcap trivial (fun id e h => by cases h) hc hr
 | _ => exact hr
theorem Cells.nz {σ : Sg} {cells : List AV} {vs : List Value} (hc : Cells σ cells vs) : Cells σ (cells.map nz1) vs := by
 refine ⟨by simp [hc.1], fun i av hi => ?_⟩
 simp only [List.getElem?_map, Option.map_eq_some_iff] at hi
 obtain ⟨b, hb, rfl⟩ := hi
 obtain ⟨h1, x, h2, h3⟩ := hc.2 i b hb
 exact ⟨by rw [nz1_cell]; exact h1, x, h2, h3.nz1⟩
theorem Rel.nzA {σ : Sg} {av : AV} {x : Value} (hr : Rel σ av x) : Rel σ (nzA av) x := by
 unfold Lift.nzA
 split
 ·obtain ⟨xs, rfl, hc⟩ := hr.agg_inv
  exact Rel.agg_mk' hc.nz
 ·exact hr.nz1
theorem Rel.nz {σ : Sg} {av : AV} {x : Value} (hr : Rel σ av x) : Rel σ (nz av) x := by
 unfold Lift.nz
 split
 ·cases hr with
  | tuple vs xs hn y hx hr =>
   refine .tuple _ _ (by simp [hn]) y (fun i av hi => ?_) (fun i av hi => ?_)
   ·simp only [List.getElem?_map, Option.map_eq_some_iff] at hi
    obtain ⟨b, hb, rfl⟩ := hi
    exact hx i b hb
   ·simp only [List.getElem?_map, Option.map_eq_some_iff] at hi
    obtain ⟨b, hb, rfl⟩ := hi
    exact (hr i b hb).nzA
 ·exact hr.nzA
theorem plain_nz1 (a : AV) (h : plain (nz1 a) = true) : plain (wk1 a) = true := by
 cases a with
 | sl els tok => cases tok <;> simpa [nz1, wk1, plain] using h
 | _ => first | rfl | exact h
theorem plainL_nz : ∀ (l : List AV), plainL (l.map nz1) = true -> plainL (l.map wk1) = true
 | [], _ => rfl
 | a :: r, h => by
  simp only [List.map_cons, plainL, Bool.and_eq_true] at h ⊢
  exact ⟨plain_nz1 a h.1, plainL_nz r h.2⟩
theorem plain_nzA (a : AV) (h : plain (nzA a) = true) : plain (wkA a) = true := by
 cases a with
 | agg cs => simp only [nzA, wkA, plain] at h ⊢; exact plainL_nz cs h
 | sl els tok => cases tok <;> simpa [nzA, wkA, nz1, wk1, plain] using h
 | _ => first | rfl | exact h
theorem plainL_nzA : ∀ (l : List AV), plainL (l.map nzA) = true -> plainL (l.map wkA) = true
 | [], _ => rfl
 | a :: r, h => by
  simp only [List.map_cons, plainL, Bool.and_eq_true] at h ⊢
  exact ⟨plain_nzA a h.1, plainL_nzA r h.2⟩
theorem plain_nz (a : AV) (h : plain (nz a) = true) : plain (wk a) = true := by
 cases a with
 | tuple vs => simp only [nz, wk, plain] at h ⊢; exact plainL_nzA vs h
 | agg cs => exact plain_nzA (.agg cs) h
 | sl els tok => exact plain_nzA (.sl els tok) h
 | _ => first | rfl | exact h
theorem nz1_wk (a : AV) : nz1 (wk1 a) = nz1 a := by
 cases a with
 | sl els tok => cases tok <;> rfl
 | _ => rfl
theorem nzA_wk (a : AV) : nzA (wkA a) = nzA a := by
 cases a with
 | agg cs => simp only [wkA, nzA, List.map_map]; congr 1; exact List.map_congr_left fun x _ => nz1_wk x
 | sl els tok => cases tok <;> rfl
 | _ => rfl
theorem nz_wk (a : AV) : nz (wk a) = nz a := by
 cases a with
 | tuple vs => simp only [wk, nz, List.map_map]; congr 1; exact List.map_congr_left fun x _ => nzA_wk x
 | agg cs => exact nzA_wk (.agg cs)
 | sl els tok => cases tok <;> rfl
 | _ => rfl
def PureN (P : Program) (gl : List (Nat × List AV)) (f : FuncId) (args : List AV) (r : AV) : Prop := PureC P gl f args fun a => nz a = r
theorem pure_call_n {P : Program} {f : FuncId} {args args' : List AV} {r : AV} {h : AHeap} {K : AV -> AHeap -> Prop} (hf : PureN P h.globs f args r) (hgl : plainG h.globs = true) (ha : args'.map nz = args) (hp : plainL args = true) (hk : K r h) : ACall P f args' h K := by
 refine ⟨hf.1, fun σ cargs hi hr => ?_⟩
 have hopen : ∀ b o, σ.open_ b o -> b < σ.w.heap.size := by
  rintro b o (ho | ⟨n, hn⟩ | ⟨id, e, he, hs⟩)
  ·exact (hi.outer b o ho).1
  ·exact hi.lt hn
  ·obtain ⟨v, hv⟩ := Option.isSome_iff_exists.1 (hi.bufat id e b o he hs).1
   exact cell_lt hv
 have hrels : Rels (bare σ.w σ.open_) args cargs.toList := by
  refine ⟨by rw [hr.1, ← ha]; simp, fun i av hav => ?_⟩
  have hav' := hav
  rw [← ha] at hav
  simp only [List.getElem?_map, Option.map_eq_some_iff] at hav
  obtain ⟨b, hb, rfl⟩ := hav
  obtain ⟨x, h1, h2⟩ := hr.2 i b hb
  exact ⟨x, h1, h2.nz.down (plainL_get hp i _ hav') rfl fun _ _ h => h⟩
 have hglobs : Globs σ.w σ.open_ h.globs := fun g cells hg => (hi.glob g cells hg).down (by simp only [plain]; exact List.all_eq_true.1 hgl _ hg) rfl fun _ _ h => h
 refine (hf.2 σ.w σ.open_ cargs hopen hglobs hrels).mono fun e w' hq => ?_
 obtain ⟨av, x, rfl, hpast, hrel, hR⟩ := hq
 exact ⟨{ σ with w := w' }, h, nz av, x, rfl, rfl, Le.world hpast, hi.world hpast, (hrel.nz).up (fun _ => rfl) (fun _ => rfl) rfl (fun b o ho => .inl ho), by rw [hR]; exact hk⟩
def qret (rs : List ARes) (r : AV) : Exit -> Env -> AHeap -> Prop
 | .normal, env, h => outs env h rs fun l => plain (wk (retv l)) = true /\ nz (wk (retv l)) = r
 | .ret, env, h => outs env h rs fun l => plain (wk (retv l)) = true /\ nz (wk (retv l)) = r
 | _, _, _ => False
section
variable {P : Program} {h h' : AHeap} {env env' : Env} {N : Nat} {Q : Exit -> Env -> AHeap -> Prop} {K : Env -> AHeap -> Prop} {L : List AOper} {k : Nat}
theorem f_pureN {gl : List (Nat × List AV)} {f : FuncId} {ac : ACode} {rs : List ARes} (hf : getFn P f = some (N, ac, rs)) {args : List AV} {r : AV} {e₀ : Env} (hn : args.length <= N) (he : envOf 0 args = e₀)
  (hbody : C P N ac (qret rs r) e₀ ⟨[], [], gl⟩) : PureN P gl f args r := by
 subst he
 refine pure_of hf hn (asem_mono hbody.out fun e env h hq => ?_)
 cases e <;> first | exact hq | exact hq.elim
theorem r_end {rs : List ARes} {r : AV} {l : List AV} (hl : outsF env h rs = some l) (hr : nz (retv l) = r) (hp : plain r = true) : qret rs r .ret env h := by
 refine outsF_ok hl ⟨plain_nz _ (by rw [hr]; exact hp), by rw [nz_wk]; exact hr⟩
def Does (P : Program) (o : AOp) (env : Env) (h : AHeap) (av : AV) (h' : AHeap) : Prop := ∀ K : AV -> AHeap -> Prop, K av h' -> aop P o env h K
theorem Does.q {P : Program} {o : AOp} {env : Env} {h : AHeap} {av : AV} (hd : Does P o env h av h) : aopQ P o env h av := hd _ ⟨rfl, rfl⟩
def Less (e env : Env) : Prop := ∀ t a, get e t = some a -> get env t = some a
theorem Less.put {e env : Env} (he : Less e env) (d : Option Nat) (av : AV) : Less (putE e d av) (putE env d av) := by
 intro t a h
 rw [get_putE] at h ⊢
 split at h
 ·rename_i hd; rw [if_pos hd]; exact h
 ·rename_i hd; rw [if_neg hd]; exact he t a h
theorem Less.drop {e env : Env} (he : Less e env) (d : Option Nat) : Less (dropE e d) (dropE env d) := by
 intro t a h
 rw [get_dropE] at h ⊢
 split at h
 ·rename_i hd; rw [if_pos hd]; exact h
 ·rename_i hd; rw [if_neg hd]; exact he t a h
theorem Less.ev {e env : Env} (he : Less e env) {x : AOpd} {a : AV} (h : x.ev e = some a) : x.ev env = some a := by
 cases x with
 | t n => exact he n a h
 | c b => exact h
theorem Less.wv {e env : Env} (he : Less e env) {x : AOpd} {J J' : AV -> Prop} (hj : wv (x.ev e) J) (h : ∀ a, J a -> J' a) : wv (x.ev env) J' := by
 obtain ⟨a, h1, h2⟩ := wv_some hj
 rw [he.ev h1]; exact h a h2
theorem Less.evs {e env : Env} (he : Less e env) : ∀ {l : List AOpd} {r : List AV}, evs e l = some r -> evs env l = some r
 | [], r, h => h
 | x :: l, r, h => by
  simp only [Lift.evs] at h ⊢
  split at h
  ·rename_i a l' h1 h2
   rw [he.ev h1, he.evs h2]; exact h
  ·cases h
theorem Less.evp {e env : Env} (he : Less e env) : ∀ {l : List ((Nat × Nat) × AOpd)} {r : List ((Nat × Nat) × AV)}, evp e l = some r -> evp env l = some r
 | [], r, h => h
 | (k, x) :: l, r, h => by
  simp only [Lift.evp] at h ⊢
  split at h
  ·rename_i a l' h1 h2
   rw [he.ev h1, he.evp h2]; exact h
  ·cases h
theorem Less.evo {e env : Env} (he : Less e env) {x : Option AOpd} {r : Option AV} (h : evo e x = some r) : evo env x = some r := by
 cases x with
 | none => exact h
 | some x =>
  simp only [Lift.evo] at h ⊢
  split at h
  ·rename_i a h1; rw [he.ev h1]; exact h
  ·cases h
theorem aop_less {P : Program} {o : AOp} {e env : Env} (he : Less e env) {h : AHeap} {K : AV -> AHeap -> Prop} (ha : aop P o e h K) : aop P o env h K := by
 cases o <;> simp only [aop] at ha ⊢
 case mv => exact he.wv ha fun _ h => h
 case pick =>
  refine he.wv ha fun c hc => ?_
  unfold pickOn at hc ⊢
  split at hc
  ·exact ⟨fun ht => he.wv (hc.1 ht) fun _ h => h, fun ht => he.wv (hc.2 ht) fun _ h => h⟩
  ·exact hc.elim
 case alloc => exact ha
 case box => exact he.wv ha fun _ h => h
 case build =>
  split at ha
  ·rename_i ps h1; rw [he.evp h1]; exact ha
  ·exact ha.elim
 case sliceLit =>
  split at ha
  ·rename_i ps h1; rw [he.evp h1]; exact ha
  ·exact ha.elim
 case load => exact he.wv ha fun _ h => h
 case store => exact he.wv ha fun _ h => he.wv h fun _ h => h
 case nilCheck => exact he.wv ha fun _ h => h
 case bin => exact he.wv ha fun _ h => he.wv h fun _ h => h
 case eq => exact he.wv ha fun _ h => he.wv h fun _ h => h
 case un => exact he.wv ha fun _ h => h
 case conv => exact he.wv ha fun _ h => h
 case iface => exact he.wv ha fun _ h => h
 case func =>
  split at ha
  ·rename_i f c h1 h2; rw [he.evs h1, he.evs h2]; exact ha
  ·exact ha.elim
 case sliceS =>
  refine he.wv ha fun x hx => ?_
  split at hx
  ·rename_i lo hi h1 h2; rw [he.evo h1, he.evo h2]; exact hx
  ·exact hx.elim
 case sliceV =>
  refine he.wv ha fun x hx => ?_
  split at hx
  ·rename_i lo hi mx h1 h2 h3; rw [he.evo h1, he.evo h2, he.evo h3]; exact hx
  ·exact hx.elim
 case fieldAddr => exact he.wv ha fun _ h => h
 case field => exact he.wv ha fun _ h => h
 case idxS => exact he.wv ha fun _ h => he.wv h fun _ h => h
 case idxV => exact he.wv ha fun _ h => he.wv h fun _ h => h
 case idxSl => exact he.wv ha fun _ h => he.wv h fun _ h => h
 case idxA => exact he.wv ha fun _ h => he.wv h fun _ h => h
 case assertT => exact he.wv ha fun _ h => h
 case extract => exact he.wv ha fun _ h => h
 case len => exact he.wv ha fun _ h => h
 case append => exact he.wv ha fun _ h => he.wv h fun _ h => h
 case call f args =>
  refine he.wv ha fun f hf => ?_
  unfold callOn at hf ⊢
  split at hf
  ·rename_i g first captured l h1; rw [he.evs h1]; exact hf
  ·exact hf.elim
 case bytes => exact he.wv ha fun _ h => h
 case minmax =>
  split at ha
  ·rename_i l h1; rw [he.evs h1]; exact ha
  ·exact ha.elim
 case make => exact he.wv ha fun _ h => he.wv h fun _ h => h
 case range => exact he.wv ha fun _ h => h
 case next => exact he.wv ha fun _ h => h
theorem Does.less {P : Program} {o : AOp} {e env : Env} {h h' : AHeap} {av : AV} (hd : Does P o e h av h') (he : Less e env) : Does P o env h av h' := fun K hk => aop_less he (hd K hk)
theorem Less.guard {e env : Env} (he : Less e env) {g : Option (Nat × Bool)} {b : Bool} (h : guardF e g = some b) : guardF env g = some b := by
 cases g with
 | none => exact h
 | some p =>
  obtain ⟨t, want⟩ := p
  simp only [guardF, Option.bind_eq_some_iff] at h ⊢
  obtain ⟨v, h1, h2⟩ := h
  exact ⟨v, he t v h1, h2⟩
def vd (P : Program) : List AOper -> Env -> AHeap -> (Env -> AHeap -> Prop) -> Prop
 | [], env, h, K => K env h
 | o :: r, env, h, K => (guardF env o.guard = some false /\ vd P r (dropE env o.dst) h K) ∨ (guardF env o.guard = some true /\ ∃ av h', Does P o.op env h av h' /\ vd P r (putE env o.dst av) h' K) ∨
  (guardF env o.guard = some true /\ ∃ S : AV -> Prop, (∀ K' : AV -> AHeap -> Prop, (∀ av, S av -> K' av h) -> aop P o.op env h K') /\ ∀ av, S av -> vd P r (putE env o.dst av) h K)
theorem vd_vops {P : Program} : ∀ {l : List AOper} {env : Env} {h : AHeap} {K : Env -> AHeap -> Prop}, vd P l env h K -> vops P l env h K
 | [], env, h, K, hv => hv
 | o :: r, env, h, K, hv => by
  rcases hv with ⟨hg, hv⟩ | ⟨hg, av, h', hd, hv⟩ | ⟨hg, S, hd, hv⟩
  ·exact guardF_ok (b := false) hg (by simpa using vd_vops hv)
  ·refine guardF_ok (b := true) hg ?_
   simp only [if_true]
   exact hd _ (vd_vops hv)
  ·refine guardF_ok (b := true) hg ?_
   simp only [if_true]
   exact hd _ fun av hav => vd_vops (hv av hav)
def KMono (K : Env -> AHeap -> Prop) : Prop := ∀ e env h, Less e env -> K e h -> K env h
theorem vd_less {P : Program} {K : Env -> AHeap -> Prop} (hK : KMono K) : ∀ {l : List AOper} {e env : Env} {h : AHeap}, Less e env -> vd P l e h K -> vd P l env h K
 | [], e, env, h, he, hv => hK e env h he hv
 | o :: r, e, env, h, he, hv => by
  rcases hv with ⟨hg, hv⟩ | ⟨hg, av, h', hd, hv⟩ | ⟨hg, S, hd, hv⟩
  ·exact .inl ⟨he.guard hg, vd_less hK (he.drop _) hv⟩
  ·exact .inr (.inl ⟨he.guard hg, av, h', hd.less he, vd_less hK (he.put _ _) hv⟩)
  ·exact .inr (.inr ⟨he.guard hg, S, fun K' hK' => aop_less he (hd K' hK'), fun av hav => vd_less hK (he.put _ _) (hv av hav)⟩)
theorem less_of : ∀ (e : Env) {env : Env}, e.map (fun p => get env p.1) = e.map (fun p => some p.2) -> Less e env
 | [], _, _, t, a, h => by cases h
 | (u, b) :: e, env, he, t, a, h => by
  simp only [List.map_cons, List.cons.injEq] at he
  simp only [get] at h
  split at h
  ·rename_i hu; subst hu; cases h; exact he.1
  ·exact less_of e he.2 t a h
def Vp (P : Program) (L : List AOper) (k : Nat) (env : Env) (h : AHeap) (K : Env -> AHeap -> Prop) : Prop := vd P (L.drop k) env h K
def noC : Callee := fun _ _ _ => none
theorem noC_ok {P : Program} : CallOK P noC := fun f args h a h' he => by cases he
theorem vopsF_app {b : List AOper} : ∀ {a : List AOper} {env : Env} {h : AHeap} {r : Env × AHeap} {K : Env -> AHeap -> Prop}, vopsF false noC a env h = some r -> vd P b r.1 r.2 K -> vd P (a ++ b) env h K
 | [], env, h, r, K, he, hk => by cases he; exact hk
 | o :: l, env, h, r, K, he, hk => by
  simp only [vopsF, Option.bind_eq_some_iff] at he
  obtain ⟨g, h1, h2⟩ := he
  cases g with
  | true =>
   simp only [Option.bind_eq_some_iff] at h2
   obtain ⟨⟨a, h'⟩, h3, h4⟩ := h2
   exact .inr (.inl ⟨h1, a, h', fun K hk => aopF_ok noC_ok h3 hk, vopsF_app h4 hk⟩)
  | false => exact .inl ⟨h1, vopsF_app h2 hk⟩
theorem vp_start (hk : Vp P L 0 env h K) : V P L env h K := ⟨vd_vops hk⟩
theorem vp_chunk (m : Nat) (env' : Env) (h' : AHeap) (he : vopsF false noC ((L.drop k).take m) env h = some (env', h')) {k' : Nat} (hk' : k + m = k') (hk : Vp P L k' env' h' K) : Vp P L k env h K := by
 subst hk'
 show vd P (L.drop k) env h K
 rw [← List.take_append_drop m (L.drop k), List.drop_drop]
 exact vopsF_app he hk
theorem vp_opg {o : AOper} (hl : L[k]? = some o) (hg : guardF env o.guard = some true) {av : AV} {env1 : Env} (ha : Does P o.op env h av h') {k' : Nat} (hk' : k + 1 = k') (he : putE env o.dst av = env1) (hk : Vp P L k' env1 h' K) : Vp P L k env h K := by
 subst hk' he
 obtain ⟨hlt, rfl⟩ := List.getElem?_eq_some_iff.1 hl
 show vd P (L.drop k) env h K
 rw [List.drop_eq_getElem_cons hlt]
 exact .inr (.inl ⟨hg, av, h', ha, hk⟩)
theorem vp_any {o : AOper} (hl : L[k]? = some o) (hg : guardF env o.guard = some true) (S : AV -> Prop) (ha : ∀ K' : AV -> AHeap -> Prop, (∀ av, S av -> K' av h) -> aop P o.op env h K') (hk : ∀ av, S av -> Vp P L (k + 1) (putE env o.dst av) h K) : Vp P L k env h K := by
 obtain ⟨hlt, rfl⟩ := List.getElem?_eq_some_iff.1 hl
 show vd P (L.drop k) env h K
 rw [List.drop_eq_getElem_cons hlt]
 exact .inr (.inr ⟨hg, S, ha, hk⟩)
theorem vp_end (hl : L.drop k = []) (hk : K env h) : Vp P L k env h K := by
 show vd P (L.drop k) env h K
 rw [hl]; exact hk
theorem km_vd {l : List AOper} (hK : KMono K) : KMono fun F h' => vd P l F h' K := fun e env h he hv => vd_less hK he hv
theorem q_calln {g : FuncId} {f : AOpd} {args : List AOpd} {l l' : List AV} {r : AV} (hf : f.ev env = some (.clo (.func g) [] [])) (ha : evs env args = some l) (hl : l.map nz = l') (hgl : plainG h.globs = true) (hp : plainL l' = true) (hc : PureN P h.globs g l' r) : Does P (.call f args) env h r h :=
 fun K hk => (a_call hf ha (pure_call_n hc hgl hl hp hk)).out
theorem q_callv {g : FuncId} {f : AOpd} {args : List AOpd} {l l' first captured : List AV} {r : AV} (hf : f.ev env = some (.clo (.func g) first captured)) (ha : evs env args = some l) (hl : (first ++ l ++ captured).map nz = l') (hgl : plainG h.globs = true) (hp : plainL l' = true) (hc : PureN P h.globs g l' r) : Does P (.call f args) env h r h :=
 fun K hk => (a_callv hf ha (pure_call_n hc hgl hl hp hk)).out
theorem envLe_of' : ∀ (e : Env), e.map (fun p => get env p.1) = e.map (fun p => some p.2) -> EnvLe e env
 | [], _ => trivial
 | (t, a) :: e, h => by
  simp only [List.map_cons, List.cons.injEq] at h
  exact ⟨h.1, envLe_of' e h.2⟩
end
def LoopW (P : Program) (c : Code) (Q : Exit -> Act -> World -> Prop) (a : Act) (w : World) : Prop := ∀ b k cs, ∃ e a' w', Q e a' w' /\ Arrives P (lone (b.at a (.code c :: .inLoop c :: k)) cs w) b k cs e a' w'
theorem loopW_unroll {P : Program} {Q : Exit -> Act -> World -> Prop} {a : Act} {w : World} {c : Code} (hx : c.wp P (Exit.then (LoopW P c Q) Q) a w) : LoopW P c Q a w := by
 intro b k cs
 obtain ⟨e, a₁, w₁, hq, harr⟩ := hx b (.inLoop c :: k) cs
 cases e with
 | normal =>
  obtain ⟨e₂, a₂, w₂, hq₂, harr₂⟩ := hq b k cs
  exact ⟨e₂, a₂, w₂, hq₂, .of_steps (Steps.trans harr (.one step_inLoop)) harr₂⟩
 | exit id => exact ⟨_, a₁, w₁, hq, .pass (x := .inLoop c) rfl (fun _ _ => .inl (by simp)) harr⟩
 | goto l => exact ⟨_, a₁, w₁, hq, .pass (x := .inLoop c) rfl (fun _ _ => .inl (by simp)) harr⟩
 | ret => exact ⟨_, a₁, w₁, hq, .pass (x := .inLoop c) rfl (fun _ _ => .inl (by simp)) harr⟩
 | panic ch => exact ⟨_, a₁, w₁, hq, .pass (x := .inLoop c) rfl (fun _ _ => .inl (by simp)) harr⟩
 | outgrown => exact ⟨_, a₁, w₁, hq, .pass (x := .inLoop c) rfl (fun _ _ => .inl (by simp)) harr⟩
theorem loopW_wp {P : Program} {Q : Exit -> Act -> World -> Prop} {a : Act} {w : World} {c : Code} (hx : LoopW P c Q a w) : (Code.loop c).wp P Q a w := by
 intro b k cs
 obtain ⟨e, a', w', hq, harr⟩ := hx b k cs
 exact ⟨e, a', w', hq, .of_steps (.one step_loop) harr⟩
theorem LoopW.mono {P : Program} {Q Q' : Exit -> Act -> World -> Prop} {a : Act} {w : World} {c : Code} (hq : ∀ e a w, Q e a w -> Q' e a w) (hx : LoopW P c Q a w) : LoopW P c Q' a w := by
 intro b k cs
 obtain ⟨e, a', w', h1, harr⟩ := hx b k cs
 exact ⟨e, a', w', hq _ _ _ h1, harr⟩
section
variable {P : Program} {h h' : AHeap} {env env' : Env} {N : Nat} {Q : Exit -> Env -> AHeap -> Prop} {x : ACode}
end
section
variable {P : Program} {h : AHeap} {env : Env} {α : Type}
def bI (s : ByteArray) : List Int := s.data.toList.map fun b => (b.toNat : Int)
theorem q_len {x : AOpd} {l : List α} {e : α -> List AV} {tok : Tok} (hx : x.ev env = some (.sl (List.map e l) tok)) : Does P (.len false x) env h (.v (.int .i64 l.length)) h := fun K hk => by
 simp only [aop, hx, wv, lenned, List.length_map]; exact hk
theorem q_idxSl {size : Nat} {x i : AOpd} {l : List α} {e' e : α -> List AV} {tok : Tok} {k : IntKind} {n : Int} {y : α} (hx : x.ev env = some (.sl (List.map e' l) tok)) (hi : i.ev env = some (.v (.int k n))) (h0 : 0 <= n) (hy : l[n.toNat]? = some y) (he : e' y = e y) (hs : (e y).length = size) : Does P (.idxSl size x i) env h (.elt (e y) 0) h := fun K hk => by
 simp only [aop, hx, hi, wv, indexed]
 obtain ⟨hlt, rfl⟩ := List.getElem?_eq_some_iff.1 hy
 have hg : (List.map e' l).getD n.toNat [] = e l[n.toNat] := by
  rw [List.getD_eq_getElem?_getD, List.getElem?_map, hy]; simpa using he
 rw [hg, List.length_map]
 exact ⟨⟨h0, by omega⟩, hs, hk⟩
theorem bound_len {e' : α -> List AV} {l : List α} {hv : Option AV} : boundOf (List.map e' l).length hv = boundOf l.length hv := by rw [List.length_map]
theorem q_sliceV {size : Nat} {x : AOpd} {lo hi : Option AOpd} {l : List α} {e' : α -> List AV} {tok : Tok} {lv hv : Option AV} {a u : Int} (hx : x.ev env = some (.sl (List.map e' l) tok)) (h1 : evo env lo = some lv) (h2 : evo env hi = some hv) (h3 : boundOf 0 lv = some a) (h4 : boundOf l.length hv = some u) (h0 : 0 <= a /\ a <= u /\ u <= (l.length : Int)) (hs : ∀ y, (e' y).length = size) : Does P (.sliceV size x lo hi none) env h (.sl (List.map e' ((l.take u.toNat).drop a.toNat)) (match lv, hv with | none, none => tok | _, _ => .no)) h := fun K hk => by
 have h5 : evo env none = some none := rfl
 simp only [aop, hx, h1, h2, h5, wv, slicedV, h3, bound_len, h4, List.length_map]
 refine ⟨h0, fun el hel => ?_, ?_⟩
 ·obtain ⟨y, _, rfl⟩ := List.mem_map.1 hel; exact hs y
 ·rw [← List.map_take, ← List.map_drop]; cases lv <;> cases hv <;> exact hk
theorem q_bin {op : BinOp} {x y : AOpd} {a b r : Value} {c : Prop} (hx : x.ev env = some (.v a)) (hy : y.ev env = some (.v b)) (hp : pbin op a b = some (c, r)) (hc : c) : Does P (.bin op x y) env h (.v r) h := fun K hk => by
 simp only [aop, hx, hy, wv, binned, hp]; exact ⟨hc, hk⟩
theorem q_catS {x y : AOpd} {a b : ByteArray} (hx : x.ev env = some (.v (.string a))) (hy : y.ev env = some (.v (.string b))) (h0 : ((a.size + b.size : Nat) : Int) <= 9223372036854775807) : Does P (.bin .add x y) env h (.v (.string (a ++ b))) h := q_bin hx hy rfl (by omega)
theorem bytes_eq {a b : ByteArray} : (a.toList == b.toList) = decide (a = b) := by
 rw [ByteArray.toList_eq, ByteArray.toList_eq]
 by_cases h : a = b
 ·subst h; simp
 ·rw [decide_eq_false h, beq_eq_false_iff_ne]
  intro he
  exact h (ByteArray.ext (Array.ext' he))
theorem q_eqS {x y : AOpd} {a b : ByteArray} (hx : x.ev env = some (.v (.string a))) (hy : y.ev env = some (.v (.string b))) : Does P (.bin .eql x y) env h (.v (.bool (decide (a = b)))) h := by rw [← bytes_eq]; exact q_bin hx hy (c := True) rfl trivial
theorem q_neS {x y : AOpd} {a b : ByteArray} (hx : x.ev env = some (.v (.string a))) (hy : y.ev env = some (.v (.string b))) : Does P (.bin .neq x y) env h (.v (.bool (!decide (a = b)))) h := by rw [← bytes_eq]; exact q_bin hx hy (c := True) rfl trivial
theorem h_append_own {size byt id : Nat} {x y : AOpd} {Y : AV} {e' : α -> List AV} {l m : List α} (hx : x.ev env = some (.sl (List.map e' l) (.own id))) (hy : y.ev env = some Y) (hm : elsH h size Y = some (List.map e' m)) (hb : h.bufs[id]? = some (l.length, size)) (hs : ∀ y, (e' y).length = size) (h0 : (l.length + m.length) * byt <= 140737488355328) : Does P (.append size byt x y) env h (.sl (List.map e' (l ++ m)) (.own id)) ⟨h.blks, h.bufs.set id ((l ++ m).length, size), h.globs⟩ := fun K hk => by
 simp only [aop, hx, hy, wv]
 refine .inl ?_
 simp only [appended, hm, List.length_map]
 refine ⟨fun el hel => by obtain ⟨y, _, rfl⟩ := List.mem_map.1 hel; exact hs y, fun el hel => by obtain ⟨y, _, rfl⟩ := List.mem_map.1 hel; exact hs y, hb, h0, ?_⟩
 rw [← List.map_append, ← List.length_append]; exact hk
theorem h_append_full {size byt : Nat} {x y : AOpd} {X Y : AV} {e' : α -> List AV} {l m : List α} {els : List (List AV)} (hx : x.ev env = some (.sl els .full)) (hy : y.ev env = some Y) (hX : els = List.map e' l) (hm : elsH h size Y = some (List.map e' m)) (hs : ∀ y, (e' y).length = size) (h0 : (l.length + m.length) * byt <= 140737488355328) : Does P (.append size byt x y) env h (.sl (List.map e' (l ++ m)) (.own h.bufs.length)) ⟨h.blks, h.bufs ++ [((l ++ m).length, size)], h.globs⟩ := fun K hk => by
 subst hX
 simp only [aop, hx, hy, wv]
 refine .inl ?_
 simp only [appended, hm, List.length_map]
 refine ⟨fun el hel => by obtain ⟨y, _, rfl⟩ := List.mem_map.1 hel; exact hs y, fun el hel => by obtain ⟨y, _, rfl⟩ := List.mem_map.1 hel; exact hs y, h0, ?_⟩
 rw [← List.map_append, ← List.length_append]; exact hk
theorem h_bytes {x : AOpd} {s : ByteArray} (hx : x.ev env = some (.v (.string s))) : Does P (.bytes x) env h (.sl (List.map (fun n => [AV.v (.int .u8 n)]) (bI s)) (.own h.bufs.length)) ⟨h.blks, h.bufs ++ [((bI s).length, 1)], h.globs⟩ := fun K hk => by
 simp only [aop, hx, wv, asBytes]
 have e : byteEls s.data.toList = List.map (fun n => [AV.v (.int .u8 n)]) (bI s) := by simp only [byteEls, bI, List.map_map]; rfl
 have e2 : s.data.toList.length = (bI s).length := by simp only [bI, List.length_map]
 rw [e, e2]; exact hk
theorem q_str {x : AOpd} {l : List Int} {t : ByteArray} {tok : Tok} (hx : x.ev env = some (.sl (List.map (fun n => [AV.v (.int .u8 n)]) l) tok)) (hl : l = bI t) : Does P (.conv .str x) env h (.v (.string t)) h := fun K hk => by
 subst hl
 simp only [aop, hx, wv, conved]
 refine ⟨t.data.toList, by simp only [byteEls, bI, List.map_map]; rfl, ?_⟩
 have : (⟨t.data.toList.toArray⟩ : ByteArray) = t := by
  apply ByteArray.ext; apply Array.ext'; simp
 rw [this]; exact hk
end
def vs (P : Program) (I : AHeap -> Prop) : Bool -> List AOper -> Env -> AHeap -> (Env -> AHeap -> Prop) -> Prop
 | _, [], env, h, K => K env h
 | b, o :: r, env, h, K =>
  (guardF env o.guard = some false /\ vs P I b r (dropE env o.dst) h K) ∨
  (guardF env o.guard = some true /\ quietOp o.op = true /\ ∃ av, (∀ h2, I h2 -> aopQ P o.op env h2 av) /\ vs P I b r (putE env o.dst av) h K) ∨
  (guardF env o.guard = some true /\ quietOp o.op = false /\ isNew o = false /\ ∃ av h', Does P o.op env h av h' /\ I h' /\ vs P I false r (putE env o.dst av) h' K) ∨
  (b = true /\ ∃ cells, o.op = .alloc cells /\ o.guard = none /\ vs P I b r (putE env o.dst (.ptr h.blks.length 0)) ⟨h.blks ++ [some cells], h.bufs, h.globs⟩ K)
def DoesS (P : Program) (I : AHeap -> Prop) (F : Env) (hs : List AHeap) (j : Nat) (o : AOper) : Option Nat -> Prop
 | some n => ∃ av h1 h2, hs[n - j]? = some h1 /\ hs[n - j + 1]? = some h2 /\ aop P o.op F h1 (fun a b => a = av /\ b = h2) /\ ∀ d, o.dst = some d -> get F d = some av
 | none => ∃ av, (∀ h2, I h2 -> aopQ P o.op F h2 av) /\ ∀ d, o.dst = some d -> get F d = some av
def GF (F : Env) (D S : Prop) : Option (Nat × Bool) -> Prop
 | none => D
 | some (t, want) => (∃ b, get F t = some (.v (.bool b)) /\ (b = want -> D) /\ (b ≠ want -> S)) ∨ (get F t = some (.tuple []) /\ S)
def FactS (P : Program) (I : AHeap -> Prop) (F : Env) (hs : List AHeap) (j : Nat) (o : AOper) (n : Option Nat) : Prop :=
 GF F (DoesS P I F hs j o n) (n = none /\ ∀ d, o.dst = some d -> get F d = some (.tuple [])) o.guard
structure PassS (P : Program) (I : AHeap -> Prop) (l : List AOper) (env F : Env) (cur h' : AHeap) (i0 : Nat) (az : List (Nat × List AV)) (hs : List AHeap) (fl : List (Option Nat)) (j : Nat) : Prop where
 len : fl.length = l.length
 first : hs[0]? = some ⟨cur.blks ++ az.map (fun p => some p.2), cur.bufs, cur.globs⟩
 last : ∃ n, hs.length = n + 1 /\ hs[n]? = some h'
 bound : ∀ i n : Nat, fl[i]? = some (some n) -> j <= n /\ n + 1 < j + hs.length
 mono : ∀ i k a b : Nat, i < k -> fl[i]? = some (some a) -> fl[k]? = some (some b) -> a < b
 onto : ∀ n : Nat, j <= n -> n + 1 < j + hs.length -> ∃ i : Nat, fl[i]? = some (some n)
 keep : ∀ t, writes t l = false -> get F t = get env t
 pos : ∀ (q : Nat) (p : Nat × List AV), az[q]? = some p -> ∃ i o, p.1 = i0 + i /\ l[i]? = some o /\ o.op = .alloc p.2 /\ o.guard = none /\ fl[i]? = some none /\ ∀ d, o.dst = some d -> get F d = some (.ptr (cur.blks.length + q) 0)
 incr : ∀ (q r : Nat) (p s : Nat × List AV), q < r -> az[q]? = some p -> az[r]? = some s -> p.1 < s.1
 inv : ∀ (m : Nat) hm, 0 < m -> hs[m]? = some hm -> I hm
 chg : ∀ (i n : Nat) (o : AOper), fl[i]? = some (some n) -> l[i]? = some o -> quietOp o.op = false /\ isNew o = false
 fact : ∀ (i : Nat) (o : AOper) (n : Option Nat), l[i]? = some o -> fl[i]? = some n -> (∃ (q : Nat) (p : Nat × List AV), az[q]? = some p /\ p.1 = i0 + i) ∨ FactS P I F hs j o n
theorem guard_fact {F env : Env} {g : Option (Nat × Bool)} {D S : Prop} (hg : guardF env g = some true) (hl : ∀ t w, g = some (t, w) -> get F t = get env t) (hD : D) : GF F D S g := by
 cases g with
 | none => exact hD
 | some p =>
  obtain ⟨t, want⟩ := p
  simp only [guardF, Option.bind_eq_some_iff] at hg
  obtain ⟨v, h1, h2⟩ := hg
  split at h2
  ·rename_i b
   simp only [Option.some.injEq, beq_iff_eq] at h2
   exact .inl ⟨b, by rw [hl t want rfl]; exact h1, fun _ => hD, fun hn => absurd h2 hn⟩
  ·cases h2
  ·cases h2
theorem guard_skip {F env : Env} {g : Option (Nat × Bool)} {D S : Prop} (hg : guardF env g = some false) (hl : ∀ t w, g = some (t, w) -> get F t = get env t) (hS : S) : GF F D S g := by
 cases g with
 | none => simp [guardF] at hg
 | some p =>
  obtain ⟨t, want⟩ := p
  simp only [guardF, Option.bind_eq_some_iff] at hg
  obtain ⟨v, h1, h2⟩ := hg
  split at h2
  ·rename_i b
   simp only [Option.some.injEq, beq_eq_false_iff_ne] at h2
   exact .inl ⟨b, by rw [hl t want rfl]; exact h1, fun h => absurd h h2, fun _ => hS⟩
  ·exact .inr ⟨by rw [hl t want rfl]; exact h1, hS⟩
  ·cases h2
theorem vs_pass {P : Program} {I : AHeap -> Prop} : ∀ {l : List AOper} {b : Bool} {env : Env} {cur : AHeap} {i0 j : Nat} {K : Env -> AHeap -> Prop}, okq l = true -> vs P I b l env cur K -> ∃ F az hs fl h', PassS P I l env F cur h' i0 az hs fl j /\ K F h' /\ (b = false -> az = [])
 | [], b, env, cur, i0, j, K, _, hk => ⟨env, [], [cur], [], cur, ⟨rfl, by simp, ⟨0, rfl, rfl⟩, fun i n hi => by simp at hi, fun i k a b _ hi => by simp at hi, fun n h1 h2 => by simp at h2; omega, fun _ _ => rfl, fun q p hq => by simp at hq, fun q r p s _ hq => by simp at hq, fun m hm h0 h1 => by cases m <;> simp at h0 h1, fun i n o hi => by simp at hi, fun i o n hi => by simp at hi⟩, hk, fun _ => rfl⟩
 | o :: r, b, env, cur, i0, j, K, hok, hv => by
  have hok0 := hok
  simp only [okq, Bool.and_eq_true, List.all_eq_true] at hok
  obtain ⟨⟨hlook, hdst⟩, hokr⟩ := hok
  have hwr : ∀ t, writes t (o :: r) = false -> o.dst ≠ some t /\ writes t r = false := by
   intro t ht
   simp only [writes, List.any_cons, Bool.or_eq_false_iff] at ht ⊢
   exact ⟨by simpa using ht.1, ht.2⟩
  have hd : ∀ d, o.dst = some d -> writes d r = false := by
   intro d hd
   rw [hd] at hdst
   simpa using hdst
  have hl : ∀ (F : Env), (∀ t, writes t (o :: r) = false -> get F t = get env t) -> ∀ t ∈ o.looks, get F t = get env t := fun F hF t ht => hF t (by simpa using hlook t ht)
  have hcong : ∀ (F : Env), (∀ t, writes t (o :: r) = false -> get F t = get env t) -> ∀ (h : AHeap) (K : AV -> AHeap -> Prop), aop P o.op env h K -> aop P o.op F h K := by
   intro F hF h K hq
   rw [← aop_congr (e1 := env) (e2 := F)]
   ·exact hq
   ·intro x hx
    cases x with
    | c a => rfl
    | t n =>
     refine (hl F hF n ?_).symm
     simp only [AOper.looks, List.mem_append, List.mem_filterMap]
     exact .inl ⟨.t n, hx, rfl⟩
  have hgl : ∀ (F : Env), (∀ t, writes t (o :: r) = false -> get F t = get env t) -> ∀ t w, o.guard = some (t, w) -> get F t = get env t := fun F hF t w hg => hl F hF t (by simp [AOper.looks, hg])
  -- an operation that leaves the heap
  have still : ∀ (env' F : Env) (az : List (Nat × List AV)) (hs : List AHeap) (fl : List (Option Nat)) (h' : AHeap), PassS P I r env' F cur h' (i0 + 1) az hs fl j -> (∀ t, o.dst ≠ some t -> get env' t = get env t) -> ((∀ t, writes t (o :: r) = false -> get F t = get env t) -> FactS P I F hs j o none) -> PassS P I (o :: r) env F cur h' i0 az hs (none :: fl) j := by
   intro env' F az hs fl h' hp henv hf
   have hF : ∀ t, writes t (o :: r) = false -> get F t = get env t := fun t ht => by
    obtain ⟨h1, h2⟩ := hwr t ht
    rw [hp.keep t h2, henv t h1]
   refine ⟨by simp [hp.len], hp.first, hp.last, fun i n hi => ?_, fun i k a b hik hi hk => ?_, fun n h1 h2 => ?_, hF, fun q p hqp => ?_, hp.incr, hp.inv, fun i n o' hi ho => ?_, fun i o' n hi hn => ?_⟩
   ·cases i with
    | zero => simp at hi
    | succ i => exact hp.bound i n (by simpa using hi)
   ·cases i with
    | zero => simp at hi
    | succ i => cases k with
     | zero => omega
     | succ k => exact hp.mono i k a b (by omega) (by simpa using hi) (by simpa using hk)
   ·obtain ⟨i, hi⟩ := hp.onto n h1 h2
    exact ⟨i + 1, by simpa using hi⟩
   ·obtain ⟨i, o', e1, e2, e3⟩ := hp.pos q p hqp
    exact ⟨i + 1, o', by omega, by simpa using e2, by simpa using e3⟩
   ·cases i with
    | zero => simp at hi
    | succ i => exact hp.chg i n o' (by simpa using hi) (by simpa using ho)
   ·cases i with
    | zero => simp at hi hn; subst hi hn; exact .inr (hf hF)
    | succ i =>
     rcases hp.fact i o' n (by simpa using hi) (by simpa using hn) with ⟨q, p, e1, e2⟩ | h
     ·exact .inl ⟨q, p, e1, by omega⟩
     ·exact .inr h
  have hputF : ∀ (av : AV) (F : Env) , (∀ t, writes t r = false -> get F t = get (putE env o.dst av) t) -> ∀ d, o.dst = some d -> get F d = some av := fun av F hF d hd' => by rw [hF d (hd d hd'), get_putE, if_pos hd']
  rcases hv with ⟨hg, hv⟩ | ⟨hg, hq, av, ha, hv⟩ | ⟨hg, hq, hnew, av, h1, ha, hI, hv⟩ | ⟨hb, cells, hop, hgd, hv⟩
  ·obtain ⟨F, az, hs, fl, h', hp, hk, has⟩ := vs_pass (i0 := i0 + 1) (j := j) hokr hv
   refine ⟨F, az, hs, none :: fl, h', still _ F az hs fl h' hp (fun t ht => by rw [get_dropE, if_neg ht]) fun hF => ?_, hk, has⟩
   exact guard_skip hg (hgl F hF) ⟨rfl, fun d hd' => by rw [hp.keep d (hd d hd'), get_dropE, if_pos hd']⟩
  ·obtain ⟨F, az, hs, fl, h', hp, hk, has⟩ := vs_pass (i0 := i0 + 1) (j := j) hokr hv
   refine ⟨F, az, hs, none :: fl, h', still _ F az hs fl h' hp (fun t ht => by rw [get_putE, if_neg ht]) fun hF => ?_, hk, has⟩
   exact guard_fact hg (hgl F hF) ⟨av, fun h2 hi => hcong F hF h2 _ (ha h2 hi), hputF av F hp.keep⟩
  ·obtain ⟨F, az, hs, fl, h', hp, hk, has⟩ := vs_pass (i0 := i0 + 1) (j := j + 1) hokr hv
   have has0 := has rfl
   subst has0
   have hF : ∀ t, writes t (o :: r) = false -> get F t = get env t := fun t ht => by
    obtain ⟨g1, g2⟩ := hwr t ht
    rw [hp.keep t g2, get_putE, if_neg g1]
   have hfirst : hs[0]? = some h1 := by rw [hp.first]; simp
   obtain ⟨nl, hnl, hlast⟩ := hp.last
   refine ⟨F, [], cur :: hs, some j :: fl, h', ⟨by simp [hp.len], by simp, ⟨nl + 1, by simp [hnl], by simpa using hlast⟩, fun i n hi => ?_, fun i k a b hik hi hk => ?_, fun n h1 h2 => ?_, hF, fun q p hqp => by simp at hqp, fun q r p s _ hqp => by simp at hqp, fun m hm h0 hmm => ?_, fun i n o' hi ho => ?_, fun i o' n hi hn => ?_⟩, hk, fun _ => rfl⟩
   ·cases i with
    | zero => simp at hi; subst hi; exact ⟨Nat.le_refl _, by simp; omega⟩
    | succ i => have := hp.bound i n (by simpa using hi); simp; omega
   ·cases i with
    | zero =>
     simp at hi
     cases k with
     | zero => omega
     | succ k => have := (hp.bound k b (by simpa using hk)).1; omega
    | succ i => cases k with
     | zero => omega
     | succ k => exact hp.mono i k a b (by omega) (by simpa using hi) (by simpa using hk)
   ·by_cases hnj : n = j
    ·subst hnj; exact ⟨0, rfl⟩
    ·obtain ⟨i, hi⟩ := hp.onto n (by omega) (by simp at h2; omega)
     exact ⟨i + 1, by simpa using hi⟩
   ·cases m with
    | zero => omega
    | succ m =>
     cases m with
     | zero => simp only [Nat.zero_add, List.getElem?_cons_succ] at hmm; rw [hfirst] at hmm; cases hmm; exact hI
     | succ m => exact hp.inv (m + 1) hm (by omega) (by simpa using hmm)
   ·cases i with
    | zero => simp at hi ho; subst ho; exact ⟨hq, hnew⟩
    | succ i => exact hp.chg i n o' (by simpa using hi) (by simpa using ho)
   ·cases i with
    | zero =>
     simp at hi hn; subst hi hn
     refine .inr (guard_fact hg (hgl F hF) ⟨av, cur, h1, by simp, by simpa using hfirst, hcong F hF _ _ (ha _ ⟨rfl, rfl⟩), hputF av F hp.keep⟩)
    | succ i =>
     rcases hp.fact i o' n (by simpa using hi) (by simpa using hn) with ⟨q, p, e1, e2⟩ | h
     ·simp at e1
     ·refine .inr ?_
      have up : DoesS P I F hs (j + 1) o' n -> DoesS P I F (cur :: hs) j o' n := by
       intro hdo
       cases n with
       | none => exact hdo
       | some n =>
        have hb := (hp.bound i n (by simpa using hn)).1
        obtain ⟨av', g1, g2, e1, e2, e3⟩ := hdo
        have q1 : n - j = (n - (j + 1)) + 1 := by omega
        exact ⟨av', g1, g2, by rw [q1]; simpa using e1, by rw [q1]; simpa using e2, e3⟩
      unfold FactS at h ⊢
      cases hgd : o'.guard with
      | none => rw [hgd] at h; exact up h
      | some g =>
       rw [hgd] at h
       rcases h with ⟨b', q1, q2, q3⟩ | h
       ·exact .inl ⟨b', q1, fun hb' => up (q2 hb'), q3⟩
       ·exact .inr h
  ·obtain ⟨F, az, hs, fl, h', hp, hk, has⟩ := vs_pass (i0 := i0 + 1) (j := j) hokr hv
   have hF : ∀ t, writes t (o :: r) = false -> get F t = get env t := fun t ht => by
    obtain ⟨g1, g2⟩ := hwr t ht
    rw [hp.keep t g2, get_putE, if_neg g1]
   refine ⟨F, (i0, cells) :: az, hs, none :: fl, h', ⟨by simp [hp.len], by rw [hp.first]; simp, hp.last, fun i n hi => ?_, fun i k a b hik hi hk => ?_, fun n h1 h2 => ?_, hF, fun q p hqp => ?_, fun q s p t hqs hqp hst => ?_, hp.inv, fun i n o' hi ho => ?_, fun i o' n hi hn => ?_⟩, hk, fun h => by rw [hb] at h; cases h⟩
   ·cases i with
    | zero => simp at hi
    | succ i => exact hp.bound i n (by simpa using hi)
   ·cases i with
    | zero => simp at hi
    | succ i => cases k with
     | zero => omega
     | succ k => exact hp.mono i k a b (by omega) (by simpa using hi) (by simpa using hk)
   ·obtain ⟨i, hi⟩ := hp.onto n h1 h2
    exact ⟨i + 1, by simpa using hi⟩
   ·cases q with
    | zero =>
     simp at hqp; subst hqp
     refine ⟨0, o, rfl, rfl, hop, hgd, rfl, fun d hd' => ?_⟩
     rw [hputF _ F hp.keep d hd']; simp
    | succ q =>
     obtain ⟨i, o', e1, e2, e3, e4, e5, e6⟩ := hp.pos q p (by simpa using hqp)
     refine ⟨i + 1, o', by omega, by simpa using e2, e3, e4, by simpa using e5, fun d hd' => ?_⟩
     rw [e6 d hd']; simp; omega
   ·cases s with
    | zero => omega
    | succ s =>
     obtain ⟨i, o', e1, _⟩ := hp.pos s t (by simpa using hst)
     cases q with
     | zero => simp at hqp; subst hqp; simp; omega
     | succ q => exact hp.incr q s p t (by omega) (by simpa using hqp) (by simpa using hst)
   ·cases i with
    | zero => simp at hi
    | succ i => exact hp.chg i n o' (by simpa using hi) (by simpa using ho)
   ·cases i with
    | zero => simp at hi; subst hi; exact .inl ⟨0, _, rfl, by simp⟩
    | succ i =>
     rcases hp.fact i o' n (by simpa using hi) (by simpa using hn) with ⟨q, p, e1, e2⟩ | h
     ·exact .inl ⟨q + 1, p, by simpa using e1, by omega⟩
     ·exact .inr h
def statS (ord : List (List Nat)) (al : List AOper) : Bool :=
 (List.range al.length).all fun k => match al[k]? with
  | some o => !isChange o || (List.range al.length).all fun i => match al[i]? with
   | some p => (!(isChange p && decide (i < k)) || (ord.getD k []).contains i) && (!isNew p || (ord.getD k []).contains i)
   | none => true
  | none => true
theorem statS_get {ord : List (List Nat)} {al : List AOper} (h : statS ord al = true) {k i : Nat} {o p : AOper} (hk : al[k]? = some o) (hi : al[i]? = some p) (hc : isChange o = true) :
  (isChange p = true -> i < k -> i ∈ ord.getD k []) /\ (isNew p = true -> i ∈ ord.getD k []) := by
 simp only [statS, List.all_eq_true, List.mem_range] at h
 have h1 := h k (List.getElem?_eq_some_iff.1 hk).1
 rw [hk] at h1
 simp only [hc, Bool.not_true, Bool.false_or, List.all_eq_true, List.mem_range] at h1
 have h2 := h1 i (List.getElem?_eq_some_iff.1 hi).1
 rw [hi] at h2
 simp only [Bool.and_eq_true, Bool.or_eq_true, Bool.not_eq_true', Bool.and_eq_false_iff, decide_eq_false_iff_not, List.contains_iff_mem] at h2
 refine ⟨fun a b => ?_, fun a => ?_⟩
 ·rcases h2.1 with (h3 | h3) | h3
  ·rw [a] at h3; cases h3
  ·exact absurd b h3
  ·exact h3
 ·rcases h2.2 with h3 | h3
  ·rw [a] at h3; cases h3
  ·exact h3
theorem noise_S {P : Program} {I : AHeap -> Prop} {ord : List (List Nat)} {al : List AOper} {env : Env} {h : AHeap} {K : Env -> AHeap -> Prop} (hok : okq al = true) (hst : statS ord al = true) (hI : ∀ h2 : AHeap, (∃ ext, h2.blks = h.blks ++ ext) -> h2.bufs = h.bufs -> h2.globs = h.globs -> I h2) (hv : vs P I true al env h K) :
  ∃ F h' az hs fl, Noise P ord al env F h h' az hs fl /\ K F h' := by
 obtain ⟨F, az, hs, fl, h', ps, hk, _⟩ := vs_pass (i0 := 0) (j := 0) hok hv
 refine ⟨F, h', az, hs, fl, ?_, hk⟩
 obtain ⟨nl, hnl, hlast⟩ := ps.last
 have hget : ∀ k n : Nat, fl[k]? = some (some n) -> ∃ o, al[k]? = some o /\ isChange o = true := by
  intro k n hkn
  have hkl : k < al.length := by rw [← ps.len]; exact (List.getElem?_eq_some_iff.1 hkn).1
  have ho : al[k]? = some al[k] := List.getElem?_eq_getElem hkl
  obtain ⟨h1, h2⟩ := ps.chg k n _ hkn ho
  exact ⟨_, ho, by unfold isChange; rw [h1, h2]; rfl⟩
 have hpos : ∀ (q : Nat) (p : Nat × List AV), az[q]? = some p -> ∃ o, al[p.1]? = some o /\ isNew o = true /\ o.op = .alloc p.2 /\ o.guard = none /\ fl[p.1]? = some none /\ ∀ d, o.dst = some d -> get F d = some (.ptr (h.blks.length + q) 0) := by
  intro q p hqp
  obtain ⟨i, o, e1, e2, e3, e4, e5, e6⟩ := ps.pos q p hqp
  have : p.1 = i := by omega
  rw [this]
  exact ⟨o, e2, by unfold isNew; rw [e3, e4], e3, e4, e5, e6⟩
 refine ⟨ps.len, fun i k a b hik hi hk => ⟨ps.mono i k a b hik hi hk, ?_⟩, fun j hj => ps.onto j (by omega) (by omega), ?_, ps.last, fun i n hi => by have := ps.bound i n hi; omega, ps.keep, fun q p hqp => ?_, fun q r p s hqp hrs hps => ?_, fun k n hk p hp => ?_, fun i o n hi hn => ?_⟩
 ·obtain ⟨o1, h1, h2⟩ := hget i a hi
  obtain ⟨o2, h3, h4⟩ := hget k b hk
  exact (statS_get hst h3 h1 h4).1 h2 hik
 ·rw [ps.first]; simp [hA]
 ·obtain ⟨o, e1, _, e2⟩ := hpos q p hqp
  exact ⟨o, e1, e2⟩
 ·rcases Nat.lt_trichotomy q r with hlt | heq | hgt
  ·have := ps.incr q r p s hlt hqp hrs; omega
  ·exact heq
  ·have := ps.incr r q s p hgt hrs hqp; omega
 ·obtain ⟨o2, h3, h4⟩ := hget k n hk
  obtain ⟨q, hq⟩ := List.mem_iff_getElem?.1 hp
  obtain ⟨o, e1, e2, _⟩ := hpos q p hq
  exact (statS_get hst h3 e1 h4).2 e2
 ·rcases ps.fact i o n hi hn with ⟨q, p, e1, e2⟩ | hf
  ·exact .inl ⟨q, p, e1, by omega⟩
  right
  have conv : DoesS P I F hs 0 o n -> DoesN P F h az hs ord fl i o n := by
   intro hd
   cases n with
   | some n => obtain ⟨av, h1, h2, e1, e2, e3⟩ := hd; exact ⟨av, h1, h2, by simpa using e1, by simpa using e2, e3⟩
   | none =>
    obtain ⟨av, hqa, hfd⟩ := hd
    refine ⟨av, 0, hs.length - 1, by omega, fun j lst hj _ _ h3 => hqa hj ?_, fun k n _ h => by omega, .inl (by omega), hfd⟩
    cases j with
    | zero =>
     have : hA h az lst = hj := Option.some.inj h3
     subst this
     exact hI _ ⟨_, rfl⟩ rfl rfl
    | succ j => exact ps.inv (j + 1) hj (by omega) h3
  unfold FactN
  unfold FactS at hf
  cases hgd : o.guard with
  | none => rw [hgd] at hf; simp only [hgd]; exact conv hf
  | some g =>
   obtain ⟨t, want⟩ := g
   rw [hgd] at hf
   simp only [hgd]
   rcases hf with ⟨b, h1, h2, h3⟩ | hf
   ·exact .inl ⟨b, h1, fun hb => conv (h2 hb), h3⟩
   ·exact .inr hf
def InS (S : List (Nat × List AV)) (gl : List (Nat × List AV)) (h : AHeap) : Prop := (∀ b c, (b, c) ∈ S -> h.blks[b]? = some (some c)) /\ h.globs = gl
def inS (S : List (Nat × List AV)) (h : AHeap) : List (Option (Option (List AV))) := S.map fun p => h.blks[p.1]?
theorem InS_of {S gl : List (Nat × List AV)} {h : AHeap} (h1 : inS S h = S.map fun p => some (some p.2)) (h2 : h.globs = gl) : InS S gl h := by
 refine ⟨fun b c hbc => ?_, h2⟩
 obtain ⟨i, hi⟩ := List.mem_iff_getElem?.1 hbc
 have := congrArg (fun l => l[i]?) h1
 simpa [inS, List.getElem?_map, hi] using this
def Sp (P : Program) (S gl : List (Nat × List AV)) (b : Bool) (L : List AOper) (k : Nat) (env : Env) (h : AHeap) (K : Env -> AHeap -> Prop) : Prop := vs P (InS S gl) b (L.drop k) env h K
def mini : Nat -> List (Nat × List AV) -> List (Option (List AV))
 | 0, _ => []
 | n + 1, S => mini n S ++ [(S.find? fun p => p.1 == n).map (·.2)]
theorem mini_len : ∀ (n : Nat) (S : List (Nat × List AV)), (mini n S).length = n
 | 0, _ => rfl
 | n + 1, S => by simp [mini, mini_len n S]
theorem mini_get : ∀ (n : Nat) (S : List (Nat × List AV)) (k : Nat) (c : List AV), (mini n S)[k]? = some (some c) -> (k, c) ∈ S
 | 0, _, k, c, h => by simp [mini] at h
 | n + 1, S, k, c, h => by
  by_cases hk : k < n
  ·refine mini_get n S k c ?_
   rw [mini, List.getElem?_append_left (by rw [mini_len]; exact hk)] at h
   exact h
  ·rw [mini, List.getElem?_append_right (by rw [mini_len]; omega), mini_len] at h
   by_cases he : k = n
   ·subst he
    simp only [Nat.sub_self, List.getElem?_cons_zero, Option.some.injEq, Option.map_eq_some_iff] at h
    obtain ⟨p, h1, rfl⟩ := h
    have h2 := List.find?_some h1
    have h3 := List.mem_of_find?_eq_some h1
    have : p.1 = k := by simpa using h2
    subst this
    exact h3
   ·rw [List.getElem?_eq_none (by simp; omega)] at h; cases h
theorem mini_loaded {S gl : List (Nat × List AV)} {n : Nat} {h : AHeap} (hi : InS S gl h) {m : Option Nat} {p a : AV} (hl : loadedF ⟨mini n S, [], gl⟩ m p = some a) : loadedF h m p = some a := by
 have hp : ∀ q, place ⟨mini n S, [], gl⟩ p = some q -> place h p = some q := by
  intro q hq
  cases p with
  | ptr k off =>
   simp only [place] at hq ⊢
   split at hq
   ·rename_i cells hc
    rw [hi.1 k cells (mini_get n S k cells hc)]
    exact hq
   ·cases hq
  | glob k => simp only [place] at hq ⊢; rw [hi.2]; exact hq
  | elt c o => exact hq
  | _ => simp [place] at hq
 unfold loadedF at hl ⊢
 cases hq : place ⟨mini n S, [], gl⟩ p with
 | none => rw [hq] at hl; cases hl
 | some q => rw [hq] at hl; rw [hp q hq]; exact hl
def vsC (n : Nat) (S gl : List (Nat × List AV)) (b : Bool) : List AOper -> Env -> AHeap -> Option (Env × AHeap)
 | [], env, h => some (env, h)
 | o :: r, env, h => (guardF env o.guard).bind fun g => match g with
  | false => vsC n S gl b r (dropE env o.dst) h
  | true => match o.op, o.guard with
   | .alloc cells, none => if b = true then vsC n S gl b r (putE env o.dst (.ptr h.blks.length 0)) ⟨h.blks ++ [some cells], h.bufs, h.globs⟩ else none
   | _, _ => if quietOp o.op = true then (aopF false noC o.op env ⟨mini n S, [], gl⟩).bind fun p => vsC n S gl b r (putE env o.dst p.1) h else none
theorem quiet_all {P : Program} {n : Nat} {S gl : List (Nat × List AV)} {o : AOp} {env : Env} {a : AV} {h1 : AHeap} (hq : quietOp o = true) (he : aopF false noC o env ⟨mini n S, [], gl⟩ = some (a, h1)) : ∀ h2, InS S gl h2 -> aopQ P o env h2 a := by
 intro h2 hi
 have hsame : h1 = ⟨mini n S, [], gl⟩ := aopF_quiet (fun f args h a h' he => by cases he) hq he
 subst hsame
 by_cases hp : pureOp o = true
 ·exact aopQ_pure hp (aopF_ok (K := fun x y => x = a /\ y = _) noC_ok he ⟨rfl, rfl⟩)
 ·cases o <;> first | (exact absurd rfl hp) | (cases hq; done) | skip
  case load m x =>
   simp only [aopF, Option.bind_eq_some_iff] at he
   obtain ⟨p, h1, h3⟩ := he
   obtain ⟨h4, _⟩ := stay_some h3
   show wv (x.ev env) _
   rw [h1]
   exact loadedF_ok (K := fun x => x = a /\ h2 = h2) (mini_loaded hi h4) ⟨rfl, rfl⟩
  case call f args =>
   simp only [aopF, Option.bind_eq_some_iff] at he
   obtain ⟨fv, h1, l, h3, h4⟩ := he
   split at h4 <;> cases h4
theorem vsC_ok {P : Program} {n : Nat} {S gl : List (Nat × List AV)} {b : Bool} {t : List AOper} {K : Env -> AHeap -> Prop} : ∀ {a : List AOper} {env : Env} {h : AHeap} {r : Env × AHeap}, vsC n S gl b a env h = some r -> vs P (InS S gl) b t r.1 r.2 K -> vs P (InS S gl) b (a ++ t) env h K
 | [], env, h, r, he, hk => by cases he; exact hk
 | o :: a, env, h, r, he, hk => by
  simp only [vsC, Option.bind_eq_some_iff] at he
  obtain ⟨g, h1, h2⟩ := he
  cases g with
  | false => exact .inl ⟨h1, vsC_ok h2 hk⟩
  | true =>
   simp only at h2
   split at h2
   ·rename_i cells ho hgd
    split at h2
    ·rename_i hb
     exact .inr (.inr (.inr ⟨hb, cells, ho, hgd, vsC_ok h2 hk⟩))
    ·cases h2
   ·split at h2
    ·rename_i hq
     simp only [Option.bind_eq_some_iff] at h2
     obtain ⟨⟨av, hx⟩, h3, h4⟩ := h2
     exact .inr (.inl ⟨h1, hq, av, quiet_all hq h3, vsC_ok h4 hk⟩)
    ·cases h2
section
variable {P : Program} {h h' : AHeap} {env : Env} {N : Nat} {Q : Exit -> Env -> AHeap -> Prop} {K : Env -> AHeap -> Prop} {L : List AOper} {k : Nat} {S gl : List (Nat × List AV)} {b : Bool}
theorem sp_chunk (n m : Nat) (env' : Env) (h' : AHeap) (he : vsC n S gl b ((L.drop k).take m) env h = some (env', h')) {k' : Nat} (hk' : k + m = k') (hk : Sp P S gl b L k' env' h' K) : Sp P S gl b L k env h K := by
 subst hk'
 show vs P _ b (L.drop k) env h K
 rw [← List.take_append_drop m (L.drop k), List.drop_drop]
 exact vsC_ok he hk
theorem sp_q {o : AOper} (hl : L[k]? = some o) (hg : guardF env o.guard = some true) (hq : quietOp o.op = true) {av : AV} {env1 : Env} (ha : ∀ h2, InS S gl h2 -> Does P o.op env h2 av h2) {k' : Nat} (hk' : k + 1 = k') (he : putE env o.dst av = env1) (hk : Sp P S gl b L k' env1 h K) : Sp P S gl b L k env h K := by
 subst hk' he
 obtain ⟨hlt, rfl⟩ := List.getElem?_eq_some_iff.1 hl
 show vs P _ b (L.drop k) env h K
 rw [List.drop_eq_getElem_cons hlt]
 exact .inr (.inl ⟨hg, hq, av, fun h2 hi => (ha h2 hi).q, hk⟩)
theorem sp_chg {o : AOper} (hl : L[k]? = some o) (hg : guardF env o.guard = some true) (hq : quietOp o.op = false) (hn : isNew o = false) {av : AV} {env1 : Env} (ha : Does P o.op env h av h') (hi : inS S h' = S.map fun p => some (some p.2)) (hgl : h'.globs = gl) {k' : Nat} (hk' : k + 1 = k') (he : putE env o.dst av = env1) (hk : Sp P S gl false L k' env1 h' K) : Sp P S gl b L k env h K := by
 subst hk' he
 obtain ⟨hlt, rfl⟩ := List.getElem?_eq_some_iff.1 hl
 show vs P _ b (L.drop k) env h K
 rw [List.drop_eq_getElem_cons hlt]
 exact .inr (.inr (.inl ⟨hg, hq, hn, av, h', ha, InS_of hi hgl, hk⟩))
theorem vs_less {I : AHeap -> Prop} {K : Env -> AHeap -> Prop} (hK : KMono K) : ∀ {l : List AOper} {b : Bool} {e env : Env} {h : AHeap}, Less e env -> vs P I b l e h K -> vs P I b l env h K
 | [], b, e, env, h, he, hv => hK e env h he hv
 | o :: r, b, e, env, h, he, hv => by
  rcases hv with ⟨hg, hv⟩ | ⟨hg, hq, av, ha, hv⟩ | ⟨hg, hq, hn, av, h', ha, hi, hv⟩ | ⟨hb, cells, ho, hg, hv⟩
  ·exact .inl ⟨he.guard hg, vs_less hK (he.drop _) hv⟩
  ·exact .inr (.inl ⟨he.guard hg, hq, av, fun h2 hi => aop_less he (ha h2 hi), vs_less hK (he.put _ _) hv⟩)
  ·exact .inr (.inr (.inl ⟨he.guard hg, hq, hn, av, h', ha.less he, hi, vs_less hK (he.put _ _) hv⟩))
  ·exact .inr (.inr (.inr ⟨hb, cells, ho, hg, vs_less hK (he.put _ _) hv⟩))
theorem sp_end (hl : L.drop k = []) (hk : K env h) : Sp P S gl b L k env h K := by
 show vs P _ b (L.drop k) env h K
 rw [hl]; exact hk
theorem c_drawnS (S : List (Nat × List AV)) {ord : List (List Nat)} {al tl : List AOper} (hok : okq al = true) (hst : statS (clo ord) al = true) (hS : inS S h = S.map fun p => some (some p.2)) (hv : Sp P S h.globs true al 0 env h fun F h' => vd P tl F h' fun env' h' => Q .normal env' h') : C P N (.drawn ord al tl) Q env h := by
 have hv' : vs P (InS S h.globs) true al env h fun F h' => vd P tl F h' fun env' h' => Q .normal env' h' := hv
 obtain ⟨F, h', az, hs, fl, hn, hk⟩ := noise_S hok hst (fun h2 ⟨ext, he⟩ _ hgl => ⟨fun b c hbc => by
  have := (InS_of hS rfl : InS S h.globs h).1 b c hbc
  rw [he, List.getElem?_append_left (List.getElem?_eq_some_iff.1 this).1]; exact this, hgl⟩) hv'
 exact ⟨asem_drawnC hn (vd_vops hk)⟩
theorem all_n {g : FuncId} {f : AOpd} {args : List AOpd} {l l' : List AV} {r : AV} (hf : f.ev env = some (.clo (.func g) [] [])) (ha : evs env args = some l) (hl : l.map nz = l') (hgl : plainG gl = true) (hp : plainL l' = true) (hc : PureN P gl g l' r) : ∀ h2, InS S gl h2 -> Does P (.call f args) env h2 r h2 := fun h2 hi => by
 rw [← hi.2] at hgl hc
 exact q_calln hf ha hl hgl hp hc
end
mutual
def low (m : List Bool) (n : Nat) : AV -> Bool
 | .v _ => true
 | .ptr k _ => m.getD k false
 | .elt cells _ => lowL m n cells
 | .nil => true
 | .sl els tok => (match tok with | .own id => decide (id < n) | _ => true) && lowLL m n els
 | .agg cells => lowL m n cells
 | .tuple vs => lowL m n vs
 | .iface _ x => low m n x
 | .clo _ first captured => lowL m n first && lowL m n captured
 | .glob _ => true
 | .row k _ _ _ _ => m.getD k false
 | .it _ _ => true
def lowL (m : List Bool) (n : Nat) : List AV -> Bool
 | [] => true
 | a :: r => low m n a && lowL m n r
def lowLL (m : List Bool) (n : Nat) : List (List AV) -> Bool
 | [] => true
 | a :: r => lowL m n a && lowLL m n r
end
mutual
theorem low_plain (m : List Bool) (n : Nat) : ∀ a, plain a = true -> low m n a = true
 | .v _, _ => rfl
 | .ptr _ _, h => by cases h
 | .elt cells _, h => by simp only [plain, low] at h ⊢; exact lowL_plain m n cells h
 | .nil, _ => rfl
 | .sl els tok, h => by
  simp only [plain, low, Bool.and_eq_true] at h ⊢
  refine ⟨?_, lowLL_plain m n els h.2⟩
  cases tok <;> first | rfl | (simp at h)
 | .agg cells, h => by simp only [plain, low] at h ⊢; exact lowL_plain m n cells h
 | .tuple cells, h => by simp only [plain, low] at h ⊢; exact lowL_plain m n cells h
 | .iface _ x, h => by simp only [plain, low] at h ⊢; exact low_plain m n x h
 | .clo _ a b, h => by simp only [plain, low, Bool.and_eq_true] at h ⊢; exact ⟨lowL_plain m n a h.1, lowL_plain m n b h.2⟩
 | .glob _, _ => rfl
 | .row _ _ _ _ _, h => by cases h
 | .it _ _, h => by cases h
theorem lowL_plain (m : List Bool) (n : Nat) : ∀ l, plainL l = true -> lowL m n l = true
 | [], _ => rfl
 | a :: r, h => by simp only [plainL, lowL, Bool.and_eq_true] at h ⊢; exact ⟨low_plain m n a h.1, lowL_plain m n r h.2⟩
theorem lowLL_plain (m : List Bool) (n : Nat) : ∀ l, plainLL l = true -> lowLL m n l = true
 | [], _ => rfl
 | a :: r, h => by simp only [plainLL, lowLL, Bool.and_eq_true] at h ⊢; exact ⟨lowL_plain m n a h.1, lowLL_plain m n r h.2⟩
end
theorem lowL_get {m : List Bool} {n : Nat} : ∀ {l : List AV}, lowL m n l = true -> ∀ (i : Nat) (av : AV), l[i]? = some av -> low m n av = true
 | [], _, i, av, h => by simp at h
 | a :: r, hp, i, av, h => by
  simp only [lowL, Bool.and_eq_true] at hp
  cases i with
  | zero => simp at h; subst h; exact hp.1
  | succ i => exact lowL_get hp.2 i av (by simpa using h)
theorem lowLL_get {m : List Bool} {n : Nat} : ∀ {l : List (List AV)}, lowLL m n l = true -> ∀ (i : Nat) (el : List AV), l[i]? = some el -> lowL m n el = true
 | [], _, i, av, h => by simp at h
 | a :: r, hp, i, av, h => by
  simp only [lowLL, Bool.and_eq_true] at hp
  cases i with
  | zero => simp at h; subst h; exact hp.1
  | succ i => exact lowLL_get hp.2 i av (by simpa using h)
def Sg.cut (σ : Sg) (m : List Bool) (n : Nat) : Sg := { σ with blk := fun k => if m.getD k false = true then σ.blk k else none, buf := fun id => if id < n then σ.buf id else none }
theorem cut_own {σ : Sg} {m : List Bool} {n b o : Nat} (h : (σ.cut m n).own b o) : σ.own b o := by
 rcases h with ⟨k, hk⟩ | ⟨id, e, he, hs⟩
 ·simp only [Sg.cut] at hk; split at hk
  ·exact .inl ⟨k, hk⟩
  ·cases hk
 ·simp only [Sg.cut] at he; split at he
  ·exact .inr ⟨id, e, he, hs⟩
  ·cases he
theorem cut_open {σ : Sg} {m : List Bool} {n b o : Nat} (h : (σ.cut m n).open_ b o) : σ.open_ b o := h.elim .inl fun h => .inr (cut_own h)
theorem Rel.cut {σ : Sg} {m : List Bool} {n : Nat} {av : AV} {x : Value} (hr : Rel σ av x) : low m n av = true -> Rel (σ.cut m n) av x := by
 induction hr with
 | v x h => intro _; exact .v x h
 | ptr k off b h => intro hl; exact .ptr k off b (by simp only [Sg.cut]; rw [if_pos (by simpa [low] using hl)]; exact h)
 | elt cells off b o xs hc hr ih =>
  intro hl
  exact .elt cells off b o xs (fun i av hi => ⟨(hc i av hi).1, fun h => (hc i av hi).2.1 (cut_open h), (hc i av hi).2.2⟩) fun i av hi => ih i av hi (lowL_get (by simpa [low] using hl) i av hi)
 | nil => intro _; exact .nil
 | glob k => intro _; exact .glob k
 | row k off size len capm b cap h hc hm hx => intro hl; exact .row k off size len capm b cap (by simp only [Sg.cut]; rw [if_pos (by simpa [low] using hl)]; exact h) hc hm hx
 | sl0 tok ht =>
  intro hl
  refine .sl0 tok ?_
  cases tok with
  | own id =>
   obtain ⟨e, h1, h2⟩ := ht
   refine ⟨e, ?_, h2⟩
   simp only [low, Bool.and_eq_true, decide_eq_true_eq] at hl
   simp only [Sg.cut]; rw [if_pos hl.1]; exact h1
  | _ => exact ht
 | slx tok a cap ht hc =>
  intro hl
  refine .slx tok a cap ?_ hc
  cases tok with
  | own id =>
   obtain ⟨e, h1, h2⟩ := ht
   refine ⟨e, ?_, h2⟩
   simp only [low, Bool.and_eq_true, decide_eq_true_eq] at hl
   simp only [Sg.cut]; rw [if_pos hl.1]; exact h1
  | _ => exact ht
 | sl els tok b o cap size xs hs hcap ht hz hc hr ih =>
  intro hl
  simp only [low, Bool.and_eq_true] at hl
  refine .sl els tok b o cap size xs hs hcap ?_ (fun id e h1 h2 => ?_) (fun i el hi j av hj => ⟨(hc i el hi j av hj).1, fun h => (hc i el hi j av hj).2.1 (cut_open h), (hc i el hi j av hj).2.2⟩) fun i el hi j av hj => ih i el hi j av hj (lowL_get (lowLL_get hl.2 i el hi) j av hj)
  ·cases tok with
   | own id =>
    obtain ⟨e, h1, h2⟩ := ht
    refine ⟨e, ?_, h2⟩
    simp only [Sg.cut]; rw [if_pos (by simpa using hl.1)]; exact h1
   | _ => exact ht
  ·simp only [Sg.cut] at h2; split at h2
   ·exact hz id e h1 h2
   ·cases h2
 | agg cells xs hn hc x hx hr ih => intro hl; exact .agg cells xs hn hc x hx fun i av hi => ih i av hi (lowL_get (by simpa [low] using hl) i av hi)
 | tuple vs xs hn x hx hr ih => intro hl; exact .tuple vs xs hn x hx fun i av hi => ih i av hi (lowL_get (by simpa [low] using hl) i av hi)
 | iface t av x h ih => intro hl; exact .iface t av x (ih (by simpa [low] using hl))
 | clo fn first captured fs cs hn hm x y hx hy hr hq ih1 ih2 =>
  intro hl
  simp only [low, Bool.and_eq_true] at hl
  exact .clo fn first captured fs cs hn hm x y hx hy (fun i av hi => ih1 i av hi (lowL_get hl.1 i av hi)) fun i av hi => ih2 i av hi (lowL_get hl.2 i av hi)
theorem Cells.cut {σ : Sg} {m : List Bool} {n : Nat} {cells : List AV} {vs : List Value} (hc : Cells σ cells vs) (hl : lowL m n cells = true) : Cells (σ.cut m n) cells vs := by
 refine ⟨hc.1, fun i av hi => ?_⟩
 obtain ⟨h1, x, h2, h3⟩ := hc.2 i av hi
 exact ⟨h1, x, h2, h3.cut (lowL_get hl i av hi)⟩
def lowE (m : List Bool) (n : Nat) : Env -> Bool
 | [] => true
 | (_, a) :: e => low m n a && lowE m n e
def lowB (m : List Bool) (n : Nat) : List (Option (List AV)) -> Bool
 | [] => true
 | some c :: r => lowL m n c && lowB m n r
 | none :: r => lowB m n r
theorem lowE_get {m : List Bool} {n : Nat} : ∀ {e : Env} {t : Nat} {a : AV}, lowE m n e = true -> get e t = some a -> low m n a = true
 | [], _, _, _, h => by cases h
 | (u, b) :: e, t, a, hl, h => by
  simp only [lowE, Bool.and_eq_true] at hl
  simp only [get] at h
  split at h
  ·cases h; exact hl.1
  ·exact lowE_get hl.2 h
theorem lowB_get {m : List Bool} {n : Nat} : ∀ {l : List (Option (List AV))} {i : Nat} {c : List AV}, lowB m n l = true -> l[i]? = some (some c) -> lowL m n c = true
 | [], _, _, _, h => by simp at h
 | o :: r, i, c, hl, h => by
  cases i with
  | zero => simp at h; subst h; simp only [lowB, Bool.and_eq_true] at hl; exact hl.1
  | succ i =>
   refine lowB_get (l := r) (i := i) ?_ (by simpa using h)
   cases o with
   | none => exact hl
   | some c' => simp only [lowB, Bool.and_eq_true] at hl; exact hl.2
def keepB : List Bool -> List (Option (List AV)) -> List (Option (List AV))
 | b :: m, x :: l => (if b = true then x else none) :: keepB m l
 | _, _ => []
theorem keepB_get : ∀ {m : List Bool} {l : List (Option (List AV))} {k : Nat} {c : List AV}, (keepB m l)[k]? = some (some c) -> m.getD k false = true /\ l[k]? = some (some c)
 | [], l, k, c, h => by simp [keepB] at h
 | b :: m, [], k, c, h => by simp [keepB] at h
 | b :: m, x :: l, k, c, h => by
  cases k with
  | zero =>
   simp only [keepB, List.getElem?_cons_zero, Option.some.injEq] at h
   split at h
   ·rename_i hb; subst h; exact ⟨hb, rfl⟩
   ·cases h
  | succ k => exact keepB_get (m := m) (l := l) (k := k) (by simpa [keepB] using h)
theorem keepB_of : ∀ {m : List Bool} {l : List (Option (List AV))} {k : Nat} {c : List AV}, m.getD k false = true -> l[k]? = some (some c) -> (keepB m l)[k]? = some (some c)
 | [], l, k, c, h, _ => by simp at h
 | b :: m, [], k, c, _, h => by simp at h
 | b :: m, x :: l, k, c, h1, h2 => by
  cases k with
  | zero =>
   have h1' : b = true := h1
   simp only [List.getElem?_cons_zero, Option.some.injEq] at h2
   simp [keepB, h1', h2]
  | succ k => simpa [keepB] using keepB_of (m := m) (l := l) (k := k) (by simpa using h1) (by simpa using h2)
theorem Inv.cut {σ : Sg} {h : AHeap} (hi : Inv h σ) (m : List Bool) (n : Nat) (hb : lowB m n (keepB m h.blks) = true) (hg : plainG h.globs = true) : Inv ⟨keepB m h.blks, h.bufs.take n, h.globs⟩ (σ.cut m n) := by
 have hblk : ∀ {k b : Nat}, (σ.cut m n).blk k = some b -> m.getD k false = true /\ σ.blk k = some b := by
  intro k b hk
  simp only [Sg.cut] at hk
  split at hk
  ·rename_i h1; exact ⟨h1, hk⟩
  ·cases hk
 have hbuf : ∀ {k : Nat} {e : Buf}, (σ.cut m n).buf k = some e -> k < n /\ σ.buf k = some e := by
  intro k b hk
  simp only [Sg.cut] at hk
  split at hk
  ·rename_i h1; exact ⟨h1, hk⟩
  ·cases hk
 refine ⟨fun k cells hk => ?_, fun k b hk => ?_, fun k l b c c' hk hl hc hc' h1 h2 => ?_, fun id c hc => ?_, fun id e he => ?_, fun id e he => hi.bufle id e (hbuf he).2, fun id e b o he hs => hi.bufat id e b o (hbuf he).2 hs, fun i j e f b o he hf h1 h2 => hi.bufinj i j e f b o (hbuf he).2 (hbuf hf).2 h1 h2, fun id e k b o he hs hk => hi.bufblk id e k b o (hbuf he).2 hs (hblk hk).2, fun b o ho => ⟨(hi.outer b o ho).1, fun h => (hi.outer b o ho).2 (cut_own h)⟩, fun g cells hgl => ?_⟩
 ·obtain ⟨h1, h2⟩ := keepB_get hk
  obtain ⟨b, h3, h4⟩ := hi.blk k cells h2
  refine ⟨b, by simp only [Sg.cut]; rw [if_pos h1]; exact h3, ?_⟩
  have hlow := lowB_get hb hk
  cases h4 with
  | cells _ cs rest elem h5 h6 => exact .cells cells cs rest elem h5 (h6.cut hlow)
  | it s p h5 => exact .it s p h5
 ·obtain ⟨h1, h2⟩ := hblk hk
  obtain ⟨c, h3⟩ := hi.dom k b h2
  exact ⟨c, keepB_of h1 h3⟩
 ·exact hi.inj k l b c c' (keepB_get hk).2 (keepB_get hl).2 hc hc' (hblk h1).2 (hblk h2).2
 ·rw [List.getElem?_take] at hc
  split at hc
  ·rename_i h1
   obtain ⟨e, h2, h3⟩ := hi.buf id c hc
   exact ⟨e, by simp only [Sg.cut]; rw [if_pos h1]; exact h2, h3⟩
  ·cases hc
 ·obtain ⟨h1, h2⟩ := hbuf he
  rw [List.getElem?_take, if_pos h1]
  exact hi.bufdom id e h2
 ·exact (hi.glob g cells hgl).cut (by simp only [low]; exact lowL_plain m n cells (List.all_eq_true.1 hg _ hgl))
def Low (σ : Sg) (kb kf : Nat) : Prop := (∀ k b, σ.blk k = some b -> k < kb) /\ ∀ id e, σ.buf id = some e -> id < kf
theorem Le.cut {σ0 σ : Sg} {kb kf n : Nat} {m : List Bool} (hle : Le σ0 σ) (hl : Low σ0 kb kf) (hm : ∀ k, k < kb -> m.getD k false = true) (hn : kf <= n) : Le σ0 (σ.cut m n) where
 blk k b hk := by
  simp only [Sg.cut]; rw [if_pos (hm k (hl.1 k b hk))]; exact hle.blk k b hk
 buf id e he := by
  obtain ⟨e', h1, h2⟩ := hle.buf id e he
  exact ⟨e', by simp only [Sg.cut]; rw [if_pos (by have := hl.2 id e he; omega)]; exact h1, h2⟩
 outer := hle.outer
 cell := hle.cell
 ext := hle.ext
 whole := hle.whole
 own b o hb ho := hle.own b o hb (cut_own ho)
 size := hle.size
 os := hle.os
 tape := hle.tape
 output := hle.output
structure D (P : Program) (N kb kf : Nat) (x : ACode) (Q : Exit -> Env -> AHeap -> Prop) (env : Env) (h : AHeap) : Prop where
 out : ∀ c, compCode P N c = some x -> ∀ (σ0 σ : Sg) (a : Act), St σ h env N a -> Le σ0 σ -> Low σ0 kb kf -> c.wp P (Lifted σ0 N Q) a σ.w
structure DL (P : Program) (N kb kf : Nat) (x : ACode) (Q : Exit -> Env -> AHeap -> Prop) (env : Env) (h : AHeap) : Prop where
 out : ∀ c, compCode P N c = some x -> ∀ (σ0 σ : Sg) (a : Act), St σ h env N a -> Le σ0 σ -> Low σ0 kb kf -> LoopW P c (Lifted σ0 N Q) a σ.w
def LabW (P : Program) (c rest : Code) (Q : Exit -> Act -> World -> Prop) (a : Act) (w : World) : Prop := ∀ b k cs, ∃ e a' w', Q e a' w' /\ Arrives P (lone (b.at a (.code rest :: .inScope c :: k)) cs w) b k cs e a' w'
structure DG (P : Program) (N kb kf : Nat) (x : ACode) (l : Nat) (Q : Exit -> Env -> AHeap -> Prop) (env : Env) (h : AHeap) : Prop where
 out : ∀ c rest, compCode P N c = some x -> findLabel c l = some rest -> ∀ (σ0 σ : Sg) (a : Act), St σ h env N a -> Le σ0 σ -> Low σ0 kb kf -> LabW P c rest (Lifted σ0 N Q) a σ.w
section
variable {P : Program} {h h' : AHeap} {env env' : Env} {N kb kf : Nat} {Q : Exit -> Env -> AHeap -> Prop} {x y : ACode}
theorem d_of_c (hx : C P N x Q env h) : D P N kb kf x Q env h := ⟨fun c hc σ0 σ a hs hle hl => Code.wp_mono (fun e a' w hh => hh.up hle) (hx.out c hc σ a hs)⟩
theorem Inv.low {σ : Sg} (hi : Inv h σ) (h1 : h.blks.length <= kb) (h2 : h.bufs.length <= kf) : Low σ kb kf := by
 refine ⟨fun k b hk => ?_, fun id e he => ?_⟩
 ·have := hi.name hk; omega
 ·have := (List.getElem?_eq_some_iff.1 (hi.bufdom id e he)).1; omega
theorem asem_of_d (h1 : h.blks.length <= kb) (h2 : h.bufs.length <= kf) (hx : D P N kb kf x Q env h) : asem P N x Q env h := fun c hc σ a hs => hx.out c hc σ σ a hs (Le.refl σ) (hs.inv.low h1 h2)
theorem f_pureD {gl : List (Nat × List AV)} {f : FuncId} {ac : ACode} {rs : List ARes} (hf : getFn P f = some (N, ac, rs)) {args : List AV} {r : AV} {e₀ : Env} (hn : args.length <= N) (he : envOf 0 args = e₀)
  (hbody : D P N 0 0 ac (qret rs r) e₀ ⟨[], [], gl⟩) : PureN P gl f args r := f_pureN hf hn he ⟨asem_of_d (Nat.le_refl _) (Nat.le_refl _) hbody⟩
theorem d_region {ops : List AOper} (hv : V P ops env h fun env' h' => Q .normal env' h') : D P N kb kf (.region ops) Q env h := d_of_c (c_region hv)
theorem d_drawnS (S : List (Nat × List AV)) {ord : List (List Nat)} {al tl : List AOper} (hok : okq al = true) (hst : statS (clo ord) al = true) (hS : inS S h = S.map fun p => some (some p.2)) (hv : Sp P S h.globs true al 0 env h fun F h' => vd P tl F h' fun env' h' => Q .normal env' h') : D P N kb kf (.drawn ord al tl) Q env h := d_of_c (c_drawnS S hok hst hS hv)
theorem d_skip (hq : Q .normal env h) : D P N kb kf .skip Q env h := d_of_c (c_skip hq)
theorem d_exit {id : Nat} (hq : Q (.exit id) env h) : D P N kb kf (.exit id) Q env h := d_of_c (c_exit hq)
theorem d_ret (hq : Q .ret env h) : D P N kb kf .ret Q env h := d_of_c (c_ret hq)
theorem d_ghost (hg : ∀ (σ : Sg) (a : Act), St σ h env N a -> ∃ σ' h' env', σ'.w = σ.w /\ Le σ σ' /\ St σ' h' env' N a /\ D P N kb kf x Q env' h') : D P N kb kf x Q env h := ⟨by
 intro c hc σ0 σ a hs hle hl
 obtain ⟨σ', h', env', hw, l1, s1, hx⟩ := hg σ a hs
 rw [← hw]
 exact hx.out c hc σ0 σ' a s1 (hle.trans l1) hl⟩
theorem dl_ghost (hg : ∀ (σ : Sg) (a : Act), St σ h env N a -> ∃ σ' h' env', σ'.w = σ.w /\ Le σ σ' /\ St σ' h' env' N a /\ DL P N kb kf x Q env' h') : DL P N kb kf x Q env h := ⟨by
 intro c hc σ0 σ a hs hle hl
 obtain ⟨σ', h', env', hw, l1, s1, hx⟩ := hg σ a hs
 rw [← hw]
 exact hx.out c hc σ0 σ' a s1 (hle.trans l1) hl⟩
theorem dg_ghost {l : Nat} (hg : ∀ (σ : Sg) (a : Act), St σ h env N a -> ∃ σ' h' env', σ'.w = σ.w /\ Le σ σ' /\ St σ' h' env' N a /\ DG P N kb kf x l Q env' h') : DG P N kb kf x l Q env h := ⟨by
 intro c rest hc hr σ0 σ a hs hle hl
 obtain ⟨σ', h', env', hw, l1, s1, hx⟩ := hg σ a hs
 rw [← hw]
 exact hx.out c rest hc hr σ0 σ' a s1 (hle.trans l1) hl⟩
theorem trim_st (e : Env) (he : e.map (fun p => get env p.1) = e.map fun p => some p.2) {σ : Sg} {a : Act} (hs : St σ h env N a) : St σ h e N a := ⟨hs.inv, fun t av hg => hs.env t av ((envLe_of' e he).get t av hg), hs.size, hs.defers⟩
theorem d_trim (e : Env) (he : e.map (fun p => get env p.1) = e.map fun p => some p.2) (hx : D P N kb kf x Q e h) : D P N kb kf x Q env h := d_ghost fun σ a hs => ⟨σ, h, e, rfl, Le.refl σ, trim_st e he hs, hx⟩
theorem dl_trim (e : Env) (he : e.map (fun p => get env p.1) = e.map fun p => some p.2) (hx : DL P N kb kf x Q e h) : DL P N kb kf x Q env h := dl_ghost fun σ a hs => ⟨σ, h, e, rfl, Le.refl σ, trim_st e he hs, hx⟩
theorem dg_trim {l : Nat} (e : Env) (he : e.map (fun p => get env p.1) = e.map fun p => some p.2) (hx : DG P N kb kf x l Q e h) : DG P N kb kf x l Q env h := dg_ghost fun σ a hs => ⟨σ, h, e, rfl, Le.refl σ, trim_st e he hs, hx⟩
theorem nz_st {t : Nat} {av : AV} (hg : get env t = some av) {σ : Sg} {a : Act} (hs : St σ h env N a) : St σ h ((t, nz av) :: env) N a := ⟨hs.inv, fun u b hu => by
 simp only [get] at hu
 split at hu
 ·rename_i htu
  subst htu
  cases hu
  obtain ⟨y, h1, h2⟩ := hs.env t _ hg
  exact ⟨y, h1, h2.nz⟩
 ·exact hs.env u b hu, hs.size, hs.defers⟩
theorem dl_nz {t : Nat} {av b : AV} (hg : get env t = some av) (hb : nz av = b) (hx : DL P N kb kf x Q ((t, b) :: env) h) : DL P N kb kf x Q env h := dl_ghost fun σ a hs => ⟨σ, h, _, rfl, Le.refl σ, nz_st hg hs, by rw [hb]; exact hx⟩
theorem own_st {t : Nat} (size : Nat) (hg : get env t = some .nil) {σ : Sg} {a : Act} (hs : St σ h env N a) : ∃ σ', σ'.w = σ.w /\ Le σ σ' /\ St σ' ⟨h.blks, h.bufs ++ [(0, size)], h.globs⟩ ((t, .sl [] (.own h.bufs.length)) :: env) N a := by
 obtain ⟨σ1, w1, l1, i1, b1⟩ := register hs.inv ⟨0, size, none, 0⟩ rfl (fun _ => rfl)
 refine ⟨σ1, w1, l1, i1, ?_, hs.size, hs.defers⟩
 intro u av hu
 simp only [get] at hu
 split at hu
 ·rename_i htu
  subst htu
  cases hu
  obtain ⟨y, h1, h2⟩ := hs.env t _ hg
  cases h2
  exact ⟨_, h1, .sl0 _ ⟨_, b1, Nat.le_refl _, fun _ => ⟨rfl, rfl⟩⟩⟩
 ·exact (hs.env.mono l1) u av hu
theorem dl_own {t : Nat} (size : Nat) (hg : get env t = some .nil) (hx : DL P N kb kf x Q ((t, .sl [] (.own h.bufs.length)) :: env) ⟨h.blks, h.bufs ++ [(0, size)], h.globs⟩) : DL P N kb kf x Q env h := dl_ghost fun σ a hs => by
 obtain ⟨σ', h1, h2, h3⟩ := own_st size hg hs
 exact ⟨σ', _, _, h1, h2, h3, hx⟩
theorem drop_st (m : List Bool) (n : Nat) {σ0 σ : Sg} {a : Act} (hs : St σ h env N a) (hle : Le σ0 σ) (hl : Low σ0 kb kf) (hm : ∀ k, k < kb -> m.getD k false = true) (hn : kf <= n) (he : lowE m n env = true) (hb : lowB m n (keepB m h.blks) = true) (hg : plainG h.globs = true) :
  St (σ.cut m n) ⟨keepB m h.blks, h.bufs.take n, h.globs⟩ env N a /\ Le σ0 (σ.cut m n) :=
 ⟨⟨hs.inv.cut m n hb hg, fun t av ht => by obtain ⟨y, h1, h2⟩ := hs.env t av ht; exact ⟨y, h1, h2.cut (lowE_get he ht)⟩, hs.size, hs.defers⟩, hle.cut hl hm hn⟩
theorem dl_drop (m : List Bool) (n : Nat) (hm : ∀ k, k < kb -> m.getD k false = true) (hn : kf <= n) (he : lowE m n env = true) (hb : lowB m n (keepB m h.blks) = true) (hg : plainG h.globs = true) (hx : DL P N kb kf x Q env ⟨keepB m h.blks, h.bufs.take n, h.globs⟩) : DL P N kb kf x Q env h := ⟨by
 intro c hc σ0 σ a hs hle hl
 obtain ⟨h1, h2⟩ := drop_st m n hs hle hl hm hn he hb hg
 exact hx.out c hc σ0 (σ.cut m n) a h1 h2 hl⟩
theorem dg_drop {l : Nat} (m : List Bool) (n : Nat) (hm : ∀ k, k < kb -> m.getD k false = true) (hn : kf <= n) (he : lowE m n env = true) (hb : lowB m n (keepB m h.blks) = true) (hg : plainG h.globs = true) (hx : DG P N kb kf x l Q env ⟨keepB m h.blks, h.bufs.take n, h.globs⟩) : DG P N kb kf x l Q env h := ⟨by
 intro c rest hc hr σ0 σ a hs hle hl
 obtain ⟨h1, h2⟩ := drop_st m n hs hle hl hm hn he hb hg
 exact hx.out c rest hc hr σ0 (σ.cut m n) a h1 h2 hl⟩
theorem seq_inv {c : Code} (hc : compCode P N c = some (.seq x y)) : ∃ cx cy, c = .seq cx cy /\ compCode P N cx = some x /\ compCode P N cy = some y := by
 cases c <;> (try simp only [compCode, Option.bind_eq_some_iff, Option.map_eq_some_iff] at hc)
 case seq cx cy => obtain ⟨x', hx', y', hy', he⟩ := hc; cases he; exact ⟨cx, cy, rfl, hx', hy'⟩
 case region id ops d =>
  cases d <;> simp only [compCode, Option.bind_eq_some_iff, Option.map_eq_some_iff] at hc
  ·obtain ⟨_, _, hx⟩ := hc; cases hx
  ·obtain ⟨_, _, _, _, hx⟩ := hc; split at hx <;> cases hx
 all_goals first
  | (cases hc; done)
  | (obtain ⟨_, _, hx⟩ := hc; cases hx; done)
  | (obtain ⟨_, _, _, _, hx⟩ := hc; cases hx; done)
  | (obtain ⟨_, _, _, _, _, _, hx⟩ := hc; cases hx; done)
theorem block_inv {c : Code} {id : Nat} (hc : compCode P N c = some (.block id x)) : ∃ cx, c = .block id cx /\ compCode P N cx = some x := by
 cases c <;> (try simp only [compCode, Option.bind_eq_some_iff, Option.map_eq_some_iff] at hc)
 case block i cx => obtain ⟨x', hx', he⟩ := hc; cases he; exact ⟨cx, rfl, hx'⟩
 case region id ops d =>
  cases d <;> simp only [compCode, Option.bind_eq_some_iff, Option.map_eq_some_iff] at hc
  ·obtain ⟨_, _, hx⟩ := hc; cases hx
  ·obtain ⟨_, _, _, _, hx⟩ := hc; split at hx <;> cases hx
 all_goals first
  | (cases hc; done)
  | (obtain ⟨_, _, hx⟩ := hc; cases hx; done)
  | (obtain ⟨_, _, _, _, hx⟩ := hc; cases hx; done)
  | (obtain ⟨_, _, _, _, _, _, hx⟩ := hc; cases hx; done)
theorem loop_inv {c : Code} (hc : compCode P N c = some (.loop x)) : ∃ cx, c = .loop cx /\ compCode P N cx = some x := by
 cases c <;> (try simp only [compCode, Option.bind_eq_some_iff, Option.map_eq_some_iff] at hc)
 case loop cx => obtain ⟨x', hx', he⟩ := hc; cases he; exact ⟨cx, rfl, hx'⟩
 case region id ops d =>
  cases d <;> simp only [compCode, Option.bind_eq_some_iff, Option.map_eq_some_iff] at hc
  ·obtain ⟨_, _, hx⟩ := hc; cases hx
  ·obtain ⟨_, _, _, _, hx⟩ := hc; split at hx <;> cases hx
 all_goals first
  | (cases hc; done)
  | (obtain ⟨_, _, hx⟩ := hc; cases hx; done)
  | (obtain ⟨_, _, _, _, hx⟩ := hc; cases hx; done)
  | (obtain ⟨_, _, _, _, _, _, hx⟩ := hc; cases hx; done)
theorem d_seqQ (hx : D P N kb kf x (thenA (fun e h => D P N kb kf y Q e h) Q) env h) : D P N kb kf (.seq x y) Q env h := ⟨by
 intro c hc σ0 σ a hs hle hl
 obtain ⟨cx, cy, rfl, hcx, hcy⟩ := seq_inv hc
 refine wp_seq (Code.wp_mono (fun e a' w' hh => ?_) (hx.out cx hcx σ0 σ a hs hle hl))
 obtain ⟨h1, σ2, h2, env2, rfl, q2, q3, q4⟩ := hh
 cases e with
 | normal => exact q4.out cy hcy σ0 σ2 a' q3 q2 hl
 | panic _ => exact h1.elim
 | outgrown => exact h1.elim
 | exit _ => exact ⟨trivial, σ2, h2, env2, rfl, q2, q3, q4⟩
 | goto _ => exact ⟨trivial, σ2, h2, env2, rfl, q2, q3, q4⟩
 | ret => exact ⟨trivial, σ2, h2, env2, rfl, q2, q3, q4⟩⟩
theorem d_blockQ {id : Nat} (hx : D P N kb kf x (inBlockA id Q) env h) : D P N kb kf (.block id x) Q env h := ⟨by
 intro c hc σ0 σ a hs hle hl
 obtain ⟨cx, rfl, hcx⟩ := block_inv hc
 refine wp_block (Code.wp_mono (fun e a' w' hh => ?_) (hx.out cx hcx σ0 σ a hs hle hl))
 obtain ⟨h1, σ2, h2, env2, rfl, q2, q3, q4⟩ := hh
 cases e with
 | panic _ => exact h1.elim
 | outgrown => exact h1.elim
 | normal => exact ⟨trivial, σ2, h2, env2, rfl, q2, q3, q4⟩
 | goto _ => exact ⟨trivial, σ2, h2, env2, rfl, q2, q3, q4⟩
 | ret => exact ⟨trivial, σ2, h2, env2, rfl, q2, q3, q4⟩
 | exit i =>
  simp only [inBlockA] at q4
  simp only [Exit.inBlock]
  split
  ·rename_i hi; rw [if_pos hi] at q4; exact ⟨trivial, σ2, h2, env2, rfl, q2, q3, q4⟩
  ·rename_i hi; rw [if_neg hi] at q4; exact ⟨trivial, σ2, h2, env2, rfl, q2, q3, q4⟩⟩
theorem d_loopQ (hx : DL P N kb kf x Q env h) : D P N kb kf (.loop x) Q env h := ⟨by
 intro c hc σ0 σ a hs hle hl
 obtain ⟨cx, rfl, hcx⟩ := loop_inv hc
 exact loopW_wp (hx.out cx hcx σ0 σ a hs hle hl)⟩
theorem dl_unroll (hx : D P N kb kf x (thenA (fun e h => DL P N kb kf x Q e h) Q) env h) : DL P N kb kf x Q env h := ⟨by
 intro c hc σ0 σ a hs hle hl
 refine loopW_unroll (Code.wp_mono (fun e a' w' hh => ?_) (hx.out c hc σ0 σ a hs hle hl))
 obtain ⟨h1, σ2, h2, env2, q1, q2, q3, q4⟩ := hh
 cases e with
 | panic _ => exact h1.elim
 | outgrown => exact h1.elim
 | normal => subst q1; exact q4.out c hc σ0 σ2 a' q3 q2 hl
 | goto _ => exact ⟨trivial, σ2, h2, env2, q1, q2, q3, q4⟩
 | ret => exact ⟨trivial, σ2, h2, env2, q1, q2, q3, q4⟩
 | exit i => exact ⟨trivial, σ2, h2, env2, q1, q2, q3, q4⟩⟩
theorem d_cond {c : AOpd} {b : Bool} (hc : c.ev env = some (.v (.bool b))) (h1 : b = true -> D P N kb kf x Q env h) (h2 : b = false -> D P N kb kf y Q env h) : D P N kb kf (.cond c x y) Q env h := ⟨by
 intro cc hcc σ0 σ a hs hle hl
 cases cc <;> (try simp only [compCode, Option.bind_eq_some_iff, Option.map_eq_some_iff] at hcc)
 case cond co cx cy =>
  obtain ⟨c', hc', x', hx', y', hy', he⟩ := hcc
  cases he
  obtain ⟨av, hr, hk⟩ := opd (K := fun v => v = .v (.bool b)) hs.env hc' (by rw [hc]; rfl)
  subst hk
  generalize hce : a.eval co = ce at hr
  cases hr with
  | v _ _ =>
  cases b with
  | true => exact wp_cond_true hce ((h1 rfl).out cx hx' σ0 σ a hs hle hl)
  | false => exact wp_cond_false hce ((h2 rfl).out cy hy' σ0 σ a hs hle hl)
 case region id ops d =>
  cases d <;> simp only [compCode, Option.bind_eq_some_iff, Option.map_eq_some_iff] at hcc
  ·obtain ⟨_, _, hx⟩ := hcc; cases hx
  ·obtain ⟨_, _, _, _, hx⟩ := hcc; split at hx <;> cases hx
 all_goals first
  | (cases hcc; done)
  | (obtain ⟨_, _, hx⟩ := hcc; cases hx; done)
  | (obtain ⟨_, _, _, _, hx⟩ := hcc; cases hx; done)
  | (obtain ⟨_, _, _, _, _, _, hx⟩ := hcc; cases hx; done)⟩
theorem d_cond_t {c : AOpd} {b : Bool} (hc : c.ev env = some (.v (.bool b))) (hb : b = true) (h1 : D P N kb kf x Q env h) : D P N kb kf (.cond c x y) Q env h := d_cond hc (fun _ => h1) (fun h => by rw [hb] at h; cases h)
theorem d_cond_f {c : AOpd} {b : Bool} (hc : c.ev env = some (.v (.bool b))) (hb : b = false) (h1 : D P N kb kf y Q env h) : D P N kb kf (.cond c x y) Q env h := d_cond hc (fun h => by rw [hb] at h; cases h) (fun _ => h1)
end
theorem does_F {P : Program} {o : AOp} {env : Env} {h h' : AHeap} {av : AV} (he : aopF false noC o env h = some (av, h')) : Does P o env h av h' := fun K hk => aopF_ok noC_ok he hk
def alive : List Bool -> List (Option (List AV)) -> Bool
 | b :: m, x :: l => (match b, x with | true, some [] => false | _, _ => true) && alive m l
 | _, _ => true
theorem alive_get : ∀ {m : List Bool} {l : List (Option (List AV))} {k : Nat} {c : List AV}, alive m l = true -> m.getD k false = true -> l[k]? = some (some c) -> c ≠ []
 | [], _, _, _, _, h, _ => by simp at h
 | b :: m, [], _, _, _, _, h => by simp at h
 | b :: m, x :: l, 0, c, h, h1, h2 => by
  have h1' : b = true := h1
  simp only [List.getElem?_cons_zero, Option.some.injEq] at h2
  subst h1' h2
  rintro rfl
  simp [alive] at h
 | b :: m, x :: l, k + 1, c, h, h1, h2 => by
  simp only [alive, Bool.and_eq_true] at h
  exact alive_get h.2 (by simpa using h1) (by simpa using h2)
theorem nz1_nz1 (a : AV) : nz1 (nz1 a) = nz1 a := by cases a <;> rfl
theorem nzA_nzA (a : AV) : nzA (nzA a) = nzA a := by
 cases a with
 | agg cs => simp only [nzA, List.map_map]; congr 1; exact List.map_congr_left fun x _ => nz1_nz1 x
 | _ => rfl
theorem nz_nz (a : AV) : nz (nz a) = nz a := by
 cases a with
 | tuple vs => simp only [nz, List.map_map]; congr 1; exact List.map_congr_left fun x _ => nzA_nzA x
 | agg cs => exact nzA_nzA (.agg cs)
 | _ => rfl
def FCall (P : Program) (gl : List (Nat × List AV)) (f : AV) (args : List AV) (r : AV) : Prop := ∃ g a b, f = .clo (.func g) a b /\ plainL ((a ++ args ++ b).map nz) = true /\ PureN P gl g ((a ++ args ++ b).map nz) r
theorem q_fcall {P : Program} {h : AHeap} {env : Env} {f : AOpd} {args : List AOpd} {F : AV} {l l' : List AV} {r : AV} (hf : f.ev env = some F) (ha : evs env args = some l) (hl : l.map nz = l') (hgl : plainG h.globs = true) (hc : FCall P h.globs F l' r) : Does P (.call f args) env h r h := by
 obtain ⟨g, a, b, rfl, hp, hn⟩ := hc
 refine q_callv hf ha ?_ hgl hp hn
 subst hl
 simp only [List.map_append, List.map_map]
 congr 2
 exact List.map_congr_left fun x _ => (nz_nz x).symm
theorem all_f {P : Program} {S gl : List (Nat × List AV)} {env : Env} {f : AOpd} {args : List AOpd} {F : AV} {l l' : List AV} {r : AV} (hf : f.ev env = some F) (ha : evs env args = some l) (hl : l.map nz = l') (hgl : plainG gl = true) (hc : FCall P gl F l' r) : ∀ h2, InS S gl h2 -> Does P (.call f args) env h2 r h2 := fun h2 hi => by
 rw [← hi.2] at hgl hc
 exact q_fcall hf ha hl hgl hc
theorem pcons {a : AV} {r : List AV} (h1 : plain a = true) (h2 : plainL r = true) : plainL (a :: r) = true := by simp only [plainL, h1, h2]; rfl
theorem psl {els : List (List AV)} (h : plainLL els = true) : plain (.sl els .no) = true := by simp only [plain, h]; rfl
theorem less_st {h : AHeap} {e env : Env} {N : Nat} (he : Less e env) {σ : Sg} {a : Act} (hs : St σ h env N a) : St σ h e N a := ⟨hs.inv, fun t av hg => hs.env t av (he t av hg), hs.size, hs.defers⟩
theorem km_d {P : Program} {N kb kf : Nat} {x : ACode} {Q : Exit -> Env -> AHeap -> Prop} : KMono fun e h => D P N kb kf x Q e h := fun e env h he hx => d_ghost fun σ a hs => ⟨σ, h, e, rfl, Le.refl σ, less_st he hs, hx⟩
theorem km_dl {P : Program} {N kb kf : Nat} {x : ACode} {Q : Exit -> Env -> AHeap -> Prop} : KMono fun e h => DL P N kb kf x Q e h := fun e env h he hx => dl_ghost fun σ a hs => ⟨σ, h, e, rfl, Le.refl σ, less_st he hs, hx⟩
theorem outs_less {e env : Env} (he : Less e env) {h : AHeap} : ∀ {rs : List ARes} {K : List AV -> Prop}, outs e h rs K -> outs env h rs K
 | [], _, hk => hk
 | .tmp t :: r, K, hk => he.wv (x := .t t) hk fun a ha => outs_less he ha
 | .cell t n :: r, K, hk => by
  obtain ⟨p, h1, h2⟩ := wv_some hk
  show wv (get env t) _
  rw [he t p h1]
  simp only [wv, loaded] at h2 ⊢
  split at h2
  ·split at h2
   ·split at h2
    ·exact outs_less he h2
    ·exact h2.elim
   ·exact ⟨h2.1, outs_less he h2.2⟩
  ·exact h2.elim
theorem km_ret {rs : List ARes} {r : AV} : KMono fun e h => qret rs r .normal e h := fun e env h he hx => outs_less he hx
theorem vp_start' {P : Program} {L : List AOper} {env : Env} {h : AHeap} {K : Env -> AHeap -> Prop} (hk : Vp P L 0 env h K) : vd P L env h K := hk
abbrev T (n : Nat) : AOpd := .t n
abbrev ci (n : Int) : AOpd := .c (.v (.int .i64 n))
abbrev cb (b : Bool) : AOpd := .c (.v (.bool b))
abbrev cf (g : Nat) : AOpd := .c (.clo (.func g) [] [])
abbrev o (d : Nat) (x : AOp) : AOper := ⟨some d, x, none⟩
abbrev og (d : Nat) (x : AOp) (t : Nat) (b : Bool) : AOper := ⟨some d, x, some (t, b)⟩
abbrev on (x : AOp) : AOper := ⟨none, x, none⟩
abbrev mv (n : Nat) : AOp := .mv (.t n)
abbrev mi (n : Int) : AOp := .mv (.c (.v (.int .i64 n)))
abbrev mb (b : Bool) : AOp := .mv (.c (.v (.bool b)))
abbrev fa (n t : Nat) : AOp := .fieldAddr n (.t t)
abbrev ld (t : Nat) : AOp := .load none (.t t)
abbrev ln (n t : Nat) : AOp := .load (some n) (.t t)
abbrev st (n p x : Nat) : AOp := .store n (.t p) (.t x)
abbrev bx (t : Nat) : AOp := .box (.t t)
abbrev wI (n : Int) : Int := IntKind.i64.wrap n
abbrev wU (n : Int) : Int := IntKind.u64.wrap n
theorem get_drop_ne {t u : Nat} (hne : u ≠ t) : ∀ {e : Env} {a : AV}, get e t = some a -> get (drop u e) t = some a
 | [], _, h => by cases h
 | (k, b) :: e, a, h => by
  simp only [get] at h
  simp only [drop]
  split at h
  ·rename_i hk
   subst hk
   rw [if_neg (fun h => hne h.symm)]
   simp only [get, if_true]; exact h
  ·rename_i hk
   split
   ·exact get_drop_ne hne h
   ·simp only [get]; rw [if_neg hk]; exact get_drop_ne hne h
theorem get_dedup : ∀ {e : Env} {t : Nat} {a : AV}, get e t = some a -> get (dedup e) t = some a
 | [], _, _, h => by cases h
 | (u, b) :: e, t, a, h => by
  simp only [get] at h
  simp only [dedup, get]
  split at h
  ·rename_i hu; rw [if_pos hu]; exact h
  ·rename_i hu; rw [if_neg hu]; exact get_drop_ne hu (get_dedup h)
theorem less_dd {e env : Env} (he : (dedup e).map (fun p => get env p.1) = (dedup e).map fun p => some p.2) : Less e env := fun t a h => less_of (dedup e) he t a (get_dedup h)
theorem less_true {env : Env} {t : Nat} {B b : Bool} (hB : B = b) (hg : get env t = some (.v (.bool B))) : Less ((t, .v (.bool b)) :: env) env := by
 subst hB
 intro u a h
 simp only [get] at h
 split at h
 ·rename_i hu; subst hu; cases h; exact hg
 ·exact h
def upd (h : AHeap) (news : List (List AV)) (sets : List (Nat × List AV)) : AHeap := ⟨sets.foldl (fun b p => b.set p.1 (some p.2)) (h.blks ++ news.map some), h.bufs, h.globs⟩
def elsOf : Option AV -> Option (List (List AV))
 | some (.sl els _) => some els
 | _ => none
theorem elsOf_some {x : Option AV} {els : List (List AV)} (h : elsOf x = some els) : ∃ tok, x = some (.sl els tok) := by
 unfold elsOf at h
 split at h
 ·cases h; exact ⟨_, rfl⟩
 ·cases h
structure GFn where
 fn : FuncId
 fi : List AV
 cap : List AV
 hp : (plainL fi && plainL cap) = true
theorem gfn_fi (g : GFn) : plainL g.fi = true := (Bool.and_eq_true _ _ ▸ g.hp).1
theorem gfn_cap (g : GFn) : plainL g.cap = true := (Bool.and_eq_true _ _ ▸ g.hp).2
theorem gfn_lfi (m : List Bool) (n : Nat) (g : GFn) : lowL m n g.fi = true := lowL_plain _ _ _ (gfn_fi g)
theorem gfn_lcap (m : List Bool) (n : Nat) (g : GFn) : lowL m n g.cap = true := lowL_plain _ _ _ (gfn_cap g)
theorem gfn_pl (g : GFn) : plain (.clo (.func g.fn) g.fi g.cap) = true := g.hp
def eFn (g : GFn) : List AV := [.clo (.func g.fn) g.fi g.cap]
theorem pl_Fn (g : GFn) : plainL (eFn g) = true := by simp only [eFn, plainL, plain, gfn_fi, gfn_cap]; rfl
theorem plm_Fn (l : List GFn) : plainLL (l.map eFn) = true := plainLL_map _ _ fun x _ => pl_Fn x
section
variable {P : Program} {h h' : AHeap} {env e : Env} {N kb kf : Nat} {Q : Exit -> Env -> AHeap -> Prop} {K : Env -> AHeap -> Prop} {L : List AOper} {k : Nat} {S gl : List (Nat × List AV)} {b : Bool} {x y : ACode}
theorem vo {o : AOper} {av : AV} {d : Nat} (hl : L[k]? = some o) (ha : Does P o.op env h av h') (hd : o.dst = some d) (hk : Vp P L (k + 1) ((d, av) :: env) h' K) (hg : guardF env o.guard = some true := by kernel_rfl) : Vp P L k env h K := vp_opg hl hg ha rfl (by rw [hd]; rfl) hk
theorem vw {o : AOper} {av : AV} (hl : L[k]? = some o) (ha : Does P o.op env h av h') (hk : Vp P L (k + 1) env h' K) (hd : o.dst = none := by kernel_rfl) (hg : guardF env o.guard = some true := by kernel_rfl) : Vp P L k env h K := vp_opg hl hg ha rfl (by rw [hd]; rfl) hk
theorem vsp (t : Nat) (B : Bool) (hK : KMono K) (h1 : B = true -> Vp P L k ((t, .v (.bool true)) :: env) h K) (h2 : B = false -> Vp P L k ((t, .v (.bool false)) :: env) h K) (hg : get env t = some (.v (.bool B)) := by kernel_rfl) : Vp P L k env h K := by
 cases hB : B with
 | true => exact vd_less hK (less_true hB hg) (h1 hB)
 | false => exact vd_less hK (less_true hB hg) (h2 hB)
theorem vj (t d m : Nat) (B : Bool) (C : Bool -> AV) (hK : KMono K) (h1 : B = true -> Vp P L m ((d, C true) :: drop t env) h K -> Vp P L k ((t, .v (.bool true)) :: env) h K) (h2 : B = false -> Vp P L m ((d, C false) :: drop t env) h K -> Vp P L k ((t, .v (.bool false)) :: env) h K) (hk : Vp P L m ((d, C B) :: drop t env) h K) (hg : get env t = some (.v (.bool B)) := by kernel_rfl) : Vp P L k env h K := by
 refine vsp t B hK (fun hB => h1 hB ?_) (fun hB => h2 hB ?_) hg
 ·rw [hB] at hk; exact hk
 ·rw [hB] at hk; exact hk
theorem vle (hK : KMono K) (key : Vp P L k e h K) (he : (dedup e).map (fun p => get env p.1) = (dedup e).map (fun p => some p.2) := by kernel_rfl) : Vp P L k env h K := vd_less hK (less_dd he) key
theorem vn {d : Nat} {x y : AOpd} {yes : Bool} {α : Type} (hl : L[k]? = some ⟨some d, .eq .slice yes x y, none⟩) (l : List α) (f : α -> List AV) (hk : ∀ b : Bool, (l ≠ [] -> b = !yes) -> Vp P L (k + 1) ((d, .v (.bool b)) :: env) h K) (hx : elsOf (x.ev env) = some (List.map f l) := by kernel_rfl) (hy : y.ev env = some .nil := by kernel_rfl) : Vp P L k env h K := by
 obtain ⟨tok, hx⟩ := elsOf_some hx
 refine vp_any hl rfl (fun av => ∃ b : Bool, av = .v (.bool b) /\ (l ≠ [] -> b = !yes)) (fun K' hK' => ?_) fun av hav => ?_
 ·simp only [aop, hx, hy, wv, eqOf]
  rcases Classical.em (l = []) with h0 | h0
  ·right
   subst h0
   exact ⟨rfl, hK' _ ⟨_, rfl, fun hn => absurd rfl hn⟩, hK' _ ⟨_, rfl, fun hn => absurd rfl hn⟩⟩
  ·left
   refine ⟨by simpa using h0, hK' _ ⟨_, rfl, fun _ => ?_⟩⟩
   cases yes <;> rfl
 ·obtain ⟨b, rfl, hb⟩ := hav
  exact hk b hb
theorem vend (hk : K env h) (hl : L.drop k = [] := by kernel_rfl) : Vp P L k env h K := vp_end hl hk
def freshD (nl env : Env) (ops : List AOper) : Bool := ops.all fun o => match o.dst with
 | some t => (get nl t).isSome || (get env t).isNone
 | none => true
theorem get_mem : ∀ {e : Env} {t : Nat} {a : AV}, get e t = some a -> (t, a) ∈ e
 | [], _, _, h => by cases h
 | (u, b) :: e, t, a, h => by
  simp only [get] at h
  split at h
  ·rename_i hu; subst hu; cases h; exact List.mem_cons_self
  ·exact List.mem_cons_of_mem _ (get_mem h)
theorem get_two : ∀ {e f : Env} {t : Nat}, get (e ++ f) t = match get e t with | some a => some a | none => get f t
 | [], _, _ => rfl
 | (u, b) :: e, f, t => by
  simp only [List.cons_append, get]
  split
  ·rfl
  ·exact get_two
theorem get_put_ne {env : Env} {d : Option Tmp} {t : Nat} {a : AV} (h : d ≠ some t) : get (putE env d a) t = get env t := by
 cases d with
 | none => rfl
 | some d =>
  simp only [putE, get]
  rw [if_neg]
  intro e; exact h (by rw [e])
theorem get_dropE_ne {env : Env} {d : Option Tmp} {t : Nat} (h : d ≠ some t) : get (dropE env d) t = get env t := by
 cases d with
 | none => rfl
 | some d =>
  simp only [dropE]
  first
   | exact get_put_ne (d := some d) h
   | (simp only [get]; rw [if_neg (fun e => h (by rw [e]))])
theorem vopsF_old {md : Bool} {call : Callee} : ∀ {l : List AOper} {env : Env} {h : AHeap} {r : Env × AHeap} {t : Nat}, vopsF md call l env h = some r -> (∀ o ∈ l, o.dst ≠ some t) -> get r.1 t = get env t
 | [], env, h, r, t, he, _ => by cases he; rfl
 | o :: l, env, h, r, t, he, hn => by
  simp only [vopsF, Option.bind_eq_some_iff] at he
  obtain ⟨b, h1, h2⟩ := he
  have ho := hn o List.mem_cons_self
  have hl := fun o' h' => hn o' (List.mem_cons_of_mem _ h')
  cases b with
  | true =>
   simp only [Option.bind_eq_some_iff] at h2
   obtain ⟨p, h3, h4⟩ := h2
   exact (vopsF_old h4 hl).trans (get_put_ne ho)
  | false => exact (vopsF_old h2 hl).trans (get_dropE_ne ho)
theorem vsC_old {n : Nat} {S gl : List (Nat × List AV)} {b : Bool} : ∀ {l : List AOper} {env : Env} {h : AHeap} {r : Env × AHeap} {t : Nat}, vsC n S gl b l env h = some r -> (∀ o ∈ l, o.dst ≠ some t) -> get r.1 t = get env t
 | [], env, h, r, t, he, _ => by cases he; rfl
 | o :: l, env, h, r, t, he, hn => by
  simp only [vsC, Option.bind_eq_some_iff] at he
  obtain ⟨g, h1, h2⟩ := he
  have ho := hn o List.mem_cons_self
  have hl := fun o' h' => hn o' (List.mem_cons_of_mem _ h')
  cases g with
  | false => exact (vsC_old h2 hl).trans (get_dropE_ne ho)
  | true =>
   simp only at h2
   split at h2
   ·split at h2
    ·exact (vsC_old h2 hl).trans (get_put_ne ho)
    ·cases h2
   ·split at h2
    ·simp only [Option.bind_eq_some_iff] at h2
     obtain ⟨p, h3, h4⟩ := h2
     exact (vsC_old h4 hl).trans (get_put_ne ho)
    ·cases h2
theorem less_kept {nl env e : Env} {ops : List AOper} (h1 : nl.map (fun q => get e q.1) = nl.map fun q => some q.2) (h2 : freshD nl env ops = true) (h3 : ∀ t, (∀ o ∈ ops, o.dst ≠ some t) -> get e t = get env t) : Less (nl ++ env) e := by
 intro t a h
 rw [get_two] at h
 cases hn : get nl t with
 | some b =>
  rw [hn] at h; cases h
  have hm := get_mem hn
  obtain ⟨i, hi⟩ := List.mem_iff_getElem?.1 hm
  have := congrArg (fun l => l[i]?) h1
  simpa [List.getElem?_map, hi] using this
 | none =>
  rw [hn] at h
  rw [h3 t fun o ho hd => ?_]
  ·exact h
  ·have := List.all_eq_true.1 h2 o ho
   rw [hd] at this
   simp [hn, h] at this
def chk (nl env : Env) (ops : List AOper) (p : Env × AHeap) : List (Option AV) × AHeap × Bool := (nl.map (fun q => get p.1 q.1), p.2, freshD nl env ops)
theorem chk_some {nl env : Env} {ops : List AOper} {x : Option (Env × AHeap)} {h' : AHeap} (h : x.map (chk nl env ops) = some (nl.map (fun q => some q.2), h', true)) : ∃ e, x = some (e, h') /\ nl.map (fun q => get e q.1) = nl.map (fun q => some q.2) /\ freshD nl env ops = true := by
 cases x with
 | none => cases h
 | some p =>
  simp only [Option.map_some, chk, Option.some.injEq, Prod.mk.injEq] at h
  exact ⟨p.1, by rw [← h.2.1], h.1, h.2.2⟩
theorem va (m : Nat) (nl : Env) (hk : Vp P L (k + m) (nl ++ env) h K) (hK : KMono K := by first | exact km_d | exact km_vd km_d | exact km_dl | exact km_ret | exact km_vd km_dl | exact km_vd km_ret) (he : (vopsF false noC ((L.drop k).take m) env h).map (chk nl env ((L.drop k).take m)) = some (nl.map (fun q => some q.2), h, true) := by kernel_rfl) : Vp P L k env h K := by
 obtain ⟨e, h1, h2, h3⟩ := chk_some he
 exact vp_chunk m _ _ h1 rfl (vd_less hK (less_kept h2 h3 fun t ht => vopsF_old h1 ht) hk)
theorem vg (m : Nat) (nl : Env) (news : List (List AV)) (sets : List (Nat × List AV)) (hk : Vp P L (k + m) (nl ++ env) (upd h news sets) K) (hK : KMono K := by first | exact km_d | exact km_vd km_d | exact km_dl | exact km_ret | exact km_vd km_dl | exact km_vd km_ret) (he : (vopsF false noC ((L.drop k).take m) env h).map (chk nl env ((L.drop k).take m)) = some (nl.map (fun q => some q.2), upd h news sets, true) := by kernel_rfl) : Vp P L k env h K := by
 obtain ⟨e, h1, h2, h3⟩ := chk_some he
 exact vp_chunk m _ _ h1 rfl (vd_less hK (less_kept h2 h3 fun t ht => vopsF_old h1 ht) hk)
theorem sa (n m : Nat) (nl : Env) (hk : Sp P S gl b L (k + m) (nl ++ env) h K) (hK : KMono K := by first | exact km_d | exact km_vd km_d | exact km_dl | exact km_ret | exact km_vd km_dl | exact km_vd km_ret) (he : (vsC n S gl b ((L.drop k).take m) env h).map (chk nl env ((L.drop k).take m)) = some (nl.map (fun q => some q.2), h, true) := by kernel_rfl) : Sp P S gl b L k env h K := by
 obtain ⟨e, h1, h2, h3⟩ := chk_some he
 exact sp_chunk n m _ _ h1 rfl (vs_less hK (less_kept h2 h3 fun t ht => vsC_old h1 ht) hk)
theorem sg (n m : Nat) (nl : Env) (news : List (List AV)) (hk : Sp P S gl b L (k + m) (nl ++ env) (upd h news []) K) (hK : KMono K := by first | exact km_d | exact km_vd km_d | exact km_dl | exact km_ret | exact km_vd km_dl | exact km_vd km_ret) (he : (vsC n S gl b ((L.drop k).take m) env h).map (chk nl env ((L.drop k).take m)) = some (nl.map (fun q => some q.2), upd h news [], true) := by kernel_rfl) : Sp P S gl b L k env h K := by
 obtain ⟨e, h1, h2, h3⟩ := chk_some he
 exact sp_chunk n m _ _ h1 rfl (vs_less hK (less_kept h2 h3 fun t ht => vsC_old h1 ht) hk)
theorem sc (n m : Nat) (new : Env) (hk : Sp P S gl b L (k + m) (new ++ env) h K) (he : vsC n S gl b ((L.drop k).take m) env h = some (new ++ env, h) := by kernel_rfl) : Sp P S gl b L k env h K := sp_chunk n m _ _ he rfl hk
theorem sq {o : AOper} {av : AV} {d : Nat} (hl : L[k]? = some o) (ha : ∀ h2, InS S gl h2 -> Does P o.op env h2 av h2) (hd : o.dst = some d) (hk : Sp P S gl b L (k + 1) ((d, av) :: env) h K) (hg : guardF env o.guard = some true := by kernel_rfl) (hq : quietOp o.op = true := by kernel_rfl) : Sp P S gl b L k env h K := sp_q hl hg hq ha rfl (by rw [hd]; rfl) hk
theorem sw {o : AOper} {av : AV} (new : Env) (hl : L[k]? = some o) (ha : Does P o.op env h av h') (hk : Sp P S gl false L (k + 1) (new ++ env) h' K) (hd : putE env o.dst av = new ++ env := by kernel_rfl) (hg : guardF env o.guard = some true := by kernel_rfl) (hq : quietOp o.op = false := by kernel_rfl) (hn : isNew o = false := by kernel_rfl) (hi : inS S h' = S.map (fun p => some (some p.2)) := by kernel_rfl) (hgl : h'.globs = gl := by kernel_rfl) : Sp P S gl b L k env h K := sp_chg hl hg hq hn ha hi hgl rfl hd hk
theorem ssp (t : Nat) (B : Bool) (hK : KMono K) (h1 : B = true -> Sp P S gl b L k ((t, .v (.bool true)) :: env) h K) (h2 : B = false -> Sp P S gl b L k ((t, .v (.bool false)) :: env) h K) (hg : get env t = some (.v (.bool B)) := by kernel_rfl) : Sp P S gl b L k env h K := by
 cases hB : B with
 | true => exact vs_less hK (less_true hB hg) (h1 hB)
 | false => exact vs_less hK (less_true hB hg) (h2 hB)
theorem sr {α : Type} (t d m : Nat) (B : Bool) (R : α -> Prop) (C : α -> AV) (hK : KMono K) (hk : ∀ z, R z -> Sp P S gl b L m ((d, C z) :: drop t env) h K) (hb : (∀ z, R z -> Sp P S gl b L m ((d, C z) :: drop t env) h K) -> (B = true -> Sp P S gl b L k ((t, .v (.bool true)) :: env) h K) /\ (B = false -> Sp P S gl b L k ((t, .v (.bool false)) :: env) h K)) (hg : get env t = some (.v (.bool B)) := by kernel_rfl) : Sp P S gl b L k env h K :=
 ssp t B hK (hb hk).1 (hb hk).2 hg
theorem sle (hK : KMono K) (key : Sp P S gl b L k e h K) (he : (dedup e).map (fun p => get env p.1) = (dedup e).map (fun p => some p.2) := by kernel_rfl) : Sp P S gl b L k env h K := vs_less hK (less_dd he) key
theorem send (hk : K env h) (hl : L.drop k = [] := by kernel_rfl) : Sp P S gl b L k env h K := sp_end hl hk
theorem vw2 (t : Nat) {B : Bool} {p q : Prop} (hw : (B = true -> p) /\ (B = false -> q)) (h1 : B = true -> p -> Vp P L k ((t, .v (.bool true)) :: env) h K) (h2 : B = false -> q -> Vp P L k ((t, .v (.bool false)) :: env) h K) (hK : KMono K := by first | exact km_d | exact km_vd km_d | exact km_dl | exact km_ret | exact km_vd km_dl | exact km_vd km_ret) (hg : get env t = some (.v (.bool B)) := by kernel_rfl) : Vp P L k env h K := vsp t B hK (fun x => h1 x (hw.1 x)) (fun x => h2 x (hw.2 x)) hg
theorem sw2 (t : Nat) {B : Bool} {p q : Prop} (hw : (B = true -> p) /\ (B = false -> q)) (h1 : B = true -> p -> Sp P S gl b L k ((t, .v (.bool true)) :: env) h K) (h2 : B = false -> q -> Sp P S gl b L k ((t, .v (.bool false)) :: env) h K) (hK : KMono K := by first | exact km_d | exact km_vd km_d | exact km_dl | exact km_ret | exact km_vd km_dl | exact km_vd km_ret) (hg : get env t = some (.v (.bool B)) := by kernel_rfl) : Sp P S gl b L k env h K := ssp t B hK (fun x => h1 x (hw.1 x)) (fun x => h2 x (hw.2 x)) hg
theorem nle {a b : Nat} (h : Nat.ble a b = true := by kernel_rfl) : a <= b := Nat.le_of_ble_eq_true h
abbrev LO := List AOper
abbrev aI (n : Int) : AV := .v (.int .i64 n)
abbrev aU (n : Int) : AV := .v (.int .u64 n)
abbrev aB (b : Bool) : AV := .v (.bool b)
abbrev aS (s : ByteArray) : AV := .v (.string s)
abbrev aE : AV := .v (.string ⟨#[]⟩)
abbrev zV : List AV := [aI 0, aU 0, aE, .nil, .nil, .nil, .nil]
abbrev LN := List (List Nat)
abbrev QP := Exit -> Env -> AHeap -> Prop
theorem dr {ops : List AOper} (hv : Vp P ops 0 env h fun env' h' => Q .normal env' h') : D P N kb kf (.region ops) Q env h := d_region (vp_start hv)
theorem dS (S : List (Nat × List AV)) {ord : List (List Nat)} {al tl : List AOper} (hv : Sp P S h.globs true al 0 env h fun F h' => vd P tl F h' fun env' h' => Q .normal env' h') (hok : okq al = true := by kernel_rfl) (hst : statS (clo ord) al = true := by kernel_rfl) (hS : inS S h = S.map (fun p => some (some p.2)) := by kernel_rfl) : D P N kb kf (.drawn ord al tl) Q env h := d_drawnS S hok hst hS hv
theorem dc {c : AOpd} (B : Bool) (h1 : B = true -> D P N kb kf x Q env h) (h2 : B = false -> D P N kb kf y Q env h) (hc : c.ev env = some (.v (.bool B)) := by kernel_rfl) : D P N kb kf (.cond c x y) Q env h := d_cond hc h1 h2
theorem dw {c : AOpd} {B : Bool} {p q : Prop} (hw : (B = true -> p) /\ (B = false -> q)) (h1 : B = true -> p -> D P N kb kf x Q env h) (h2 : B = false -> q -> D P N kb kf y Q env h) (hc : c.ev env = some (.v (.bool B)) := by kernel_rfl) : D P N kb kf (.cond c x y) Q env h := dc B (fun z => h1 z (hw.1 z)) (fun z => h2 z (hw.2 z)) hc
theorem dkf {c : AOpd} {B : Bool} (hB : B = false) (h1 : D P N kb kf y Q env h) (hc : c.ev env = some (.v (.bool B)) := by kernel_rfl) : D P N kb kf (.cond c x y) Q env h := d_cond_f hc hB h1
theorem dt {c : AOpd} (h1 : D P N kb kf x Q env h) (hc : c.ev env = some (.v (.bool true)) := by kernel_rfl) : D P N kb kf (.cond c x y) Q env h := d_cond_t hc rfl h1
theorem df {c : AOpd} (h1 : D P N kb kf y Q env h) (hc : c.ev env = some (.v (.bool false)) := by kernel_rfl) : D P N kb kf (.cond c x y) Q env h := d_cond_f hc rfl h1
theorem rx {rs : List ARes} {R : Type} {f : R -> AV} {r r0 : R} (hw : r = r0) (hp : plain (f r0) = true) (he : (outsF env h rs).map (fun l => nz (retv l)) = some (f r0) := by kernel_rfl) : qret rs (f r) .ret env h := by
 subst hw
 simp only [Option.map_eq_some_iff] at he
 obtain ⟨l, h1, h2⟩ := he
 exact r_end h1 h2 hp
theorem jl0 (hx : DL P N kb kf x Q e h') (he : e.map (fun p => get env p.1) = e.map (fun p => some p.2) := by kernel_rfl) (hh : h = h' := by kernel_rfl) : DL P N kb kf x Q env h := by subst hh; exact dl_trim e he hx
theorem jd0 (hx : D P N kb kf x Q e h') (he : e.map (fun p => get env p.1) = e.map (fun p => some p.2) := by kernel_rfl) (hh : h = h' := by kernel_rfl) : D P N kb kf x Q env h := by subst hh; exact d_trim e he hx
theorem jl {m : List Bool} {n : Nat} (hlow : lowE m n e = true /\ lowB m n h'.blks = true) (hx : DL P N 0 0 x Q e h') (he : e.map (fun p => get env p.1) = e.map (fun p => some p.2) := by kernel_rfl) (hh : (⟨keepB m h.blks, h.bufs.take n, h.globs⟩ : AHeap) = h' := by kernel_rfl) (hg : plainG h.globs = true := by kernel_rfl) : DL P N 0 0 x Q env h := by
 subst hh
 exact dl_trim e he (dl_drop m n (fun _ h => absurd h (Nat.not_lt_zero _)) (Nat.zero_le _) hlow.1 hlow.2 hg hx)
theorem jg {l : Nat} {m : List Bool} {n : Nat} (hlow : lowE m n e = true /\ lowB m n h'.blks = true) (hx : DG P N 0 0 x l Q e h') (he : e.map (fun p => get env p.1) = e.map (fun p => some p.2) := by kernel_rfl) (hh : (⟨keepB m h.blks, h.bufs.take n, h.globs⟩ : AHeap) = h' := by kernel_rfl) (hg : plainG h.globs = true := by kernel_rfl) : DG P N 0 0 x l Q env h := by
 subst hh
 exact dg_trim e he (dg_drop m n (fun _ h => absurd h (Nat.not_lt_zero _)) (Nat.zero_le _) hlow.1 hlow.2 hg hx)
abbrev tq (P : Program) (N : Nat) (y : ACode) (Q : Exit -> Env -> AHeap -> Prop) : Exit -> Env -> AHeap -> Prop := thenA (fun e h => D P N 0 0 y Q e h) Q
abbrev tl (P : Program) (N : Nat) (y : ACode) (Q : Exit -> Env -> AHeap -> Prop) : Exit -> Env -> AHeap -> Prop := thenA (fun e h => DL P N 0 0 y Q e h) Q
theorem ds {P : Program} {N kb kf : Nat} {ops : List AOper} {y : ACode} {Q : Exit -> Env -> AHeap -> Prop} {env : Env} {h : AHeap} (hv : Vp P ops 0 env h fun env' h' => D P N kb kf y Q env' h') : D P N kb kf (.seq (.region ops) y) Q env h := d_seqQ (dr hv)
theorem ve {P : Program} {L : List AOper} {k : Nat} {env : Env} {h : AHeap} {K : Env -> AHeap -> Prop} (hk : K env h) (hl : L.drop k = [] := by kernel_rfl) : Vp P L k env h K := vend hk hl
def intOf : Option AV -> Option Int
 | some (.v (.int _ n)) => some n
 | _ => none
theorem intOf_some {x : Option AV} {n : Int} (h : intOf x = some n) : ∃ k, x = some (.v (.int k n)) := by
 unfold intOf at h
 split at h
 ·cases h; exact ⟨_, rfl⟩
 ·cases h
variable {α : Type}
theorem x_len {x : AOpd} (l : List α) (e : α -> List AV) (hx : elsOf (x.ev env) = some (List.map e l) := by kernel_rfl) : Does P (.len false x) env h (.v (.int .i64 l.length)) h := by
 obtain ⟨tok, hx⟩ := elsOf_some hx
 exact q_len hx
theorem x_idx {size : Nat} {x i : AOpd} {l : List α} {e' e : α -> List AV} {n : Int} {y : α} (h0 : 0 <= n) (hy : l[n.toNat]? = some y) (he : e' y = e y) (hx : elsOf (x.ev env) = some (List.map e' l) := by kernel_rfl) (hi : intOf (i.ev env) = some n := by kernel_rfl) (hs : (e y).length = size := by kernel_rfl) : Does P (.idxSl size x i) env h (.elt (e y) 0) h := by
 obtain ⟨tok, hx⟩ := elsOf_some hx
 obtain ⟨k, hi⟩ := intOf_some hi
 exact q_idxSl hx hi h0 hy he hs
def tokOf : Option AV -> Option Tok
 | some (.sl _ t) => some t
 | _ => none
theorem x_slice {size : Nat} {x : AOpd} {lo hi : Option AOpd} {l : List α} {e' : α -> List AV} {a u : Int} (h0 : 0 <= a /\ a <= u /\ u <= (l.length : Int)) (hs : ∀ y, (e' y).length = size) (hx : elsOf (x.ev env) = some (List.map e' l) := by kernel_rfl) (h3 : (evo env lo).bind (boundOf 0) = some a := by kernel_rfl) (h4 : (evo env hi).bind (boundOf l.length) = some u := by kernel_rfl) (hc : (lo.isSome || hi.isSome) = true := by kernel_rfl) : Does P (.sliceV size x lo hi none) env h (.sl (List.map e' ((l.take u.toNat).drop a.toNat)) .no) h := by
 obtain ⟨tok, hx⟩ := elsOf_some hx
 obtain ⟨lv, h1, h3⟩ := Option.bind_eq_some_iff.1 h3
 obtain ⟨hv, h2, h4⟩ := Option.bind_eq_some_iff.1 h4
 have := q_sliceV (P := P) (h := h) hx h1 h2 h3 h4 h0 hs
 cases lo with
 | none =>
  cases hi with
  | none => cases hc
  | some hi =>
   have e2 : ∃ z, hv = some z := by
    simp only [evo] at h2
    split at h2
    ·cases h2; exact ⟨_, rfl⟩
    ·cases h2
   obtain ⟨z, rfl⟩ := e2
   cases h1
   exact this
 | some lo =>
  have e1 : ∃ z, lv = some z := by
   simp only [evo] at h1
   split at h1
   ·cases h1; exact ⟨_, rfl⟩
   ·cases h1
  obtain ⟨z, rfl⟩ := e1
  exact this
def bin2 (op : BinOp) (x y : Option AV) : Option (Prop × Value) :=
 match x, y with
 | some (.v a), some (.v b) => pbin op a b
 | _, _ => none
theorem x_bin {op : BinOp} {x y : AOpd} {c : Prop} (r : Value) (hc : c) (hp : bin2 op (x.ev env) (y.ev env) = some (c, r) := by kernel_rfl) : Does P (.bin op x y) env h (.v r) h := by
 unfold bin2 at hp
 split at hp
 ·rename_i a b h1 h2; exact q_bin h1 h2 hp hc
 ·cases hp
theorem x_cat {x y : AOpd} {a b : ByteArray} (h0 : ((a.size + b.size : Nat) : Int) <= 9223372036854775807) (hx : x.ev env = some (.v (.string a)) := by kernel_rfl) (hy : y.ev env = some (.v (.string b)) := by kernel_rfl) : Does P (.bin .add x y) env h (.v (.string (a ++ b))) h := q_catS hx hy h0
theorem x_eqS {x y : AOpd} (a b : ByteArray) (hx : x.ev env = some (.v (.string a)) := by kernel_rfl) (hy : y.ev env = some (.v (.string b)) := by kernel_rfl) : Does P (.bin .eql x y) env h (.v (.bool (decide (a = b)))) h := q_eqS hx hy
theorem x_neS {x y : AOpd} (a b : ByteArray) (hx : x.ev env = some (.v (.string a)) := by kernel_rfl) (hy : y.ev env = some (.v (.string b)) := by kernel_rfl) : Does P (.bin .neq x y) env h (.v (.bool (!decide (a = b)))) h := q_neS hx hy
theorem x_call {g : FuncId} {args : List AOpd} {l' : List AV} {r : AV} (hc : PureN P h.globs g l' r) (hp : plainL l' = true) (ha : (evs env args).map (List.map nz) = some l' := by kernel_rfl) (hgl : plainG h.globs = true := by kernel_rfl) : Does P (.call (.c (.clo (.func g) [] [])) args) env h r h := by
 obtain ⟨l, h1, h2⟩ := Option.map_eq_some_iff.1 ha
 exact q_calln rfl h1 h2 hgl hp hc
theorem y_call {g : FuncId} {args : List AOpd} {l' : List AV} {r : AV} (hc : PureN P gl g l' r) (hp : plainL l' = true) (ha : (evs env args).map (List.map nz) = some l' := by kernel_rfl) (hgl : plainG gl = true := by kernel_rfl) : ∀ h2, InS S gl h2 -> Does P (.call (.c (.clo (.func g) [] [])) args) env h2 r h2 := by
 obtain ⟨l, h1, h2⟩ := Option.map_eq_some_iff.1 ha
 exact all_n rfl h1 h2 hgl hp hc
theorem x_fcall {f : AOpd} {args : List AOpd} {F : AV} {l' : List AV} {r : AV} (hc : FCall P h.globs F l' r) (hf : f.ev env = some F := by kernel_rfl) (ha : (evs env args).map (List.map nz) = some l' := by kernel_rfl) (hgl : plainG h.globs = true := by kernel_rfl) : Does P (.call f args) env h r h := by
 obtain ⟨l, h1, h2⟩ := Option.map_eq_some_iff.1 ha
 exact q_fcall hf h1 h2 hgl hc
theorem y_fcall {f : AOpd} {args : List AOpd} {F : AV} {l' : List AV} {r : AV} (hc : FCall P gl F l' r) (hf : f.ev env = some F := by kernel_rfl) (ha : (evs env args).map (List.map nz) = some l' := by kernel_rfl) (hgl : plainG gl = true := by kernel_rfl) : ∀ h2, InS S gl h2 -> Does P (.call f args) env h2 r h2 := by
 obtain ⟨l, h1, h2⟩ := Option.map_eq_some_iff.1 ha
 exact all_f hf h1 h2 hgl hc
theorem x_app {size byt : Nat} {x y : AOpd} (id : Nat) (e' : α -> List AV) (l m : List α) (h0 : (l.length + m.length) * byt <= 140737488355328) (hs : ∀ y, (e' y).length = size) (hm : (y.ev env).bind (elsH h size) = some (List.map e' m)) (hx : x.ev env = some (.sl (List.map e' l) (.own id)) := by kernel_rfl) (hb : h.bufs[id]? = some (l.length, size) := by kernel_rfl) : Does P (.append size byt x y) env h (.sl (List.map e' (l ++ m)) (.own id)) ⟨h.blks, h.bufs.set id ((l ++ m).length, size), h.globs⟩ := by
 obtain ⟨Y, h1, h2⟩ := Option.bind_eq_some_iff.1 hm
 exact h_append_own hx h1 h2 hb hs h0
theorem x_appf {size byt : Nat} {x y : AOpd} (e' : α -> List AV) (l m : List α) (h0 : (l.length + m.length) * byt <= 140737488355328) (hs : ∀ y, (e' y).length = size) (hm : (y.ev env).bind (elsH h size) = some (List.map e' m)) (hX : elsOf (x.ev env) = some (List.map e' l)) (hx : tokOf (x.ev env) = some .full := by kernel_rfl) : Does P (.append size byt x y) env h (.sl (List.map e' (l ++ m)) (.own h.bufs.length)) ⟨h.blks, h.bufs ++ [((l ++ m).length, size)], h.globs⟩ := by
 obtain ⟨Y, h1, h2⟩ := Option.bind_eq_some_iff.1 hm
 obtain ⟨tok, h3⟩ := elsOf_some hX
 rw [h3] at hx
 cases hx
 exact h_append_full (X := .nil) h3 h1 rfl h2 hs h0
theorem x_bytes {x : AOpd} (s : ByteArray) (hx : x.ev env = some (.v (.string s)) := by kernel_rfl) : Does P (.bytes x) env h (.sl (List.map (fun n => [AV.v (.int .u8 n)]) (bI s)) (.own h.bufs.length)) ⟨h.blks, h.bufs ++ [((bI s).length, 1)], h.globs⟩ := h_bytes hx
theorem x_str {x : AOpd} {l : List Int} {t : ByteArray} (hl : l = bI t) (hx : elsOf (x.ev env) = some (List.map (fun n => [AV.v (.int .u8 n)]) l) := by kernel_rfl) : Does P (.conv .str x) env h (.v (.string t)) h := by
 obtain ⟨tok, hx⟩ := elsOf_some hx
 exact q_str hx hl
theorem x_U {o : AOp} (av : AV) (news : List (List AV)) (sets : List (Nat × List AV)) (he : aopF false noC o env h = some (av, upd h news sets) := by kernel_rfl) : Does P o env h av (upd h news sets) := does_F he
end
def smol1 (n : Nat) (β : Option Nat) : AV -> AV
 | .nil => .sl [] .no
 | .sl els (.own id) => if β = some id then .sl els (.own 0) else .sl els .no
 | .sl els .no => .sl els .no
 | .sl els .full => .sl els .no
 | .ptr k off => if k = n then .ptr 0 off else .it ⟨#[]⟩ 0
 | .row k off size len cap => if k = n then .row 0 off size len cap else .it ⟨#[]⟩ 0
 | x => x
def smol (n : Nat) (β : Option Nat) : AV -> AV
 | .agg cs => .agg (cs.map (smol1 n β))
 | x => smol1 n β x
def ok1 : AV -> Bool
 | .ptr 0 _ => true
 | .row 0 _ _ _ _ => true
 | .sl els (.own 0) => plainLL els
 | x => plain x
def okA : AV -> Bool
 | .agg cs => cs.all ok1
 | x => ok1 x
def big1 (n : Nat) (β : Option Nat) : AV -> AV
 | .ptr _ off => .ptr n off
 | .row _ off size len cap => .row n off size len cap
 | .sl els (.own _) => match β with
  | some id => .sl els (.own id)
  | none => .sl els .no
 | x => x
theorem smol1_cell (n : Nat) (β : Option Nat) (a : AV) (h : ok1 (smol1 n β a) = true) : (smol1 n β a).isCell = a.isCell := by
 cases a with
 | sl els tok => cases tok <;> simp only [smol1] <;> (try split) <;> rfl
 | ptr k off => simp only [smol1] at h ⊢; split at h <;> simp_all [ok1, plain, AV.isCell]
 | row k off size len cap => simp only [smol1] at h ⊢; split at h <;> simp_all [ok1, plain, AV.isCell]
 | _ => rfl
theorem big1_cell (n : Nat) (β : Option Nat) (a : AV) : (big1 n β a).isCell = a.isCell := by
 cases a with
 | sl els tok => cases tok <;> simp only [big1] <;> (try split) <;> rfl
 | _ => rfl
def Sg.mine (σ : Sg) (b0 : Nat) (β : Option Nat) : Sg := ⟨σ.w, fun i => if i = 0 then some b0 else none, fun j => if j = 0 then β.bind σ.buf else none, fun _ _ => False⟩
def Sg.small (σ : Sg) (b0 : Nat) (β : Option Nat) : Sg := { σ.mine b0 β with outer := fun b o => σ.open_ b o /\ ¬ (σ.mine b0 β).own b o }
theorem mine_own {σ : Sg} {b0 : Nat} {β : Option Nat} {b o : Nat} : (σ.mine b0 β).own b o ↔ b = b0 ∨ ∃ id e, β = some id /\ σ.buf id = some e /\ e.spare b o := by
 constructor
 ·rintro (⟨k, hk⟩ | ⟨j, e, he, hs⟩)
  ·simp only [Sg.mine] at hk; split at hk
   ·cases hk; exact .inl rfl
   ·cases hk
  ·simp only [Sg.mine] at he; split at he
   ·obtain ⟨id, h1, h2⟩ := Option.bind_eq_some_iff.1 he
    exact .inr ⟨id, e, h1, h2, hs⟩
   ·cases he
 ·rintro (rfl | ⟨id, e, h1, h2, hs⟩)
  ·exact .inl ⟨0, rfl⟩
  ·exact .inr ⟨0, e, by simp [Sg.mine, h1, h2], hs⟩
theorem small_own {σ : Sg} {b0 : Nat} {β : Option Nat} {b o : Nat} : (σ.small b0 β).own b o ↔ (σ.mine b0 β).own b o := Iff.rfl
theorem small_sub {σ : Sg} {b0 n : Nat} {β : Option Nat} (hn : σ.blk n = some b0) {b o : Nat} (h : (σ.small b0 β).own b o) : σ.own b o := by
 rcases mine_own.1 (small_own.1 h) with rfl | ⟨id, e, h1, h2, hs⟩
 ·exact .inl ⟨n, hn⟩
 ·exact .inr ⟨id, e, h2, hs⟩
theorem small_open {σ : Sg} {b0 n : Nat} {β : Option Nat} (hn : σ.blk n = some b0) {b o : Nat} : (σ.small b0 β).open_ b o ↔ σ.open_ b o := by
 constructor
 ·rintro (h | h)
  ·exact h.1
  ·exact .inr (small_sub hn h)
 ·intro h
  rcases Classical.em ((σ.mine b0 β).own b o) with hm | hm
  ·exact .inr hm
  ·exact .inl ⟨h, hm⟩
theorem Rel.move {σ σ' : Sg} {a : AV} {x : Value} (hr : Rel σ a x) (hp : plain a = true) (hw : σ'.w = σ.w) (ho : ∀ b o, σ'.open_ b o -> σ.open_ b o) : Rel σ' a x :=
 (hr.down (w := σ.w) (outer := σ.open_) hp rfl fun _ _ h => h).up (fun _ => rfl) (fun _ => rfl) hw.symm fun b o h => .inl (ho b o h)
theorem rel_small {σ : Sg} {b0 n : Nat} {β : Option Nat} (hn : σ.blk n = some b0) {a : AV} {x : Value} (hr : Rel σ a x) (hok : ok1 (smol1 n β a) = true) : Rel (σ.small b0 β) (smol1 n β a) x := by
 have hop : ∀ b o, (σ.small b0 β).open_ b o -> σ.open_ b o := fun b o h => (small_open hn).1 h
 have pl : ∀ {a : AV}, Rel σ a x -> plain a = true -> Rel (σ.small b0 β) a x := fun h hp => h.move hp rfl hop
 cases a with
 | nil => exact pl hr.nz1 rfl
 | sl els tok =>
  cases tok with
  | no => exact pl hr.nz1 hok
  | full => exact pl hr.nz1 hok
  | own id =>
   simp only [smol1] at hok ⊢
   split at hok
   ·rename_i hb
    rw [if_pos hb]
    have hbuf : (σ.small b0 β).buf 0 = σ.buf id := by simp [Sg.small, Sg.mine, hb]
    simp only [ok1] at hok
    have tk : ∀ {len : Nat} {a : Option Addr} {cap : Nat}, tokOK σ (.own id) len a cap -> tokOK (σ.small b0 β) (.own 0) len a cap := by
     rintro len a cap ⟨e, h1, h2⟩
     exact ⟨e, by rw [hbuf]; exact h1, h2⟩
    cases hr with
    | sl0 _ ht => exact .sl0 _ (tk ht)
    | slx _ a cap ht hc => exact .slx _ a cap (tk ht) (hc.elim (fun h => by cases h) .inr)
    | sl _ _ b o cap size xs hs hcap ht hz hc hr =>
     refine .sl _ _ b o cap size xs hs hcap (tk ht) (fun j e hj he => ?_) (fun i el hi j av hj => ?_) fun i el hi j av hj => ?_
     ·cases hj; rw [hbuf] at he; exact hz id e rfl he
     ·obtain ⟨h1, h2, h3⟩ := hc i el hi j av hj
      exact ⟨h1, fun h => h2 (hop _ _ h), h3⟩
     ·exact (hr i el hi j av hj).move (plainL_get (plainLL_get hok i el hi) j av hj) rfl hop
   ·rename_i hb
    rw [if_neg hb]
    exact pl hr.nz1 hok
 | ptr k off =>
  simp only [smol1] at hok ⊢
  split at hok
  ·rename_i hk
   subst hk
   rw [if_pos rfl]
   cases hr with
   | ptr _ _ b h => rw [hn] at h; cases h; exact .ptr 0 off b0 rfl
  ·simp [ok1, plain] at hok
 | row k off size len cap =>
  simp only [smol1] at hok ⊢
  split at hok
  ·rename_i hk
   subst hk
   rw [if_pos rfl]
   cases hr with
   | row _ _ _ _ _ b cap' h hc hm hx => rw [hn] at h; cases h; exact .row 0 off size len cap b0 cap' rfl hc hm hx
  ·simp [ok1, plain] at hok
 | _ => exact pl hr (by simpa [smol1, ok1] using hok)
theorem rel_smallA {σ : Sg} {b0 n : Nat} {β : Option Nat} (hn : σ.blk n = some b0) {a : AV} {x : Value} (hr : Rel σ a x) (hok : okA (smol n β a) = true) : Rel (σ.small b0 β) (smol n β a) x := by
 cases a with
 | agg cs =>
  simp only [smol, okA] at hok ⊢
  obtain ⟨xs, rfl, hc⟩ := hr.agg_inv
  refine Rel.agg_mk' ⟨by simp [hc.1], fun i av hi => ?_⟩
  have hok1 := List.all_eq_true.1 hok av (List.mem_of_getElem? hi)
  simp only [List.getElem?_map, Option.map_eq_some_iff] at hi
  obtain ⟨b, hb, rfl⟩ := hi
  obtain ⟨h1, x, h2, h3⟩ := hc.2 i b hb
  exact ⟨by rw [smol1_cell n β b hok1]; exact h1, x, h2, rel_small hn h3 hok1⟩
 | sl els tok => cases tok with
  | own id =>
   refine rel_small hn hr ?_
   simp only [smol, smol1] at hok ⊢
   split at hok <;> rename_i hb <;> simp only [hb, if_true, if_false] <;> exact hok
  | _ => exact rel_small hn hr hok
 | ptr k off =>
  refine rel_small hn hr ?_
  simp only [smol, smol1] at hok ⊢
  split at hok <;> rename_i hb <;> simp only [hb, if_true, if_false] <;> exact hok
 | row k off size len cap =>
  refine rel_small hn hr ?_
  simp only [smol, smol1] at hok ⊢
  split at hok <;> rename_i hb <;> simp only [hb, if_true, if_false] <;> exact hok
 | _ => exact rel_small hn hr hok
def Sg.big (σ σ1 : Sg) (β : Option Nat) : Sg := ⟨σ1.w, σ.blk, fun id => if β = some id then σ1.buf 0 else σ.buf id, σ.outer⟩
theorem rel_big {σ σ1 : Sg} {b0 n : Nat} {β : Option Nat} (hn : σ.blk n = some b0) (h1 : σ1.blk 0 = some b0) (ho : ∀ b o, (σ.big σ1 β).open_ b o -> σ1.open_ b o) {a : AV} {x : Value} (hr : Rel σ1 a x) (hok : ok1 a = true) : Rel (σ.big σ1 β) (big1 n β a) x := by
 have pl : ∀ {a : AV}, Rel σ1 a x -> plain a = true -> Rel (σ.big σ1 β) a x := fun h hp => h.move hp rfl ho
 cases a with
 | sl els tok =>
  cases tok with
  | no => exact pl hr hok
  | full => exact pl hr hok
  | own j =>
   cases j with
   | succ j => simp [ok1, plain] at hok
   | zero =>
    simp only [ok1] at hok
    cases β with
    | none => exact (show Rel σ1 (.sl els .no) x from hr.nz1).move (by simpa [plain] using hok) rfl ho
    | some id =>
     have hbuf : (σ.big σ1 (some id)).buf id = σ1.buf 0 := by simp [Sg.big]
     have tk : ∀ {len : Nat} {a : Option Addr} {cap : Nat}, tokOK σ1 (.own 0) len a cap -> tokOK (σ.big σ1 (some id)) (.own id) len a cap := by
      rintro len a cap ⟨e, h1, h2⟩
      exact ⟨e, by rw [hbuf]; exact h1, h2⟩
     simp only [big1]
     cases hr with
     | sl0 _ ht => exact .sl0 _ (tk ht)
     | slx _ a cap ht hc => exact .slx _ a cap (tk ht) (hc.elim (fun h => by cases h) .inr)
     | sl _ _ b o cap size xs hs hcap ht hz hc hr =>
      refine .sl _ _ b o cap size xs hs hcap (tk ht) (fun j e hj he => ?_) (fun i el hi j av hj => ?_) fun i el hi j av hj => ?_
      ·cases hj; rw [hbuf] at he; exact hz 0 e rfl he
      ·obtain ⟨g1, g2, g3⟩ := hc i el hi j av hj
       exact ⟨g1, fun h => g2 (ho _ _ h), g3⟩
      ·exact (hr i el hi j av hj).move (plainL_get (plainLL_get hok i el hi) j av hj) rfl ho
 | ptr k off =>
  cases k with
  | succ k => simp [ok1, plain] at hok
  | zero => cases hr with
   | ptr _ _ b h => rw [h1] at h; cases h; exact .ptr n off b0 hn
 | row k off size len cap =>
  cases k with
  | succ k => simp [ok1, plain] at hok
  | zero => cases hr with
   | row _ _ _ _ _ b cap' h hc hm hx => rw [h1] at h; cases h; exact .row n off size len cap b0 cap' hn hc hm hx
 | _ => have h := pl hr (by simpa [ok1] using hok); exact h
def InOut (P : Program) (gl : List (Nat × List AV)) (f : FuncId) (args c : List AV) (bf : List (Nat × Nat)) (r : AV) (c' : List AV) (bf' : List (Nat × Nat)) : Prop :=
 ACall P f args ⟨[some c], bf, gl⟩ fun av h => nz av = r /\ h = ⟨[some c'], bf', gl⟩
theorem noIt_map {f : AV -> AV} (hf : ∀ a, (f a).isIt = a.isIt) : ∀ {l : List AV}, noIt l = true -> noIt (l.map f) = true
 | [], h => h
 | a :: _, h => by simpa [noIt, hf] using h
theorem big1_it (n : Nat) (β : Option Nat) (a : AV) : (big1 n β a).isIt = a.isIt := by
 cases a with
 | sl els tok => cases tok <;> simp only [big1] <;> (try split) <;> rfl
 | _ => rfl
theorem inv_small {h : AHeap} {σ : Sg} (hi : Inv h σ) {n b0 : Nat} {β : Option Nat} {cb c : List AV} {bf : List (Nat × Nat)} (hn : h.blks[n]? = some (some cb)) (hb0 : σ.blk n = some b0) (hit : noIt cb = true) (hc : cb.map (smol1 n β) = c) (hok : c.all ok1 = true)
  (hbf : (β = none /\ bf = []) ∨ ∃ id x, β = some id /\ bf = [x] /\ h.bufs[id]? = some x) (hgl : plainG h.globs = true) : Inv ⟨[some c], bf, h.globs⟩ (σ.small b0 β) := by
 have hblk : ∀ {k b : Nat}, (σ.small b0 β).blk k = some b -> k = 0 /\ b = b0 := by
  intro k b hk
  simp only [Sg.small, Sg.mine] at hk
  split at hk
  ·rename_i h0; cases hk; exact ⟨h0, rfl⟩
  ·cases hk
 have hbuf : ∀ {j : Nat} {e : Buf}, (σ.small b0 β).buf j = some e -> j = 0 /\ ∃ id, β = some id /\ σ.buf id = some e := by
  intro j e he
  simp only [Sg.small, Sg.mine] at he
  split at he
  ·rename_i h0; obtain ⟨id, h1, h2⟩ := Option.bind_eq_some_iff.1 he; exact ⟨h0, id, h1, h2⟩
  ·cases he
 have hopen : ∀ b o, σ.open_ b o -> b < σ.w.heap.size := by
  rintro b o (ho | ⟨n, hn⟩ | ⟨id, e, he, hs⟩)
  ·exact (hi.outer b o ho).1
  ·exact hi.lt hn
  ·obtain ⟨v, hv⟩ := Option.isSome_iff_exists.1 (hi.bufat id e b o he hs).1
   exact cell_lt hv
 refine ⟨fun k cells hk => ?_, fun k b hk => ?_, fun k m b c1 c2 hk hm _ _ _ _ => ?_, fun j x hj => ?_, fun j e he => ?_, fun j e he => ?_, fun j e b o he hs => ?_, fun i j e f b o he hf _ _ => ?_, fun j e k b o he hs hk => ?_, fun b o ho => ?_, fun g cells hg => ?_⟩
 ·cases k with
  | succ k => simp at hk
  | zero =>
   simp only [List.getElem?_cons_zero, Option.some.injEq] at hk
   subst hk
   refine ⟨b0, rfl, ?_⟩
   obtain ⟨b', h1, h2⟩ := hi.blk n cb hn
   rw [hb0] at h1; cases h1
   obtain ⟨cs, rest, elem, g1, g2⟩ := h2.plain hit
   refine .cells _ cs rest elem g1 ⟨by rw [g2.1, ← hc]; simp, fun i av hav => ?_⟩
   have hok1 := List.all_eq_true.1 hok av (List.mem_of_getElem? hav)
   rw [← hc] at hav
   simp only [List.getElem?_map, Option.map_eq_some_iff] at hav
   obtain ⟨a, ha, rfl⟩ := hav
   obtain ⟨k1, x, k2, k3⟩ := g2.2 i a ha
   exact ⟨by rw [smol1_cell n β a hok1]; exact k1, x, k2, rel_small hb0 k3 hok1⟩
 ·obtain ⟨rfl, _⟩ := hblk hk; exact ⟨c, rfl⟩
 ·have h1 := (List.getElem?_eq_some_iff.1 hk).1
  have h2 := (List.getElem?_eq_some_iff.1 hm).1
  simp at h1 h2; omega
 ·rcases hbf with ⟨_, rfl⟩ | ⟨id, y, rfl, rfl, hy⟩
  ·simp at hj
  ·cases j with
   | succ j => simp at hj
   | zero =>
    simp at hj; subst hj
    obtain ⟨e, h1, h2⟩ := hi.buf id y hy
    exact ⟨e, by simp [Sg.small, Sg.mine, h1], h2⟩
 ·obtain ⟨rfl, id, hβ, h1⟩ := hbuf he
  rcases hbf with ⟨h0, _⟩ | ⟨id', y, h0, rfl, hy⟩
  ·rw [h0] at hβ; cases hβ
  ·rw [h0] at hβ; cases hβ
   have := hi.bufdom id e h1
   rw [hy] at this
   simpa using this
 ·obtain ⟨_, id, hβ, h1⟩ := hbuf he; exact hi.bufle id e h1
 ·obtain ⟨_, id, hβ, h1⟩ := hbuf he; exact hi.bufat id e b o h1 hs
 ·exact (hbuf he).1.trans (hbuf hf).1.symm
 ·obtain ⟨_, id, hβ, h1⟩ := hbuf he
  obtain ⟨_, rfl⟩ := hblk hk
  exact hi.bufblk id e n _ o h1 hs hb0
 ·exact ⟨hopen b o ho.1, fun h => ho.2 h⟩
 ·exact (hi.glob g cells hg).move (by simp only [plain]; exact List.all_eq_true.1 hgl _ hg) rfl fun b o h => (small_open hb0).1 h
theorem io_call {P : Program} {f : FuncId} {args args' c cb c' : List AV} {bf bf' bs : List (Nat × Nat)} {r : AV} {h : AHeap} {n : Nat} {β : Option Nat} {K : AV -> AHeap -> Prop} (hf : InOut P h.globs f args c bf r c' bf') (hgl : plainG h.globs = true)
  (hn : h.blks[n]? = some (some cb)) (hit : noIt cb = true) (hc : cb.map (smol1 n β) = c) (hok : c.all ok1 = true) (hit' : noIt c' = true) (hok' : c'.all ok1 = true) (hargs : args'.map (smol n β) = args) (hoka : args.all okA = true) (hr : plain r = true)
  (hbf : (β = none /\ bf = [] /\ bf' = [] /\ bs = h.bufs) ∨ ∃ x x', β = some 0 /\ bf = [x] /\ bf' = [x'] /\ h.bufs = [x] /\ bs = [x']) (hk : K r ⟨h.blks.set n (some (c'.map (big1 n β))), bs, h.globs⟩) : ACall P f args' h K := by
 refine ⟨hf.1, fun σ cargs hi hrel => ?_⟩
 obtain ⟨b0, hb0, hat⟩ := hi.blk n cb hn
 have hinv := inv_small hi hn hb0 hit hc hok (bf := bf) (by
  rcases hbf with ⟨h1, h2, _⟩ | ⟨x, x', h1, h2, _, h4, _⟩
  ·exact .inl ⟨h1, h2⟩
  ·exact .inr ⟨0, x, h1, h2, by rw [h4]; rfl⟩) hgl
 have hrels : Rels (σ.small b0 β) args cargs.toList := by
  refine ⟨by rw [hrel.1, ← hargs]; simp, fun i av hav => ?_⟩
  have hoka1 := List.all_eq_true.1 hoka av (List.mem_of_getElem? hav)
  rw [← hargs] at hav
  simp only [List.getElem?_map, Option.map_eq_some_iff] at hav
  obtain ⟨a, ha, rfl⟩ := hav
  obtain ⟨x, h1, h2⟩ := hrel.2 i a ha
  exact ⟨x, h1, rel_smallA hb0 h2 hoka1⟩
 refine (hf.2 (σ.small b0 β) cargs hinv hrels).mono fun e w' hq => ?_
 obtain ⟨σ1, h1, av, x, rfl, rfl, hle, hi1, hrx, hav, rfl⟩ := hq
 have hb1 : σ1.blk 0 = some b0 := hle.blk 0 b0 rfl
 have hsub : ∀ b o, (σ.small b0 β).own b o -> σ.own b o := fun b o h => small_sub hb0 h
 -- the growing row, of both
 have hbuf1 : ∀ {id : Nat} {e : Buf}, (σ.big σ1 β).buf id = some e -> (β = some id /\ σ1.buf 0 = some e) ∨ (β ≠ some id /\ σ.buf id = some e) := by
  intro id e he
  simp only [Sg.big] at he
  split at he
  ·rename_i h0; exact .inl ⟨h0, he⟩
  ·rename_i h0; exact .inr ⟨h0, he⟩
 have hbufs : ∀ id e, β ≠ some id -> σ.buf id = some e -> β = none := by
  intro id e h0 he
  rcases hbf with ⟨h1, _⟩ | ⟨x, x', h1, _, _, h4, _⟩
  ·exact h1
  ·have := hi.bufdom id e he
   rw [h4] at this
   have hlt := (List.getElem?_eq_some_iff.1 this).1
   simp at hlt; subst hlt
   exact (h0 h1).elim
 have hown : ∀ b o, b < σ.w.heap.size -> (σ.big σ1 β).own b o -> σ.own b o := by
  rintro b o hb (⟨k, hk⟩ | ⟨id, e, he, hs⟩)
  ·exact .inl ⟨k, hk⟩
  ·rcases hbuf1 he with ⟨_, h2⟩ | ⟨_, h2⟩
   ·exact hsub b o (hle.own b o hb (.inr ⟨0, e, h2, hs⟩))
   ·exact .inr ⟨id, e, h2, hs⟩
 have hsize := hle.size
 have hopen : ∀ b o, (σ.big σ1 β).open_ b o -> σ1.open_ b o := by
  have side : ∀ b o, σ.open_ b o -> ¬ (σ.small b0 β).own b o -> σ1.open_ b o := fun b o h1 h2 => .inl (by rw [hle.outer]; exact ⟨h1, h2⟩)
  rintro b o (ho | ⟨k, hk⟩ | ⟨id, e, he, hs⟩)
  ·exact side b o (.inl ho) fun h => (hi.outer b o ho).2 (hsub b o h)
  ·rcases Classical.em (b = b0) with rfl | hne
   ·exact .inr (.inl ⟨0, hb1⟩)
   ·refine side b o (.inr (.inl ⟨k, hk⟩)) fun h => ?_
    rcases mine_own.1 (small_own.1 h) with h | ⟨id, e, _, he, hs⟩
    ·exact hne h
    ·exact hi.bufblk id e k b o he hs hk
  ·rcases hbuf1 he with ⟨_, h2⟩ | ⟨h1, h2⟩
   ·exact .inr (.inr ⟨0, e, h2, hs⟩)
   ·refine side b o (.inr (.inr ⟨id, e, h2, hs⟩)) fun h => ?_
    rcases mine_own.1 (small_own.1 h) with rfl | ⟨id', e', h1', he', hs'⟩
    ·exact hi.bufblk id e n _ o h2 hs hb0
    ·have := hi.bufinj id id' e e' b o h2 he' hs hs'
     subst this; exact h1 h1'
 have hLe : Le σ (σ.big σ1 β) := by
  refine ⟨fun k b hk => hk, fun id e he => ?_, rfl, fun b o hb ho => hle.cell b o hb fun h => ho (hsub b o h), hle.ext, fun b hb ho => hle.whole b hb fun o h => ho o (hsub b o h), hown, hsize, hle.os, hle.tape, hle.output⟩
  simp only [Sg.big]
  split
  ·rename_i h0
   exact hle.buf 0 e (by simp [Sg.small, Sg.mine, h0, he])
  ·exact ⟨e, he, Nat.le_refl _, rfl, fun _ => rfl⟩
 have hcb : cb ≠ [] := noIt_ne hit
 have hnlt : n < h.blks.length := (List.getElem?_eq_some_iff.1 hn).1
 have hnew : BlkAt (σ.big σ1 β) b0 (c'.map (big1 n β)) := by
  obtain ⟨b', g1, g2⟩ := hi1.blk 0 c' rfl
  rw [hb1] at g1; cases g1
  obtain ⟨cs, rest, elem, g3, g4⟩ := g2.plain hit'
  refine .cells _ cs rest elem g3 ⟨by rw [g4.1]; simp, fun i a hi => ?_⟩
  simp only [List.getElem?_map, Option.map_eq_some_iff] at hi
  obtain ⟨a', ha, rfl⟩ := hi
  obtain ⟨k1, y, k2, k3⟩ := g4.2 i a' ha
  exact ⟨by rw [big1_cell]; exact k1, y, k2, rel_big hb0 hb1 hopen k3 (List.all_eq_true.1 hok' a' (List.mem_of_getElem? ha))⟩
 have hitn : noIt (c'.map (big1 n β)) = true := noIt_map (big1_it n β) hit'
 -- a box of the new heap, in the old one
 have hold : ∀ {k : Nat} {cells : List AV}, (h.blks.set n (some (c'.map (big1 n β))))[k]? = some (some cells) -> (k = n /\ cells = c'.map (big1 n β)) ∨ (k ≠ n /\ h.blks[k]? = some (some cells)) := by
  intro k cells hk
  rcases Classical.em (n = k) with h0 | h0
  ·subst h0
   rw [List.getElem?_set_self hnlt] at hk
   simp only [Option.some.injEq] at hk
   exact .inl ⟨rfl, hk.symm⟩
  ·rw [List.getElem?_set_ne h0] at hk
   exact .inr ⟨fun h => h0 h.symm, hk⟩
 have hinv' : Inv ⟨h.blks.set n (some (c'.map (big1 n β))), bs, h.globs⟩ (σ.big σ1 β) := by
  refine ⟨fun k cells hk => ?_, fun k b hk => ?_, fun k m b c1 c2 hk hm hc1 hc2 hbk hbm => ?_, fun id y hy => ?_, fun id e he => ?_, fun id e he => ?_, fun id e b o he hs => ?_, fun i j e f b o he hf hs hs' => ?_, fun id e k b o he hs hk => ?_, fun b o ho => ?_, fun g cells hg => ?_⟩
  ·rcases hold hk with ⟨rfl, rfl⟩ | ⟨hne, hk'⟩
   ·exact ⟨b0, hb0, hnew⟩
   ·obtain ⟨b, g1, g2⟩ := hi.blk k cells hk'
    refine ⟨b, g1, ?_⟩
    rcases Classical.em (b = b0) with rfl | hb
    ·rcases Classical.em (cells = []) with rfl | hce
     ·exact hnew.nil hitn
     ·exact (hne (hi.inj k n _ cells cb hk' hn hce hcb g1 hb0)).elim
    ·refine g2.keep hLe (hle.whole b (hi.lt g1) fun o h => ?_)
     rcases mine_own.1 (small_own.1 h) with h | ⟨id, e, _, he, hs⟩
     ·exact hb h
     ·exact hi.bufblk id e k b o he hs g1
  ·obtain ⟨cc, g1⟩ := hi.dom k b hk
   show ∃ c, (h.blks.set n _)[k]? = some (some c)
   rcases Classical.em (n = k) with h0 | h0
   ·subst h0; rw [List.getElem?_set_self hnlt]; exact ⟨_, rfl⟩
   ·rw [List.getElem?_set_ne h0]; exact ⟨cc, g1⟩
  ·rcases hold hk with ⟨rfl, rfl⟩ | ⟨hne, hk'⟩ <;> rcases hold hm with ⟨rfl, rfl⟩ | ⟨hne2, hm'⟩
   ·rfl
   ·exact hi.inj _ _ b cb c2 hn hm' hcb hc2 hbk hbm
   ·exact hi.inj _ _ b c1 cb hk' hn hc1 hcb hbk hbm
   ·exact hi.inj _ _ b c1 c2 hk' hm' hc1 hc2 hbk hbm
  ·rcases hbf with ⟨h1, h2, h3, rfl⟩ | ⟨z, z', h1, h2, h3, h4, rfl⟩
   ·obtain ⟨e, g1, g2⟩ := hi.buf id y hy
    exact ⟨e, by simp only [Sg.big]; rw [if_neg (by rw [h1]; exact fun h => by cases h)]; exact g1, g2⟩
   ·cases id with
    | succ id => simp at hy
    | zero =>
     simp at hy; subst hy
     obtain ⟨e, g1, g2⟩ := hi1.buf 0 z' (by rw [h3]; rfl)
     exact ⟨e, by simp only [Sg.big]; rw [if_pos h1]; exact g1, g2⟩
  ·rcases hbuf1 he with ⟨g1, g2⟩ | ⟨g1, g2⟩
   ·have := hi1.bufdom 0 e g2
    rcases hbf with ⟨h1, _⟩ | ⟨z, z', h1, h2, h3, h4, rfl⟩
    ·rw [h1] at g1; cases g1
    ·rw [h1] at g1; cases g1
     subst h3
     exact this
   ·have hb := hbufs id e g1 g2
    rcases hbf with ⟨h1, h2, h3, rfl⟩ | ⟨z, z', h1, _⟩
    ·exact hi.bufdom id e g2
    ·rw [h1] at hb; cases hb
  ·rcases hbuf1 he with ⟨g1, g2⟩ | ⟨g1, g2⟩
   ·exact hi1.bufle 0 e g2
   ·exact hi.bufle id e g2
  ·rcases hbuf1 he with ⟨g1, g2⟩ | ⟨g1, g2⟩
   ·exact hi1.bufat 0 e b o g2 hs
   ·obtain ⟨g3, g4⟩ := hi.bufat id e b o g2 hs
    have hbn := hbufs id e g1 g2
    obtain ⟨v, hv⟩ := Option.isSome_iff_exists.1 g3
    have hw := hle.whole b (cell_lt hv) fun o' h => by
     rcases mine_own.1 (small_own.1 h) with rfl | ⟨id', e', h1', _⟩
     ·exact hi.bufblk id e n _ o g2 hs hb0
     ·rw [hbn] at h1'; cases h1'
    refine ⟨hle.ext b o g3, ?_⟩
    have hw' : σ1.w.heap[b]? = σ.w.heap[b]? := hw
    show σ1.w.frozen? ⟨b, o, none⟩ = false
    unfold World.frozen? at g4 ⊢
    simp only at g4 ⊢
    rw [hw']
    exact g4
  ·rcases hbuf1 he with ⟨g1, g2⟩ | ⟨g1, g2⟩ <;> rcases hbuf1 hf with ⟨k1, k2⟩ | ⟨k1, k2⟩
   ·rw [g1] at k1; cases k1; rfl
   ·have := hbufs j f k1 k2; rw [this] at g1; cases g1
   ·have := hbufs i e g1 g2; rw [this] at k1; cases k1
   ·exact hi.bufinj i j e f b o g2 k2 hs hs'
  ·have hk' : σ.blk k = some b := hk
   rcases hbuf1 he with ⟨g1, g2⟩ | ⟨g1, g2⟩
   ·rcases Classical.em (b = b0) with rfl | hne
    ·exact hi1.bufblk 0 e 0 _ o g2 hs hb1
    ·rcases mine_own.1 (small_own.1 (hle.own b o (hi.lt hk') (.inr ⟨0, e, g2, hs⟩))) with h | ⟨id', e', _, he', hs'⟩
     ·exact hne h
     ·exact hi.bufblk id' e' k b o he' hs' hk'
   ·exact hi.bufblk id e k b o g2 hs hk'
  ·have hb := (hi.outer b o ho).1
   exact ⟨Nat.lt_of_lt_of_le hb hsize, fun h => (hi.outer b o ho).2 (hown b o hb h)⟩
  ·exact (hi.glob g cells hg).mono hLe
 refine ⟨σ.big σ1 β, _, nz av, x, rfl, rfl, hLe, hinv', ?_, by rw [hav]; exact hk⟩
 exact hrx.nz.move (by rw [hav]; exact hr) rfl hopen
theorem Inv.reset {h : AHeap} {σ : Sg} (i1 : Inv h σ) {k : Nat} {c c' : List AV} (hk : h.blks[k]? = some (some c)) (hne : c ≠ []) (hat : ∀ b, BlkAt σ b c -> BlkAt σ b c') : Inv ⟨h.blks.set k (some c'), h.bufs, h.globs⟩ σ := by
 have hkl : k < h.blks.length := (List.getElem?_eq_some_iff.1 hk).1
 have hold : ∀ {j : Nat} {x : List AV}, (h.blks.set k (some c'))[j]? = some (some x) -> (j = k /\ x = c') ∨ (j ≠ k /\ h.blks[j]? = some (some x)) := by
  intro j x hj
  rcases Classical.em (k = j) with h0 | h0
  ·subst h0
   rw [List.getElem?_set_self hkl] at hj
   simp only [Option.some.injEq] at hj
   exact .inl ⟨rfl, hj.symm⟩
  ·rw [List.getElem?_set_ne h0] at hj
   exact .inr ⟨fun h => h0 h.symm, hj⟩
 refine ⟨fun n x hn => ?_, fun n b' hn => ?_, fun n m b' x y hn hm hx hy h1 h2 => ?_, i1.buf, i1.bufdom, i1.bufle, i1.bufat, i1.bufinj, i1.bufblk, i1.outer, i1.glob⟩
 ·rcases hold hn with ⟨rfl, rfl⟩ | ⟨_, hn'⟩
  ·obtain ⟨b, h1, h2⟩ := i1.blk _ c hk
   exact ⟨b, h1, hat b h2⟩
  ·exact i1.blk n x hn'
 ·obtain ⟨x, hx⟩ := i1.dom n b' hn
  show ∃ y, (h.blks.set k _)[n]? = some (some y)
  rcases Classical.em (k = n) with h0 | h0
  ·subst h0; rw [List.getElem?_set_self hkl]; exact ⟨_, rfl⟩
  ·rw [List.getElem?_set_ne h0]; exact ⟨x, hx⟩
 ·rcases hold hn with ⟨rfl, rfl⟩ | ⟨_, hn'⟩ <;> rcases hold hm with ⟨rfl, rfl⟩ | ⟨_, hm'⟩
  ·rfl
  ·exact i1.inj _ _ b' c y hk hm' hne hy h1 h2
  ·exact i1.inj _ _ b' x c hn' hk hx hne h1 h2
  ·exact i1.inj _ _ b' x y hn' hm' hx hy h1 h2
theorem rel_fin {σ : Sg} {a : AV} {x : Value} (hr : Rel σ a x) (hok : ok1 (smol1 0 (some 0) a) = true) : Rel σ (smol1 0 (some 0) a) x := by
 cases a with
 | nil => exact hr.nz1
 | sl els tok =>
  cases tok with
  | no => exact hr.nz1
  | full => exact hr.nz1
  | own id =>
   simp only [smol1]
   split
   ·rename_i hb; cases hb; exact hr
   ·exact hr.nz1
 | ptr k off =>
  simp only [smol1] at hok ⊢
  split at hok
  ·rename_i hk; subst hk; rw [if_pos rfl]; exact hr
  ·simp [ok1, plain] at hok
 | row k off size len cap =>
  simp only [smol1] at hok ⊢
  split at hok
  ·rename_i hk; subst hk; rw [if_pos rfl]; exact hr
  ·simp [ok1, plain] at hok
 | _ => exact hr
theorem fin_inv {h : AHeap} {σ : Sg} (hi : Inv h σ) {k : Nat} {c0 c' : List AV} (hk : h.blks[0]? = some (some c0)) (hit : noIt c0 = true) (hc : c0.map (smol1 0 (some 0)) = c') (hok : c'.all ok1 = true) (hlow : lowL [true] k c' = true) (hgl : plainG h.globs = true) : Inv ⟨[some c'], h.bufs.take k, h.globs⟩ (σ.cut [true] k) := by
 have h1 := hi.reset hk (noIt_ne hit) (c' := c') fun b hb => by
  obtain ⟨cs, rest, elem, g1, g2⟩ := hb.plain hit
  refine .cells _ cs rest elem g1 ⟨by rw [g2.1, ← hc]; simp, fun i av hav => ?_⟩
  have hok1 := List.all_eq_true.1 hok av (List.mem_of_getElem? hav)
  rw [← hc] at hav
  simp only [List.getElem?_map, Option.map_eq_some_iff] at hav
  obtain ⟨a, ha, rfl⟩ := hav
  obtain ⟨k1, x, k2, k3⟩ := g2.2 i a ha
  exact ⟨by rw [smol1_cell 0 _ a hok1]; exact k1, x, k2, rel_fin k3 hok1⟩
 have hkeep : keepB [true] (h.blks.set 0 (some c')) = [some c'] := by
  cases hb : h.blks with
  | nil => rw [hb] at hk; cases hk
  | cons x l => rfl
 have h2 := h1.cut [true] k (by rw [hkeep]; simpa [lowB] using hlow) hgl
 simp only [hkeep] at h2
 exact h2
def qio (k : Nat) (rs : List ARes) (r : AV) (c' : List AV) (bf' : List (Nat × Nat)) : Exit -> Env -> AHeap -> Prop
 | .normal, env, h => outs env h rs (fun l => nz (retv l) = r) /\ plain r = true /\ ∃ c0, h.blks[0]? = some (some c0) /\ noIt c0 = true /\ c0.map (smol1 0 (some 0)) = c' /\ c'.all ok1 = true /\ lowL [true] k c' = true /\ h.bufs.take k = bf' /\ h.globs = []
 | .ret, env, h => outs env h rs (fun l => nz (retv l) = r) /\ plain r = true /\ ∃ c0, h.blks[0]? = some (some c0) /\ noIt c0 = true /\ c0.map (smol1 0 (some 0)) = c' /\ c'.all ok1 = true /\ lowL [true] k c' = true /\ h.bufs.take k = bf' /\ h.globs = []
 | _, _, _ => False
theorem outs_and {env : Env} {h : AHeap} {p : Prop} (hp : p) : ∀ {rs : List ARes} {K : List AV -> Prop}, outs env h rs K -> outs env h rs fun l => K l /\ p := by
 intro rs
 induction rs with
 | nil => intro K hk; exact ⟨hk, hp⟩
 | cons x r ih =>
  intro K hk
  cases x with
  | tmp t =>
   obtain ⟨a, h1, h2⟩ := wv_some hk
   show wv (get env t) _
   rw [h1]
   exact ih h2
  | cell t n =>
   obtain ⟨p, h1, h2⟩ := wv_some hk
   show wv (get env t) _
   rw [h1]
   simp only [wv, loaded] at h2 ⊢
   split at h2
   ·split at h2
    ·split at h2
     ·exact ih h2
     ·exact h2.elim
    ·exact ⟨h2.1, ih h2.2⟩
   ·exact h2.elim
theorem f_io {P : Program} {N : Nat} {f : FuncId} {ac : ACode} {rs : List ARes} (hf : getFn P f = some (N, ac, rs)) {args c : List AV} {bf : List (Nat × Nat)} {r : AV} {c' : List AV} {bf' : List (Nat × Nat)} {e₀ : Env} (k : Nat) (hk : bf.length = k) (hn : args.length <= N) (he : envOf 0 args = e₀)
  (hbody : D P N 1 k ac (qio k rs r c' bf') e₀ ⟨[some c], bf, []⟩) : InOut P [] f args c bf r c' bf' := by
 subst he hk
 refine ⟨callable_of hf, fun σ cargs hi hr => ?_⟩
 have hlow : Low σ 1 bf.length := hi.low (Nat.le_refl _) (Nat.le_refl _)
 have hb : asem P N ac (fnPost rs fun av h => nz av = r /\ plain r = true /\ ∃ c0, h.blks[0]? = some (some c0) /\ noIt c0 = true /\ c0.map (smol1 0 (some 0)) = c' /\ c'.all ok1 = true /\ lowL [true] bf.length c' = true /\ h.bufs.take bf.length = bf' /\ h.globs = []) (envOf 0 args) ⟨[some c], bf, []⟩ := by
  refine asem_mono (asem_of_d (Nat.le_refl _) (Nat.le_refl _) hbody) fun e env h hq => ?_
  cases e <;> first | exact hq.elim | exact outs_and hq.2 hq.1
 refine (fn_calls hf hn hb σ cargs hi hr).mono fun e w' hq => ?_
 obtain ⟨σ', h', av, x, rfl, rfl, g2, g3, g4, g5, g6, c0, g7, g8, g9, g10, g11, g12, g13⟩ := hq
 refine ⟨σ'.cut [true] bf.length, ⟨[some c'], bf', []⟩, nz av, x, rfl, rfl, g2.cut hlow (fun k hk => ?_) (Nat.le_refl _), ?_, ?_, by rw [nz_nz]; exact g5, rfl⟩
 ·cases k with
  | zero => rfl
  | succ k => omega
 ·have := fin_inv g3 (k := bf.length) g7 g8 g9 g10 g11 (by rw [g13]; rfl)
  rw [g12, g13] at this
  exact this
 ·exact g4.nz.move (by rw [g5]; exact g6) rfl fun b o h => cut_open h
theorem rio {rs : List ARes} {k : Nat} {R : Type} {f : R -> AV} {fc : R -> List AV} {fb : R -> List (Nat × Nat)} {r r0 : R} {env : Env} {h : AHeap} (hw : r = r0) (hp : plain (f r0) = true /\ (fc r0).all ok1 = true /\ lowL [true] k (fc r0) = true) (c0 : List AV) (he : (outsF env h rs).map (fun l => nz (retv l)) = some (f r0) := by kernel_rfl) (hb : h.blks[0]? = some (some c0) := by kernel_rfl) (hit : noIt c0 = true := by kernel_rfl) (hc : c0.map (smol1 0 (some 0)) = fc r0 := by kernel_rfl) (hf : h.bufs.take k = fb r0 := by kernel_rfl) (hg : h.globs = [] := by kernel_rfl) : qio k rs (f r) (fc r) (fb r) .ret env h := by
 subst hw
 obtain ⟨l, h1, h2⟩ := Option.map_eq_some_iff.1 he
 exact ⟨outsF_ok h1 h2, hp.1, c0, hb, hit, hc, hp.2.1, hp.2.2, hf, hg⟩
theorem rion {rs : List ARes} {k : Nat} {R : Type} {f : R -> AV} {fc : R -> List AV} {fb : R -> List (Nat × Nat)} {r r0 : R} {env : Env} {h : AHeap} (hw : r = r0) (hp : plain (f r0) = true /\ (fc r0).all ok1 = true /\ lowL [true] k (fc r0) = true) (c0 : List AV) (he : (outsF env h rs).map (fun l => nz (retv l)) = some (f r0) := by kernel_rfl) (hb : h.blks[0]? = some (some c0) := by kernel_rfl) (hit : noIt c0 = true := by kernel_rfl) (hc : c0.map (smol1 0 (some 0)) = fc r0 := by kernel_rfl) (hf : h.bufs.take k = fb r0 := by kernel_rfl) (hg : h.globs = [] := by kernel_rfl) : qio k rs (f r) (fc r) (fb r) .normal env h := rio hw hp c0 he hb hit hc hf hg
theorem km_io {k : Nat} {rs : List ARes} {r : AV} {c' : List AV} {bf' : List (Nat × Nat)} : KMono fun e h => qio k rs r c' bf' .normal e h := fun e env h he hx => ⟨outs_less he hx.1, hx.2⟩
theorem x_io {P : Program} {g : FuncId} {env : Env} {args : List AOpd} {h : AHeap} {small c c' : List AV} {bf bf' bs : List (Nat × Nat)} {r : AV} (n : Nat) (β : Option Nat) (args' cb cn : List AV) (hf : InOut P h.globs g small c bf r c' bf') (hp : c.all ok1 = true /\ c'.all ok1 = true /\ small.all okA = true /\ plain r = true)
  (hbf : (β = none /\ bf = [] /\ bf' = [] /\ bs = h.bufs) ∨ ∃ x x', β = some 0 /\ bf = [x] /\ bf' = [x'] /\ h.bufs = [x] /\ bs = [x'])
  (ha : evs env args = some args' := by kernel_rfl) (hn : h.blks[n]? = some (some cb) := by kernel_rfl) (hit : noIt cb = true := by kernel_rfl) (hit' : noIt c' = true := by kernel_rfl) (hc : cb.map (smol1 n β) = c := by kernel_rfl) (hargs : args'.map (smol n β) = small := by kernel_rfl) (hcn : c'.map (big1 n β) = cn := by kernel_rfl) (hgl : plainG h.globs = true := by kernel_rfl) :
  Does P (.call (.c (.clo (.func g) [] [])) args) env h r ⟨h.blks.set n (some cn), bs, h.globs⟩ := by
 subst hcn
 exact fun K hk => (a_call rfl ha (io_call hf hgl hn hit hc hp.1 hit' hp.2.1 hargs hp.2.2.1 hp.2.2.2 hbf hk)).out
theorem okA_plain {a : AV} (h : plain a = true) : okA a = true := by
 have one : ∀ {a : AV}, plain a = true -> ok1 a = true := by
  intro a h
  cases a with
  | sl els tok => cases tok with
   | own id => simp [plain] at h
   | _ => exact h
  | ptr k off => cases h
  | row k off size len cap => cases h
  | _ => exact h
 cases a with
 | agg cs =>
  simp only [plain] at h
  exact List.all_eq_true.2 fun x hx => by
   obtain ⟨i, hi⟩ := List.mem_iff_getElem?.1 hx
   exact one (plainL_get h i x hi)
 | sl els tok => exact one h
 | ptr k off => cases h
 | row k off size len cap => cases h
 | v x => exact one h
 | elt c o => exact one h
 | nil => exact one h
 | tuple vs => exact one h
 | iface t x => exact one h
 | clo f a b => exact one h
 | glob n => exact one h
 | it s p => exact one h
theorem okcons {a : AV} {l : List AV} (h1 : okA a = true) (h2 : l.all okA = true) : (a :: l).all okA = true := by simp only [List.all_cons, h1, h2]; rfl
abbrev tqi (k : Nat) (P : Program) (N : Nat) (y : ACode) (Q : Exit -> Env -> AHeap -> Prop) : Exit -> Env -> AHeap -> Prop := thenA (fun e h => D P N 1 k y Q e h) Q
abbrev tli (k : Nat) (P : Program) (N : Nat) (y : ACode) (Q : Exit -> Env -> AHeap -> Prop) : Exit -> Env -> AHeap -> Prop := thenA (fun e h => DL P N 1 k y Q e h) Q
section
variable {P : Program} {h h' : AHeap} {env e : Env} {N kf : Nat} {Q : Exit -> Env -> AHeap -> Prop} {x : ACode}
theorem keep1 {m : List Bool} (hm : m.getD 0 false = true) : ∀ k, k < 1 -> m.getD k false = true := fun k hk => by
 cases k with
 | zero => exact hm
 | succ k => omega
end
def cellsOf {α : Type} (e : α -> List AV) (l : List α) : List AV := (l.map e).flatten
section
variable {α : Type} {e : α -> List AV} {sz : Nat}
theorem cellsOf_sz (hs : ∀ y, (e y).length = sz) {l : List α} : ∀ r ∈ l.map e, r.length = sz := by
 intro r hr
 obtain ⟨y, _, rfl⟩ := List.mem_map.1 hr
 exact hs y
theorem cellsOf_len (hs : ∀ y, (e y).length = sz) : ∀ (l : List α), (cellsOf e l).length = l.length * sz
 | [] => by simp [cellsOf]
 | y :: l => by
  have := cellsOf_len hs l
  simp only [cellsOf, List.map_cons, List.flatten_cons, List.length_append, List.length_cons, Nat.add_mul] at this ⊢
  rw [hs, this]; omega
theorem cellsOf_ni (hn : ∀ y, noIt (e y) = true) : ∀ {l : List α}, l ≠ [] -> noIt (cellsOf e l) = true
 | [], h => (h rfl).elim
 | y :: l, _ => by
  have := hn y
  cases hy : e y with
  | nil => rw [hy] at this; cases this
  | cons a r => rw [hy] at this; simp only [cellsOf, List.map_cons, List.flatten_cons, hy, List.cons_append, noIt] at this ⊢; exact this
theorem some_ne {l : List α} {i : Nat} {y : α} (hy : l[i]? = some y) : l ≠ [] := by rintro rfl; simp at hy
theorem cellsOf_take (hs : ∀ y, (e y).length = sz) : ∀ {l : List α} {i : Nat} {y : α}, l[i]? = some y -> ((cellsOf e l).drop (i * sz)).take sz = e y
 | [], i, y, h => by simp at h
 | z :: l, 0, y, h => by
  simp at h; subst h
  simp only [cellsOf, List.map_cons, List.flatten_cons, Nat.zero_mul, List.drop_zero]
  rw [List.take_append_of_le_length (by rw [hs]; exact Nat.le_refl _), List.take_of_length_le (by rw [hs]; exact Nat.le_refl _)]
 | z :: l, i + 1, y, h => by
  have := cellsOf_take hs (l := l) (i := i) (y := y) (by simpa using h)
  simp only [cellsOf, List.map_cons, List.flatten_cons] at this ⊢
  have h2 : (e z ++ (List.map e l).flatten).drop ((i + 1) * sz) = ((List.map e l).flatten).drop (i * sz) := by
   have h3 := hs z
   rw [List.drop_append, h3, List.drop_of_length_le (by rw [h3, Nat.add_mul]; omega), List.nil_append]
   congr 1
   rw [Nat.add_mul]; omega
  rw [h2]
  exact this
theorem cellsOf_set (hs : ∀ y, (e y).length = sz) : ∀ {l : List α} {i : Nat} {z : α}, i < l.length -> splice (cellsOf e l) (i * sz) (e z) = cellsOf e (l.set i z)
 | [], i, z, h => by simp at h
 | y :: l, 0, z, h => by
  simp only [splice, cellsOf, List.map_cons, List.flatten_cons, Nat.zero_mul, List.take_zero, List.nil_append, Nat.zero_add, List.set_cons_zero]
  rw [hs, List.drop_append_of_le_length (by rw [hs]; exact Nat.le_refl _), List.drop_of_length_le (by rw [hs]; exact Nat.le_refl _), List.nil_append]
 | y :: l, i + 1, z, h => by
  have := cellsOf_set hs (l := l) (i := i) (z := z) (by simpa using h)
  simp only [splice, cellsOf, List.map_cons, List.flatten_cons, List.set_cons_succ] at this ⊢
  rw [← this, Nat.add_mul, Nat.one_mul, Nat.add_comm (i * sz) sz]
  have h1 : (e y ++ (List.map e l).flatten).take (sz + i * sz) = e y ++ ((List.map e l).flatten).take (i * sz) := by
   have := hs y
   rw [List.take_append, this, List.take_of_length_le (by omega)]; congr 2; omega
  have h2 : (e y ++ (List.map e l).flatten).drop (sz + i * sz + (e z).length) = ((List.map e l).flatten).drop (i * sz + (e z).length) := by
   have := hs y
   rw [List.drop_append, this, List.drop_of_length_le (by omega), List.nil_append]; congr 1; omega
  rw [h1, h2]; simp [List.append_assoc]
end
section
variable {P : Program} {h h' : AHeap} {env : Env} {α : Type} {e : α -> List AV} {sz : Nat}
theorem x_ridx {x i : AOpd} (r len cap : Nat) {n : Int} (h0 : 0 <= n /\ n < (len : Int)) (hx : x.ev env = some (.row r 0 sz len cap) := by kernel_rfl) (hi : intOf (i.ev env) = some n := by kernel_rfl) : Does P (.idxSl sz x i) env h (.ptr r (0 + n.toNat * sz)) h := by
 obtain ⟨k, hi⟩ := intOf_some hi
 intro K hk
 simp only [aop, hx, hi, wv, indexed]
 exact ⟨h0, trivial, hk⟩
theorem place_row {r off : Nat} {l : List α} (hn : ∀ y, noIt (e y) = true) (hb : h.blks[r]? = some (some (cellsOf e l))) (hl : l ≠ []) : place h (.ptr r off) = some (cellsOf e l, off) := by
 simp only [place, hb, cellsOf_ni hn hl, if_true]
theorem x_rldn {x : AOpd} {r off i : Nat} {l : List α} {y : α} {cs : List AV} (hs : ∀ y, (e y).length = sz) (hn : ∀ y, noIt (e y) = true) (hy : l[i]? = some y) (hcs : e y = cs) (hoff : off = i * sz) (hx : x.ev env = some (.ptr r off) := by kernel_rfl) (hb : h.blks[r]? = some (some (cellsOf e l)) := by kernel_rfl) : Does P (.load (some sz) x) env h (.agg cs) h := by
 intro K hK
 subst hcs
 simp only [aop, hx, wv, loaded, place_row hn hb (some_ne hy)]
 rw [hoff, cellsOf_take hs hy]
 refine ⟨?_, hK⟩
 rw [cellsOf_len hs, ← Nat.succ_mul]
 exact Nat.mul_le_mul_right sz (List.getElem?_eq_some_iff.1 hy).1
theorem x_rst {p x : AOpd} {r off i : Nat} {l : List α} {av : AV} (z : α) (hs : ∀ y, (e y).length = sz) (hn : ∀ y, noIt (e y) = true) (hi : i < l.length) (hav : e z = av.cells) (hoff : off = i * sz) (hp : p.ev env = some (.ptr r off) := by kernel_rfl) (hx : x.ev env = some av := by kernel_rfl) (ht : av.isTuple = false := by kernel_rfl) (hb : h.blks[r]? = some (some (cellsOf e l)) := by kernel_rfl) : Does P (.store sz p x) env h (.tuple []) ⟨h.blks.set r (some (cellsOf e (l.set i z))), h.bufs, h.globs⟩ := by
 intro K hK
 have hne : l ≠ [] := by rintro rfl; simp at hi
 simp only [aop, hp, hx, wv, stored, hb, cellsOf_ni hn hne]
 rw [← cellsOf_set hs hi, hav, ← hoff] at hK
 refine ⟨⟨trivial, by rw [← hav]; exact hs z, ?_, ht⟩, hK⟩
 rw [hoff, cellsOf_len hs, ← Nat.succ_mul]
 exact Nat.mul_le_mul_right sz hi
end
section
variable {P : Program} {h : AHeap} {env : Env} {K : Env -> AHeap -> Prop} {L : List AOper} {k : Nat}
theorem vx {d : Nat} {x : AOpd} (hl : L[k]? = some ⟨some d, .next x, none⟩) (n : Nat) (s : ByteArray) (p : Nat) (h1 : p < s.size -> Vp P L (k + 1) ((d, .tuple [.v (.bool true), .v (.int .i64 p), .v (.int .i32 (Utf8.decode s p).1)]) :: env) ⟨h.blks.set n (some [.it s (p + (Utf8.decode s p).2)]), h.bufs, h.globs⟩ K) (h2 : ¬ p < s.size -> Vp P L (k + 1) ((d, .tuple [.v (.bool false)]) :: env) h K) (hx : x.ev env = some (.ptr n 0) := by kernel_rfl) (hb : h.blks[n]? = some (some [.it s p]) := by kernel_rfl) : Vp P L k env h K := by
 rcases Nat.lt_or_ge p s.size with hp | hp
 ·refine vp_opg hl rfl (h' := ⟨h.blks.set n (some [.it s (p + (Utf8.decode s p).2)]), h.bufs, h.globs⟩) (fun K hk => ?_) rfl rfl (h1 hp)
  simp only [aop, hx, wv, nexted, hb]
  exact ⟨fun _ => hk, fun hn => (hn hp).elim⟩
 ·refine vp_opg hl rfl (h' := h) (fun K hk => ?_) rfl rfl (h2 (Nat.not_lt.2 hp))
  simp only [aop, hx, wv, nexted, hb]
  exact ⟨fun hn => (Nat.not_lt.2 hp hn).elim, fun _ => hk⟩
end
def rfz (n : Nat) (els : List (List AV)) : AV -> AV
 | .row k off size len cap => if k = n then .sl els .no else .row k off size len cap
 | a => a
def rfzE (n : Nat) (els : List (List AV)) : Env -> Env
 | [] => []
 | (t, a) :: e => (t, rfz n els a) :: rfzE n els e
theorem rfzE_get {n : Nat} {els : List (List AV)} : ∀ {e : Env} {t : Nat} {b : AV}, get (rfzE n els e) t = some b -> ∃ a, get e t = some a /\ b = rfz n els a
 | [], _, _, h => by cases h
 | (u, a) :: e, t, b, h => by
  simp only [rfzE, get] at h ⊢
  split at h
  ·rename_i hu; rw [if_pos hu]; cases h; exact ⟨a, rfl, rfl⟩
  ·rename_i hu; rw [if_neg hu]; exact rfzE_get h
def rowsOf (n : Nat) : Env -> List (Nat × Nat × Nat)
 | [] => []
 | (_, .row k off size len _) :: e => if k = n then (off, size, len) :: rowsOf n e else rowsOf n e
 | _ :: e => rowsOf n e
theorem rowsOf_get {n : Nat} : ∀ {e : Env} {t off size len cap : Nat}, get e t = some (.row n off size len cap) -> (off, size, len) ∈ rowsOf n e
 | [], _, _, _, _, _, h => by cases h
 | (u, a) :: e, t, off, size, len, cap, h => by
  simp only [get] at h
  split at h
  ·cases h; simp [rowsOf]
  ·have := rowsOf_get h
   unfold rowsOf
   split
   ·rename_i heq; cases heq
   ·rename_i heq; cases heq; split
    ·exact List.mem_cons_of_mem _ this
    ·exact this
   ·rename_i heq; cases heq; exact this
theorem d_rfreeze {P : Program} {h : AHeap} {env : Env} {N kb kf : Nat} {Q : Exit -> Env -> AHeap -> Prop} {x : ACode} (n : Nat) (m : List Bool) (k : Nat) (cells : List AV) (els : List (List AV)) (sz len c : Nat) (hb : h.blks[n]? = some (some cells)) (hce : els.flatten = cells) (hsz : ∀ el ∈ els, el.length = sz) (hlen : els.length = len) (hpos : 0 < sz) (hit : els ≠ [] -> noIt cells = true) (hrow : rowsOf n env = List.replicate c (0, sz, len)) (hmn : m.getD n false = false) (hal : alive m h.blks = true) (hm : ∀ k, k < kb -> m.getD k false = true) (hn : kf <= k)
  {e : Env} (hE : rfzE n els env = e) (he : lowE m k e = true) (hB : lowB m k (keepB m h.blks) = true) (hg : plainG h.globs = true) (hx : D P N kb kf x Q e ⟨keepB m h.blks, h.bufs.take k, h.globs⟩) : D P N kb kf x Q env h := ⟨by
 subst hE
 intro co hc σ0 σ a hs hle hl
 refine hx.out co hc σ0 (σ.cut m k) a ⟨hs.inv.cut m k hB hg, fun t av ht => ?_, hs.size, hs.defers⟩ (hle.cut hl hm hn) hl
 have hlow := lowE_get he ht
 obtain ⟨a0, h1, rfl⟩ := rfzE_get ht
 obtain ⟨y, h2, h3⟩ := hs.env t a0 h1
 refine ⟨y, h2, ?_⟩
 cases a0 with
 | row j off size len' cap =>
  simp only [rfz] at hlow ⊢
  split at hlow
  ·rename_i hj
   subst hj
   rw [if_pos rfl]
   have hrr := rowsOf_get h1
   rw [hrow] at hrr
   obtain ⟨rfl, rfl, rfl⟩ : off = 0 /\ size = sz /\ len' = len := by simpa using (List.mem_replicate.1 hrr).2
   cases h3 with
   | row _ _ _ _ _ b cap' hblk hcap _ _ =>
   obtain ⟨b', h4, h5⟩ := hs.inv.blk j cells hb
   rw [hblk] at h4; cases h4
   subst hlen
   rcases Classical.em (els = []) with h0 | h0
   ·subst h0; exact .slx _ ⟨b, 0, none⟩ cap' trivial (.inl rfl)
   have hni := hit h0
   obtain ⟨cs, rest, elem, h6, h7⟩ := h5.plain hni
   have hlc : lowLL m k els = true := by simpa [low] using hlow
   have key : ∀ (i : Nat) (el : List AV), els[i]? = some el -> ∀ (q : Nat) (av : AV), el[q]? = some av -> ∃ xv, σ.w.cell? ⟨b, 0 + i * size + q, none⟩ = some xv /\ Rel σ av xv /\ av.isCell = true := by
    intro i el hi q av hq
    have hql : q < size := by rw [← hsz el (List.mem_of_getElem? hi)]; exact (List.getElem?_eq_some_iff.1 hq).1
    have hf := flat_get els hsz i q hql
    rw [hi, Option.bind_some, hq, hce] at hf
    obtain ⟨q1, xv, q2, q3⟩ := h7.2 _ av hf
    refine ⟨xv, ?_, q3, q1⟩
    have hlt := (List.getElem?_eq_some_iff.1 q2).1
    rw [Nat.zero_add]
    simp [World.cell?, h6, List.getElem?_append_left hlt, q2]
   have hne : cells ≠ [] := noIt_ne hni
   refine Rel.sl (σ := σ.cut m k) els .no b 0 cap' size (fun i q => (σ.w.cell? ⟨b, 0 + i * size + q, none⟩).getD undef) (fun i el hi => hsz el (List.mem_of_getElem? hi)) hcap trivial (fun id e hid => by cases hid) (fun i el hi q av hq => ?_) fun i el hi q av hq => ?_
   ·obtain ⟨xv, q1, q2, q3⟩ := key i el hi q av hq
    refine ⟨by show σ.w.cell? _ = _; rw [q1]; rfl, ?_, q3⟩
    rintro (ho | ⟨j', hj'⟩ | ⟨id, eb, he1, he2⟩)
    ·exact (hs.inv.outer _ _ ho).2 (.inl ⟨j, hblk⟩)
    ·simp only [Sg.cut] at hj'
     split at hj'
     ·rename_i hmj
      obtain ⟨c', hc'⟩ := hs.inv.dom j' b hj'
      have := hs.inv.inj j' j b c' cells hc' hb (alive_get hal hmj hc') hne hj' hblk
      subst this
      rw [hmn] at hmj; cases hmj
     ·cases hj'
    ·simp only [Sg.cut] at he1
     split at he1
     ·exact hs.inv.bufblk id eb j b _ he1 he2 hblk
     ·cases he1
   ·obtain ⟨xv, q1, q2, q3⟩ := key i el hi q av hq
    rw [q1]
    exact q2.cut (lowL_get (lowLL_get hlc i el hi) q av hq)
  ·rename_i hj
   rw [if_neg hj]
   exact h3.cut hlow
 | _ => exact h3.cut hlow⟩
theorem drf {P : Program} {h : AHeap} {env : Env} {N kb kf : Nat} {Q : Exit -> Env -> AHeap -> Prop} {x : ACode} {α : Type} {f : α -> List AV} {sz : Nat} (n : Nat) (m : List Bool) (k c : Nat) (l : List α) (len : Nat) (e : Env) (bs : List (Option (List AV))) (hs : ∀ y, (f y).length = sz) (hni : ∀ y, noIt (f y) = true) (hlen : l.length = len) (hw : lowE m k e = true /\ lowB m k bs = true) (hx : D P N kb kf x Q e ⟨bs, h.bufs.take k, h.globs⟩) (hb : h.blks[n]? = some (some (cellsOf f l)) := by kernel_rfl) (hpos : Nat.ble 1 sz = true := by kernel_rfl) (hrow : rowsOf n env = List.replicate c (0, sz, len) := by kernel_rfl) (hmn : m.getD n false = false := by kernel_rfl) (hal : alive m h.blks = true := by kernel_rfl) (hm : ∀ k, k < kb -> m.getD k false = true := by intro k hk; first | exact absurd hk (Nat.not_lt_zero _) | exact keep1 rfl k hk) (hkf : Nat.ble kf k = true := by kernel_rfl) (hE : rfzE n (List.map f l) env = e := by kernel_rfl) (hbs : keepB m h.blks = bs := by kernel_rfl) (hg : plainG h.globs = true := by kernel_rfl) : D P N kb kf x Q env h := by
 subst hbs
 exact d_rfreeze n m k _ (List.map f l) sz len c hb rfl (cellsOf_sz hs) (by rw [List.length_map]; exact hlen) (Nat.le_of_ble_eq_true hpos) (fun h0 => cellsOf_ni hni (fun h => h0 (by rw [h]; rfl))) hrow hmn hal hm (Nat.le_of_ble_eq_true hkf) hE hw.1 hw.2 hg hx
def statL (ord : List (List Nat)) (al : List AOper) (n : Nat) : Bool :=
 (List.range n).all fun i => match al[i]? with
  | some o => quietOp o.op && !isNew o && (pureOp o.op || (ord.getD n []).contains i)
  | none => false
theorem statL_get {ord : List (List Nat)} {al : List AOper} {n i : Nat} {o : AOper} (h : statL ord al n = true) (hi : i < n) (ho : al[i]? = some o) : quietOp o.op = true /\ isNew o = false /\ (pureOp o.op = true ∨ i ∈ ord.getD n []) := by
 simp only [statL, List.all_eq_true, List.mem_range] at h
 have := h i hi
 rw [ho] at this
 simpa [Bool.and_eq_true, Bool.or_eq_true, and_assoc] using this
theorem okq_take {a b : List AOper} (h : okq (a ++ b) = true) : okq a = true := by
 induction a with
 | nil => rfl
 | cons o a ih =>
  simp only [List.cons_append, okq, Bool.and_eq_true, List.all_eq_true] at h ⊢
  have sub : ∀ t, writes t (o :: a) = true -> writes t (o :: (a ++ b)) = true := by
   intro t ht
   simp only [writes, List.any_cons, List.any_append, Bool.or_eq_true] at ht ⊢
   rcases ht with h1 | h1
   ·exact .inl h1
   ·exact .inr (.inl h1)
  have sub2 : ∀ t, writes t a = true -> writes t (a ++ b) = true := by
   intro t ht
   simp only [writes, List.any_append, Bool.or_eq_true] at ht ⊢
   exact .inl ht
  refine ⟨⟨fun t ht => ?_, ?_⟩, ih h.2⟩
  ·have := h.1.1 t ht
   cases hw : writes t (o :: a) with
   | true => rw [sub t hw] at this; exact this
   | false => rfl
  ·cases hd : o.dst with
   | none => rfl
   | some d =>
    have h2 := h.1.2
    rw [hd] at h2
    simp only at h2 ⊢
    cases hw : writes d a with
    | true => rw [sub2 d hw] at h2; exact h2
    | false => rfl
theorem hA_nil (h : AHeap) (lst : Nat -> Bool) : hA h [] lst = h := by simp [hA]
theorem noise_L {P : Program} {I : AHeap -> Prop} {ord : List (List Nat)} {al : List AOper} {w : AOper} {n : Nat} {env : Env} {h : AHeap} {K : Env -> AHeap -> Prop} (hn : al.length = n + 1) (hw : al[n]? = some w) (hg : w.guard = none) (hd : w.dst = none) (hok : okq al = true) (hst : statL ord al n = true) (hI : I h)
  (hv : vs P I false (al.take n) env h fun F h0 => ∃ av h', Does P w.op F h0 av h' /\ K F h') : ∃ F h' fl, Noise P ord al env F h h' [] [h, h'] fl /\ K F h' := by
 have hal : al = al.take n ++ [w] := by
  have h1 := List.take_append_drop n al
  have h2 : al.drop n = [w] := by
   have : n < al.length := by omega
   rw [List.drop_eq_getElem_cons this]
   have h3 := List.getElem?_eq_getElem this
   rw [hw] at h3; cases h3
   rw [List.drop_eq_nil_of_le (by omega)]
  rw [h2] at h1; exact h1.symm
 have hlen : (al.take n).length = n := by simp; omega
 obtain ⟨F, az, hs, fl, h0, ps, ⟨av, h', hdoes, hk⟩, hnil⟩ := vs_pass (i0 := 0) (j := 0) (okq_take (b := [w]) (by rw [← hal]; exact hok)) hv
 have has : az = [] := hnil rfl
 subst has
 have hget : ∀ i, i < n -> ∃ o, al[i]? = some o /\ (al.take n)[i]? = some o := fun i hi => ⟨al[i], List.getElem?_eq_getElem (by omega), by rw [List.getElem?_take, if_pos hi]; exact List.getElem?_eq_getElem (by omega)⟩
 have hflen : fl.length = n := by rw [ps.len, hlen]
 have hnone : ∀ i, i < n -> fl[i]? = some none := by
  intro i hi
  have e : fl[i]? = some fl[i] := List.getElem?_eq_getElem (by omega)
  cases hf : fl[i] with
  | none => rw [e, hf]
  | some m =>
   rw [hf] at e
   obtain ⟨o, h1, h2⟩ := hget i hi
   have h3 := (ps.chg i m o e h2).1
   have h4 := (statL_get hst hi h1).1
   rw [h3] at h4; cases h4
 obtain ⟨m, hm1, hm2⟩ := ps.last
 have hone : m = 0 := by
  rcases Nat.eq_zero_or_pos m with h1 | h1
  ·exact h1
  ·obtain ⟨i, hi⟩ := ps.onto 0 (Nat.zero_le _) (by omega)
   have hlt : i < n := by rw [← hflen]; exact (List.getElem?_eq_some_iff.1 hi).1
   rw [hnone i hlt] at hi; cases hi
 subst hone
 have hf0 := ps.first
 rw [hm2] at hf0
 have h00 : h0 = h := by
  have := Option.some.inj hf0
  rw [this]; simp
 subst h00
 refine ⟨F, h', fl ++ [some 0], ?_, hk⟩
 have hfl : ∀ i x, (fl ++ [some 0])[i]? = some x -> (i < n /\ x = none) ∨ (i = n /\ x = some 0) := by
  intro i x hx
  rcases Nat.lt_trichotomy i n with h1 | h1 | h1
  ·rw [List.getElem?_append_left (by omega), hnone i h1] at hx
   cases hx; exact .inl ⟨h1, rfl⟩
  ·subst h1
   rw [List.getElem?_append_right (by omega), hflen, Nat.sub_self] at hx
   cases hx; exact .inr ⟨rfl, rfl⟩
  ·rw [List.getElem?_eq_none (by simp; omega)] at hx; cases hx
 have hlast : (fl ++ [some 0])[n]? = some (some 0) := by rw [List.getElem?_append_right (by omega), hflen, Nat.sub_self]; rfl
 refine ⟨by simp [hflen, hn], fun i k a b hik hi hk => ?_, fun j hj => ?_, ?_, ⟨1, rfl, rfl⟩, fun i x hi => ?_, fun t ht => ?_, fun q p hq => (by simp at hq), fun q r p s hq => (by simp at hq), fun k x hk p hp => (by cases hp), fun i o x hi hx => ?_⟩
 ·rcases hfl i _ hi with ⟨_, h1⟩ | ⟨h1, _⟩
  ·cases h1
  ·rcases hfl k _ hk with ⟨_, h2⟩ | ⟨h2, _⟩
   ·cases h2
   ·omega
 ·obtain rfl : j = 0 := by
   have : j + 1 < 2 := hj
   omega
  exact ⟨n, hlast⟩
 ·rw [hA_nil]; rfl
 ·rcases hfl i _ hi with ⟨_, h1⟩ | ⟨_, h1⟩
  ·cases h1
  ·cases h1; simp
 ·refine ps.keep t ?_
  rw [hal] at ht
  simp only [writes, List.any_append, Bool.or_eq_false_iff] at ht ⊢
  exact ht.1
 ·right
  rcases hfl i _ hx with ⟨h1, rfl⟩ | ⟨rfl, rfl⟩
  ·obtain ⟨o', e1, e2⟩ := hget i h1
   rw [hi] at e1; cases e1
   obtain ⟨hq, hnew, hp⟩ := statL_get hst h1 hi
   rcases ps.fact i o none e2 (hnone i h1) with ⟨q, p, e3, _⟩ | hf
   ·simp at e3
   have conv : DoesS P I F hs 0 o none -> DoesN P F h0 [] [h0, h'] ord (fl ++ [some 0]) i o none := by
    rintro ⟨a, hqa, hfd⟩
    rcases hp with hp | hp
    ·exact ⟨a, 0, 1, by simp, fun j lst hj _ _ _ => aopQ_pure hp (hqa h0 hI), fun k x _ hx => by omega, .inl (by simp), hfd⟩
    ·refine ⟨a, 0, 0, by simp, fun j lst hj h3 h4 h5 => ?_, fun k x _ hx => by omega, .inr ⟨n, hlast, hp⟩, hfd⟩
     have : j = 0 := by omega
     subst this
     have h6 : hA h0 [] lst = hj := Option.some.inj h5
     rw [hA_nil] at h6
     rw [← h6]; exact hqa h0 hI
   unfold FactN
   unfold FactS at hf
   cases hgd : o.guard with
   | none => rw [hgd] at hf; exact conv hf
   | some g =>
    obtain ⟨t, want⟩ := g
    rw [hgd] at hf
    rcases hf with ⟨b, k1, k2, k3⟩ | hf
    ·exact .inl ⟨b, k1, fun hb => conv (k2 hb), k3⟩
    ·exact .inr hf
  ·rw [hw] at hi; cases hi
   unfold FactN
   rw [hg]
   simp only
   exact ⟨av, h0, h', rfl, rfl, hdoes _ ⟨rfl, rfl⟩, fun d hd' => by rw [hd] at hd'; cases hd'⟩
theorem dL {P : Program} {N kb kf : Nat} {Q : Exit -> Env -> AHeap -> Prop} {env : Env} {h : AHeap} (n : Nat) (S : List (Nat × List AV)) {ord : List (List Nat)} {al tl : List AOper} {w : AOper} (hw : al[n]? = some w)
  (hv : Sp P S h.globs false (al.take n) 0 env h fun F h0 => ∃ av h', Does P w.op F h0 av h' /\ Vp P tl 0 F h' fun env' h'' => Q .normal env' h'')
  (hn : al.length = n + 1 := by kernel_rfl) (hg : w.guard = none := by kernel_rfl) (hd : w.dst = none := by kernel_rfl) (hok : okq al = true := by kernel_rfl) (hst : statL (clo ord) al n = true := by kernel_rfl) (hS : inS S h = S.map (fun p => some (some p.2)) := by kernel_rfl) : D P N kb kf (.drawn ord al tl) Q env h := by
 obtain ⟨F, h', fl, hn', hk⟩ := noise_L (I := InS S h.globs) (K := fun F h' => vd P tl F h' fun env' h'' => Q .normal env' h'') hn hw hg hd hok hst (InS_of hS rfl) hv
 exact d_of_c ⟨asem_drawnC hn' (vd_vops hk)⟩
theorem km_L {P : Program} {w : AOp} {tl : List AOper} {K1 : Env -> AHeap -> Prop} (hK : KMono K1) : KMono fun F h0 => ∃ av h', Does P w F h0 av h' /\ Vp P tl 0 F h' K1 := fun e env h he ⟨av, h', hd, hv⟩ => ⟨av, h', hd.less he, vd_less hK he hv⟩
structure RowE {α : Type} (e : α -> List AV) (sz : Nat) : Prop where
 hs : ∀ y, (e y).length = sz
 hn : ∀ y, noIt (e y) = true
 hp : ∀ y, plainL (e y) = true
 hz : ∀ y, (e y).map nz1 = e y
section
variable {α : Type} {e : α -> List AV} {sz : Nat}
theorem plainL_mem : ∀ {l : List AV}, plainL l = true -> ∀ a ∈ l, plain a = true
 | [], _, a, h => by cases h
 | b :: l, hp, a, h => by
  simp only [plainL, Bool.and_eq_true] at hp
  rcases List.mem_cons.1 h with h | h
  ·rw [h]; exact hp.1
  ·exact plainL_mem hp.2 a h
theorem smol1_same {n : Nat} {β : Option Nat} {a : AV} (hp : plain a = true) (hz : nz1 a = a) : smol1 n β a = a := by
 cases a with
 | nil => simp [nz1] at hz
 | sl els tok => cases tok <;> simp_all [nz1, smol1]
 | ptr _ _ => simp [plain] at hp
 | row _ _ _ _ _ => simp [plain] at hp
 | _ => rfl
theorem big1_same {n : Nat} {β : Option Nat} {a : AV} (hp : plain a = true) : big1 n β a = a := by
 cases a with
 | sl els tok => cases tok <;> first | rfl | simp_all [plain]
 | ptr _ _ => simp [plain] at hp
 | row _ _ _ _ _ => simp [plain] at hp
 | _ => rfl
theorem ok1_plain {a : AV} (hp : plain a = true) : ok1 a = true := by
 cases a with
 | sl els tok => cases tok <;> first | exact hp | simp_all [plain, ok1]
 | ptr _ _ => simp [plain] at hp
 | row _ _ _ _ _ => simp [plain] at hp
 | _ => exact hp
theorem RowE.mem (he : RowE e sz) {l : List α} {a : AV} (h : a ∈ cellsOf e l) : plain a = true /\ nz1 a = a := by
 unfold cellsOf at h
 obtain ⟨c, hc, ha⟩ := List.mem_flatten.1 h
 obtain ⟨y, _, rfl⟩ := List.mem_map.1 hc
 refine ⟨plainL_mem (he.hp y) a ha, ?_⟩
 obtain ⟨i, hi⟩ := List.mem_iff_getElem?.1 ha
 have := congrArg (fun l => l[i]?) (he.hz y)
 simpa [List.getElem?_map, hi] using this
theorem map_same {f : AV -> AV} {l : List AV} (h : ∀ a ∈ l, f a = a) : l.map f = l := by
 induction l with
 | nil => rfl
 | cons a l ih => rw [List.map_cons, h a List.mem_cons_self, ih fun b hb => h b (List.mem_cons_of_mem _ hb)]
theorem RowE.smol (he : RowE e sz) (n : Nat) (β : Option Nat) (l : List α) : (cellsOf e l).map (smol1 n β) = cellsOf e l := map_same fun a ha => smol1_same (he.mem ha).1 (he.mem ha).2
theorem RowE.big (he : RowE e sz) (n : Nat) (β : Option Nat) (l : List α) : (cellsOf e l).map (big1 n β) = cellsOf e l := map_same fun a ha => big1_same (he.mem ha).1
theorem RowE.ok (he : RowE e sz) (l : List α) : (cellsOf e l).all ok1 = true := List.all_eq_true.2 fun a ha => ok1_plain (he.mem ha).1
theorem lowL_of_plain (m : List Bool) (n : Nat) : ∀ {l : List AV}, plainL l = true -> lowL m n l = true := fun h => lowL_plain m n _ h
theorem plainL_of {l : List AV} (h : ∀ a ∈ l, plain a = true) : plainL l = true := by
 induction l with
 | nil => rfl
 | cons a l ih => simp only [plainL, Bool.and_eq_true]; exact ⟨h a List.mem_cons_self, ih fun b hb => h b (List.mem_cons_of_mem _ hb)⟩
theorem RowE.plain (he : RowE e sz) (l : List α) : plainL (cellsOf e l) = true := plainL_of fun a ha => (he.mem ha).1
def RowIO (P : Program) (e : α -> List AV) (sz : Nat) (f : FuncId) (len : Nat) (args : List AV) (l r : List α) : Prop := InOut P [] f (.row 0 0 sz len len :: args) (cellsOf e l) [] (.tuple []) (cellsOf e r) []
theorem f_rio {P : Program} {N : Nat} {f : FuncId} {ac : ACode} (hf : getFn P f = some (N, ac, [])) {len : Nat} {args : List AV} {l r : List α} {e₀ : Env} (hn : (AV.row 0 0 sz len len :: args).length <= N) (he : envOf 0 (.row 0 0 sz len len :: args) = e₀) (hbody : D P N 1 0 ac (qio 0 [] (.tuple []) (cellsOf e r) []) e₀ ⟨[some (cellsOf e l)], [], []⟩) : RowIO P e sz f len args l r := f_io hf 0 rfl hn he hbody
theorem rior {l r : List α} {env : Env} {h : AHeap} (he : RowE e sz) (hw : l ≠ [] /\ r = l) (hb : h.blks[0]? = some (some (cellsOf e l)) := by kernel_rfl) (hf : h.bufs.take 0 = [] := by kernel_rfl) (hg : h.globs = [] := by kernel_rfl) : qio 0 [] (.tuple []) (cellsOf e r) [] .ret env h := by
 obtain ⟨h1, rfl⟩ := hw
 exact rio (f := fun _ => .tuple []) (fc := fun r => cellsOf e r) (fb := fun _ => []) (r := r) rfl ⟨rfl, he.ok r, lowL_of_plain _ _ (he.plain r)⟩ (cellsOf e r) rfl hb (cellsOf_ni he.hn h1) (he.smol _ _ _) hf hg
theorem riorn {l r : List α} {env : Env} {h : AHeap} (he : RowE e sz) (hw : l ≠ [] /\ r = l) (hb : h.blks[0]? = some (some (cellsOf e l)) := by kernel_rfl) (hf : h.bufs.take 0 = [] := by kernel_rfl) (hg : h.globs = [] := by kernel_rfl) : qio 0 [] (.tuple []) (cellsOf e r) [] .normal env h := by
 obtain ⟨h1, rfl⟩ := hw
 exact rion (f := fun _ => .tuple []) (fc := fun r => cellsOf e r) (fb := fun _ => []) (r := r) rfl ⟨rfl, he.ok r, lowL_of_plain _ _ (he.plain r)⟩ (cellsOf e r) rfl hb (cellsOf_ni he.hn h1) (he.smol _ _ _) hf hg
theorem x_rio {P : Program} {g : FuncId} {env : Env} {args : List AOpd} {h : AHeap} {len : Nat} {small : List AV} {l r : List α} (n : Nat) (args' : List AV) (he : RowE e sz) (hf : RowIO P e sz g len small l r) (h0 : l ≠ [] /\ r ≠ []) (hok : small.all okA = true)
  (ha : evs env args = some args' := by kernel_rfl) (hn : h.blks[n]? = some (some (cellsOf e l)) := by kernel_rfl) (hargs : args'.map (smol n none) = .row 0 0 sz len len :: small := by kernel_rfl) (hgl : h.globs = [] := by kernel_rfl) :
  Does P (.call (.c (.clo (.func g) [] [])) args) env h (.tuple []) ⟨h.blks.set n (some (cellsOf e r)), h.bufs, h.globs⟩ := by
 have hf' : InOut P h.globs g (.row 0 0 sz len len :: small) (cellsOf e l) [] (.tuple []) (cellsOf e r) [] := by rw [hgl]; exact hf
 exact x_io n none args' (cellsOf e l) (cellsOf e r) hf' ⟨he.ok l, he.ok r, okcons rfl hok, rfl⟩ (.inl ⟨rfl, rfl, rfl, rfl⟩) ha hn (cellsOf_ni he.hn h0.1) (cellsOf_ni he.hn h0.2) (he.smol _ _ _) hargs (he.big _ _ _) (by rw [hgl]; rfl)
theorem y_rldn {P : Program} {S gl : List (Nat × List AV)} {env : Env} {x : AOpd} {r off i : Nat} {l : List α} {y : α} {cs : List AV} (hs : ∀ y, (e y).length = sz) (hn : ∀ y, noIt (e y) = true) (hy : l[i]? = some y) (hcs : e y = cs) (hoff : off = i * sz) (hS : (r, cellsOf e l) ∈ S) (hx : x.ev env = some (.ptr r off) := by kernel_rfl) : ∀ h2, InS S gl h2 -> Does P (.load (some sz) x) env h2 (.agg cs) h2 := fun h2 hi => x_rldn hs hn hy hcs hoff hx (hi.1 _ _ hS)
end
theorem bits_or_u64 (a b : Nat) (ha : a < 18446744073709551616) (hb : b < 18446744073709551616) : bitsOf .or .u64 (a : Int) (b : Int) = ((a ||| b : Nat) : Int) := by
 have h := Nat.or_lt_two_pow (n := 64) (x := a) (y := b) (by simpa using ha) (by simpa using hb)
 have e1 : ((a : Int) % (2 ^ 64 : Nat)).toNat = a := by omega
 have e2 : ((b : Int) % (2 ^ 64 : Nat)).toNat = b := by omega
 have e3 : bitsOf .or .u64 (a : Int) (b : Int) = IntKind.u64.wrap (((BitVec.ofInt 64 (a : Int) ||| BitVec.ofInt 64 (b : Int)).toNat : Nat) : Int) := rfl
 rw [e3, BitVec.toNat_or, BitVec.toNat_ofInt, BitVec.toNat_ofInt, e1, e2]
 simp only [IntKind.wrap, IntKind.signed, IntKind.bits, Bool.false_and, Bool.false_eq_true, if_false]
 omega
theorem or_add (u x k : Nat) (hu : u < 2 ^ k) : u ||| x * 2 ^ k = u + x * 2 ^ k := by
 have := Nat.two_pow_add_eq_or_of_lt (i := k) (b := u) hu x
 rw [Nat.or_comm, Nat.add_comm, Nat.mul_comm]; exact this.symm
theorem wrapI {n : Int} (h : -9223372036854775808 <= n /\ n <= 9223372036854775807) : IntKind.i64.wrap n = n := by simp [IntKind.wrap, IntKind.signed, IntKind.bits]; omega
theorem wrapU {n : Int} (h : 0 <= n /\ n <= 18446744073709551615) : IntKind.u64.wrap n = n := by simp [IntKind.wrap, IntKind.signed, IntKind.bits]; omega
theorem and_exp (a : Nat) : a &&& 9218868437227405312 = a % 9223372036854775808 / 4503599627370496 * 4503599627370496 := by
 apply Nat.eq_of_testBit_eq
 intro i
 have e : (9223372036854775808 : Nat) = 2 ^ 63 := by decide
 have e2 : (4503599627370496 : Nat) = 2 ^ 52 := by decide
 have e3 : (9218868437227405312 : Nat) = (2^11 - 1) * 2 ^ 52 := by decide
 rw [e3, e, e2, Nat.testBit_and, Nat.testBit_mul_two_pow, Nat.testBit_mul_two_pow, Nat.testBit_two_pow_sub_one, Nat.testBit_div_two_pow, Nat.testBit_mod_two_pow]
 by_cases h2 : 52 <= i
 ·rw [show i - 52 + 52 = i by omega]
  by_cases h3 : i < 63
  ·have : i - 52 < 11 := by omega
   simp [h2, h3, this]
  ·have : ¬ i - 52 < 11 := by omega
   simp [h3, this]
 ·simp [h2]
theorem bits_and_u64 (a b : Nat) (ha : a < 18446744073709551616) (hb : b < 18446744073709551616) : bitsOf .and .u64 (a : Int) (b : Int) = ((a &&& b : Nat) : Int) := by
 have h : a &&& b <= a := Nat.and_le_left
 have e1 : ((a : Int) % (2 ^ 64 : Nat)).toNat = a := by omega
 have e2 : ((b : Int) % (2 ^ 64 : Nat)).toNat = b := by omega
 have e3 : bitsOf .and .u64 (a : Int) (b : Int) = IntKind.u64.wrap (((BitVec.ofInt 64 (a : Int) &&& BitVec.ofInt 64 (b : Int)).toNat : Nat) : Int) := rfl
 rw [e3, BitVec.toNat_and, BitVec.toNat_ofInt, BitVec.toNat_ofInt, e1, e2]
 simp only [IntKind.wrap, IntKind.signed, IntKind.bits, Bool.false_and, Bool.false_eq_true, if_false]
 omega
def clsS (z : Nat) : Nat := if 9218868437227405312 < z % 9223372036854775808 then 0 else if z % 9223372036854775808 = 9218868437227405312 then 1 else if z % 9223372036854775808 = 0 then 2 else if z % 9223372036854775808 < 4503599627370496 then 3 else 4
theorem xor_u64_zero (a : Nat) (h : a < 18446744073709551616) : bitsOf .xor .u64 (a : Int) 0 = a := by
 have e3 : bitsOf .xor .u64 (a : Int) 0 = IntKind.u64.wrap (((BitVec.ofInt 64 (a : Int) ^^^ 0#64).toNat : Nat) : Int) := rfl
 have e1 : ((a : Int) % (2 ^ 64 : Nat)).toNat = a := by omega
 rw [e3, BitVec.xor_zero, BitVec.toNat_ofInt, e1, wrapU (by omega)]
theorem xor_u64_ones (a : Nat) (h : a < 18446744073709551616) : bitsOf .xor .u64 (a : Int) 18446744073709551615 = ((18446744073709551615 - a : Nat) : Int) := by
 have e3 : bitsOf .xor .u64 (a : Int) 18446744073709551615 = IntKind.u64.wrap (((BitVec.ofInt 64 (a : Int) ^^^ BitVec.allOnes 64).toNat : Nat) : Int) := rfl
 have e1 : ((a : Int) % (2 ^ 64 : Nat)).toNat = a := by omega
 rw [e3, BitVec.xor_allOnes, BitVec.toNat_not, BitVec.toNat_ofInt, e1, wrapU (by omega)]
abbrev hI (x y : Int) : Int := wI ((wU (wI (x + y))).fdiv (2 ^ min (1 : Int).toNat IntKind.u64.bits))
structure SortP (α : Type) (C : α -> α -> Int -> Prop) where
 swj : Int -> Nat -> Int -> Int -> Int -> List α -> List α -> Prop
 sw : Nat -> List α -> Int -> Int -> Int -> List α -> Prop
 roj : Int -> Int -> Nat -> Int -> List α -> List α -> Prop
 ro : Nat -> List α -> Int -> Int -> Int -> List α -> Prop
 in6 : Int -> Int -> Nat -> Int -> Int -> List α -> List α -> Prop
 in4 : Int -> Nat -> Int -> Int -> List α -> List α -> Prop
 ins : Nat -> List α -> Int -> Int -> List α -> Prop
 sy6 : Int -> Int -> Nat -> List α -> List α -> Prop
 sy4 : Int -> Int -> Nat -> Int -> List α -> List α -> Prop
 sy12 : Int -> Int -> Nat -> List α -> List α -> Prop
 sy10 : Int -> Int -> Nat -> Int -> List α -> List α -> Prop
 sy42 : Int -> Int -> Int -> Int -> Nat -> List α -> List α -> Prop
 sy40 : Int -> Int -> Int -> Int -> Nat -> List α -> List α -> Prop
 sy36 : Int -> Int -> Int -> Int -> Int -> Nat -> List α -> List α -> Prop
 sy28 : Int -> Int -> Int -> Int -> Int -> Nat -> List α -> List α -> Prop
 sy : Nat -> List α -> Int -> Int -> Int -> List α -> Prop
 st14 : Int -> Int -> Int -> Nat -> Int -> List α -> List α -> Prop
 st12 : Int -> Nat -> Int -> List α -> List α -> Prop
 st8 : Int -> Int -> Nat -> Int -> List α -> List α -> Prop
 st : Nat -> List α -> Int -> List α -> Prop
 so : Nat -> List α -> List α -> Prop
 h_swj : ∀ i (n0 : Nat) a b n l r, ((decide (i < n)) = true -> (0 <= (wI (b + i)) /\ (wI (b + i)) < (n0 : Int)) /\ (∃ y3, l[(wI (b + i)).toNat]? = some y3 /\ ((0 <= (wI (a + i)) /\ (wI (a + i)) < (n0 : Int)) /\ (∃ y4, l[(wI (a + i)).toNat]? = some y4 /\ ((0 <= (wI (a + i)) /\ (wI (a + i)) < (n0 : Int)) /\ ((wI (a + i)).toNat < l.length /\ ((0 <= (wI (b + i)) /\ (wI (b + i)) < (n0 : Int)) /\ ((wI (b + i)).toNat < (l.set (wI (a + i)).toNat y3).length /\ (swj (wI (i + 1)) n0 a b n ((l.set (wI (a + i)).toNat y3).set (wI (b + i)).toNat y4) r))))))))) /\ ((decide (i < n)) = false -> l ≠ [] /\ r = l) -> swj i n0 a b n l r
 h_sw : ∀ (n0 : Nat) data a b n r, swj 0 n0 a b n data r -> sw n0 data a b n r
 h_roj : ∀ j i (n0 : Nat) m l r, ((i != j) = true -> ((decide (j < i)) = true -> ∃ y5, sw n0 l (wI (m - i)) m j y5 /\ (l ≠ [] /\ y5 ≠ []) /\ (roj j (wI (i - j)) n0 m y5 r)) /\ ((decide (j < i)) = false -> ∃ y6, sw n0 l (wI (m - i)) (wI ((wI (m + j)) - i)) i y6 /\ (l ≠ [] /\ y6 ≠ []) /\ (roj (wI (j - i)) i n0 m y6 r))) /\ ((i != j) = false -> ∃ y4, sw n0 l (wI (m - i)) m i y4 /\ (l ≠ [] /\ y4 ≠ []) /\ (y4 ≠ [] /\ r = y4)) -> roj j i n0 m l r
 h_ro : ∀ (n0 : Nat) data a m b r, roj (wI (b - m)) (wI (m - a)) n0 m data r -> ro n0 data a m b r
 h_in6 : ∀ j i (n0 : Nat) a b l r, (∃ R8 : Bool -> Prop, (∀ z : Bool, R8 z -> ((z = true -> (0 <= (wI (j - 1)) /\ (wI (j - 1)) < (n0 : Int)) /\ (∃ y19, l[(wI (j - 1)).toNat]? = some y19 /\ ((0 <= j /\ j < (n0 : Int)) /\ (∃ y20, l[j.toNat]? = some y20 /\ ((0 <= j /\ j < (n0 : Int)) /\ (j.toNat < l.length /\ ((0 <= (wI (j - 1)) /\ (wI (j - 1)) < (n0 : Int)) /\ ((wI (j - 1)).toNat < (l.set j.toNat y19).length /\ (in6 (wI (j - 1)) i n0 a b ((l.set j.toNat y19).set (wI (j - 1)).toNat y20) r))))))))) /\ (z = false -> in4 (wI (i + 1)) n0 a b l r))) /\ (((decide (a < j)) = true -> (0 <= j /\ j < (n0 : Int)) /\ (∃ y16, l[j.toNat]? = some y16 /\ ((0 <= (wI (j - 1)) /\ (wI (j - 1)) < (n0 : Int)) /\ (∃ y17, l[(wI (j - 1)).toNat]? = some y17 /\ (∃ y18, C y16 y17 y18 /\ (R8 (decide (y18 < 0)))))))) /\ ((decide (a < j)) = false -> R8 false))) -> in6 j i n0 a b l r
 h_in4 : ∀ i (n0 : Nat) a b l r, ((decide (i < b)) = true -> in6 i i n0 a b l r) /\ ((decide (i < b)) = false -> l ≠ [] /\ r = l) -> in4 i n0 a b l r
 h_ins : ∀ (n0 : Nat) data a b r, in4 (wI (a + 1)) n0 a b data r -> ins n0 data a b r
 h_sy6 : ∀ k i (n0 : Nat) l r, ((decide (k < (wI (i - 1)))) = true -> (0 <= (wI (k + 1)) /\ (wI (k + 1)) < (n0 : Int)) /\ (∃ y10, l[(wI (k + 1)).toNat]? = some y10 /\ ((0 <= k /\ k < (n0 : Int)) /\ (∃ y11, l[k.toNat]? = some y11 /\ ((0 <= k /\ k < (n0 : Int)) /\ (k.toNat < l.length /\ ((0 <= (wI (k + 1)) /\ (wI (k + 1)) < (n0 : Int)) /\ ((wI (k + 1)).toNat < (l.set k.toNat y10).length /\ (sy6 (wI (k + 1)) i n0 ((l.set k.toNat y10).set (wI (k + 1)).toNat y11) r))))))))) /\ ((decide (k < (wI (i - 1)))) = false -> l ≠ [] /\ r = l) -> sy6 k i n0 l r
 h_sy4 : ∀ j i (n0 : Nat) a data r, ((decide (i < j)) = true -> (0 <= (hI i j) /\ (hI i j) < (n0 : Int)) /\ (∃ y12, data[(hI i j).toNat]? = some y12 /\ ((0 <= a /\ a < (n0 : Int)) /\ (∃ y13, data[a.toNat]? = some y13 /\ (∃ y14, C y12 y13 y14 /\ (((decide (y14 < 0)) = true -> sy4 j (wI ((hI i j) + 1)) n0 a data r) /\ ((decide (y14 < 0)) = false -> sy4 (hI i j) i n0 a data r))))))) /\ ((decide (i < j)) = false -> sy6 a i n0 data r) -> sy4 j i n0 a data r
 h_sy12 : ∀ k i (n0 : Nat) l r, ((decide (i < k)) = true -> (0 <= (wI (k - 1)) /\ (wI (k - 1)) < (n0 : Int)) /\ (∃ y24, l[(wI (k - 1)).toNat]? = some y24 /\ ((0 <= k /\ k < (n0 : Int)) /\ (∃ y25, l[k.toNat]? = some y25 /\ ((0 <= k /\ k < (n0 : Int)) /\ (k.toNat < l.length /\ ((0 <= (wI (k - 1)) /\ (wI (k - 1)) < (n0 : Int)) /\ ((wI (k - 1)).toNat < (l.set k.toNat y24).length /\ (sy12 (wI (k - 1)) i n0 ((l.set k.toNat y24).set (wI (k - 1)).toNat y25) r))))))))) /\ ((decide (i < k)) = false -> l ≠ [] /\ r = l) -> sy12 k i n0 l r
 h_sy10 : ∀ j i (n0 : Nat) m data r, ((decide (i < j)) = true -> (0 <= m /\ m < (n0 : Int)) /\ (∃ y26, data[m.toNat]? = some y26 /\ ((0 <= (hI i j) /\ (hI i j) < (n0 : Int)) /\ (∃ y27, data[(hI i j).toNat]? = some y27 /\ (∃ y28, C y26 y27 y28 /\ (((!(decide (y28 < 0))) = true -> sy10 j (wI ((hI i j) + 1)) n0 m data r) /\ ((!(decide (y28 < 0))) = false -> sy10 (hI i j) i n0 m data r))))))) /\ ((decide (i < j)) = false -> sy12 m i n0 data r) -> sy10 j i n0 m data r
 h_sy42 : ∀ a b m s (n0 : Nat) l r, (((decide ((hI a b) < (wI ((wI ((hI a b) + m)) - s)))) && (decide ((wI ((wI ((hI a b) + m)) - s)) < b))) = true -> ∃ y65, sy n0 l (hI a b) (wI ((wI ((hI a b) + m)) - s)) b y65 /\ (l ≠ [] /\ y65 ≠ []) /\ (y65 ≠ [] /\ r = y65)) /\ (((decide ((hI a b) < (wI ((wI ((hI a b) + m)) - s)))) && (decide ((wI ((wI ((hI a b) + m)) - s)) < b))) = false -> l ≠ [] /\ r = l) -> sy42 a b m s n0 l r
 h_sy40 : ∀ a b m s (n0 : Nat) l r, (((decide (a < s)) && (decide (s < (hI a b)))) = true -> ∃ y63, sy n0 l a s (hI a b) y63 /\ (l ≠ [] /\ y63 ≠ []) /\ (sy42 a b m s n0 y63 r)) /\ (((decide (a < s)) && (decide (s < (hI a b)))) = false -> sy42 a b m s n0 l r) -> sy40 a b m s n0 l r
 h_sy36 : ∀ a b m t s (n0 : Nat) data r, ((decide (s < t)) = true -> (0 <= (wI ((wI ((wI ((hI a b) + m)) - 1)) - (hI s t))) /\ (wI ((wI ((wI ((hI a b) + m)) - 1)) - (hI s t))) < (n0 : Int)) /\ (∃ y66, data[(wI ((wI ((wI ((hI a b) + m)) - 1)) - (hI s t))).toNat]? = some y66 /\ ((0 <= (hI s t) /\ (hI s t) < (n0 : Int)) /\ (∃ y67, data[(hI s t).toNat]? = some y67 /\ (∃ y68, C y66 y67 y68 /\ (((!(decide (y68 < 0))) = true -> sy36 a b m t (wI ((hI s t) + 1)) n0 data r) /\ ((!(decide (y68 < 0))) = false -> sy36 a b m (hI s t) s n0 data r))))))) /\ ((decide (s < t)) = false -> (((decide (s < m)) && (decide (m < (wI ((wI ((hI a b) + m)) - s))))) = true -> ∃ y59, ro n0 data s m (wI ((wI ((hI a b) + m)) - s)) y59 /\ (data ≠ [] /\ y59 ≠ []) /\ (sy40 a b m s n0 y59 r)) /\ (((decide (s < m)) && (decide (m < (wI ((wI ((hI a b) + m)) - s))))) = false -> sy40 a b m s n0 data r)) -> sy36 a b m t s n0 data r
 h_sy28 : ∀ t s a b m (n0 : Nat) data r, sy36 a b m t s n0 data r -> sy28 t s a b m n0 data r
 h_sy : ∀ (n0 : Nat) data a m b r, (((wI (m - a)) == 1) = true -> sy4 b m n0 a data r) /\ (((wI (m - a)) == 1) = false -> (((wI (b - m)) == 1) = true -> sy10 m a n0 m data r) /\ (((wI (b - m)) == 1) = false -> ((decide ((hI a b) < m)) = true -> sy28 (hI a b) (wI ((wI ((hI a b) + m)) - b)) a b m n0 data r) /\ ((decide ((hI a b) < m)) = false -> sy28 m a a b m n0 data r))) -> sy n0 data a m b r
 h_st14 : ∀ e a k (n0 : Nat) n l r, ((decide (e <= n)) = true -> ∃ y19, sy n0 l a (wI (a + k)) e y19 /\ (l ≠ [] /\ y19 ≠ []) /\ (st14 (wI (e + (wI (2 * k)))) e k n0 n y19 r)) /\ ((decide (e <= n)) = false -> ((decide ((wI (a + k)) < n)) = true -> ∃ y18, sy n0 l a (wI (a + k)) n y18 /\ (l ≠ [] /\ y18 ≠ []) /\ (st12 (wI (k * 2)) n0 n y18 r)) /\ ((decide ((wI (a + k)) < n)) = false -> st12 (wI (k * 2)) n0 n l r)) -> st14 e a k n0 n l r
 h_st12 : ∀ k (n0 : Nat) n l r, ((decide (k < n)) = true -> st14 (wI (2 * k)) 0 k n0 n l r) /\ ((decide (k < n)) = false -> l ≠ [] /\ r = l) -> st12 k n0 n l r
 h_st8 : ∀ e a (n0 : Nat) n l r, ((decide (e <= n)) = true -> ∃ y20, ins n0 l a e y20 /\ (l ≠ [] /\ y20 ≠ []) /\ (st8 (wI (e + 20)) e n0 n y20 r)) /\ ((decide (e <= n)) = false -> ∃ y11, ins n0 l a n y11 /\ (l ≠ [] /\ y11 ≠ []) /\ (st12 20 n0 n y11 r)) -> st8 e a n0 n l r
 h_st : ∀ (n0 : Nat) data n r, st8 20 0 n0 n data r -> st n0 data n r
 h_so : ∀ (n0 : Nat) x r, (∃ y1, st n0 x (n0 : Int) y1 /\ (x ≠ [] /\ y1 ≠ []) /\ (y1 ≠ [] /\ r = y1)) -> so n0 x r
section
variable {α : Type} {C : α -> α -> Int -> Prop}
theorem swap_at (A B D : List α) (p q : α) {i j : Nat} (hi : i = A.length) (hj : j = A.length + 1 + B.length) : (A ++ p :: (B ++ q :: D))[i]? = some p /\ (A ++ p :: (B ++ q :: D))[j]? = some q /\ ((A ++ p :: (B ++ q :: D)).set i q).set j p = A ++ q :: (B ++ p :: D) /\ ((A ++ p :: (B ++ q :: D)).set j p).set i q = A ++ q :: (B ++ p :: D) := by
 subst hi hj
 have e1 : (A ++ p :: (B ++ q :: D))[A.length]? = some p := by simp
 have e2 : ∀ x : α, (A ++ x :: (B ++ q :: D))[A.length + 1 + B.length]? = some q := by
  intro x
  rw [List.getElem?_append_right (by omega), show A.length + 1 + B.length - A.length = B.length + 1 by omega, List.getElem?_cons_succ]
  simp
 have s1 : ∀ (x y : α) (Z : List α), (A ++ x :: Z).set A.length y = A ++ y :: Z := by
  intro x y Z
  rw [List.set_append_right _ _ (Nat.le_refl _), Nat.sub_self]; rfl
 have s2 : ∀ (x y z : α), (A ++ x :: (B ++ y :: D)).set (A.length + 1 + B.length) z = A ++ x :: (B ++ z :: D) := by
  intro x y z
  rw [List.set_append_right _ _ (by omega), show A.length + 1 + B.length - A.length = B.length + 1 by omega, List.set_cons_succ, List.set_append_right _ _ (Nat.le_refl _), Nat.sub_self]; rfl
 exact ⟨e1, e2 p, by rw [s1, s2], by rw [s2, s1]⟩
variable (F : SortP α C)
theorem swj_law (n0 : Nat) (hn : n0 <= 1125899906842624) (X M Y : List α) (a b n : Nat) (ha : a = X.length) : ∀ (P2 Q2 P1 Q1 : List α), P2.length = Q2.length -> P1.length = Q1.length -> n = P1.length + P2.length -> b = a + n + M.length -> n0 = b + n + Y.length -> 0 < n0 ->
  F.swj (P1.length : Nat) n0 a b n (X ++ Q1 ++ P2 ++ M ++ P1 ++ Q2 ++ Y) (X ++ Q1 ++ Q2 ++ M ++ P1 ++ P2 ++ Y)
 | [], Q2, P1, Q1, h1, h2, h3, h4, h5, h6 => by
  have : Q2 = [] := List.eq_nil_of_length_eq_zero (by simpa using h1.symm)
  subst this
  have h7 : ([] : List α).length = 0 := rfl
  rw [h7] at h3
  refine F.h_swj _ _ _ _ _ _ _ ⟨fun h => ?_, fun _ => ⟨?_, by simp⟩⟩
  ·have := of_decide_eq_true h; omega
  ·intro h0
   have := congrArg List.length h0
   simp only [List.length_append, h7] at this h2
   omega
 | p :: P2, Q2, P1, Q1, h1, h2, h3, h4, h5, h6 => by
  obtain ⟨q, Q2, rfl⟩ : ∃ q Q, Q2 = q :: Q := by
   cases Q2 with
   | nil => simp at h1
   | cons q Q => exact ⟨q, Q, rfl⟩
  simp only [List.length_cons] at h1 h3
  have e1 : wI ((a : Int) + (P1.length : Nat)) = ((a + P1.length : Nat) : Int) := by rw [wI, wrapI (by omega)]; omega
  have e2 : wI ((b : Int) + (P1.length : Nat)) = ((b + P1.length : Nat) : Int) := by rw [wI, wrapI (by omega)]; omega
  have e3 : wI (((P1.length : Nat) : Int) + 1) = (((P1 ++ [p]).length : Nat) : Int) := by rw [wI, wrapI (by omega)]; simp
  have hl : X ++ Q1 ++ (p :: P2) ++ M ++ P1 ++ (q :: Q2) ++ Y = (X ++ Q1) ++ p :: ((P2 ++ M ++ P1) ++ q :: (Q2 ++ Y)) := by simp
  obtain ⟨s1, s2, s3, _⟩ := swap_at (X ++ Q1) (P2 ++ M ++ P1) (Q2 ++ Y) p q (i := a + P1.length) (j := b + P1.length) (by simp; omega) (by simp; omega)
  have ih := swj_law n0 hn X M Y a b n ha P2 Q2 (P1 ++ [p]) (Q1 ++ [q]) (by omega) (by simp; omega) (by simp; omega) h4 h5 h6
  have hlen : (X ++ Q1 ++ (p :: P2) ++ M ++ P1 ++ (q :: Q2) ++ Y).length = n0 := by simp; omega
  refine F.h_swj _ _ _ _ _ _ _ ⟨fun _ => ?_, fun h => by simp at h; omega⟩
  rw [e1, e2, e3, Int.toNat_natCast, Int.toNat_natCast]
  refine ⟨by omega, q, by rw [hl]; exact s2, by omega, p, by rw [hl]; exact s1, by omega, by rw [hlen]; omega, by omega, by rw [List.length_set, hlen]; omega, ?_⟩
  rw [hl, s3]
  have g1 : (X ++ Q1) ++ q :: ((P2 ++ M ++ P1) ++ p :: (Q2 ++ Y)) = X ++ (Q1 ++ [q]) ++ P2 ++ M ++ (P1 ++ [p]) ++ Q2 ++ Y := by simp
  have g2 : X ++ Q1 ++ (q :: Q2) ++ M ++ P1 ++ (p :: P2) ++ Y = X ++ (Q1 ++ [q]) ++ Q2 ++ M ++ (P1 ++ [p]) ++ P2 ++ Y := by simp
  rw [g1, g2]
  exact ih
theorem sw_law {n0 : Nat} (hn : n0 <= 1125899906842624) (X P M Q Y : List α) {a b n : Nat} (ha : a = X.length) (hp : n = P.length) (hq : n = Q.length) (hb : b = a + n + M.length) (h0 : n0 = b + n + Y.length) (h1 : 0 < n0) : F.sw n0 (X ++ P ++ M ++ Q ++ Y) a b n (X ++ Q ++ M ++ P ++ Y) := by
 have := swj_law F n0 hn X M Y a b n ha P Q [] [] (by omega) rfl (by simp; omega) hb h0 h1
 exact F.h_sw _ _ _ _ _ _ (by simpa using this)
theorem roj_law (n0 : Nat) (hn : n0 <= 1125899906842624) : ∀ (k : Nat) (X A B Y : List α) (m : Nat), A.length + B.length <= k -> A ≠ [] -> B ≠ [] -> m = X.length + A.length -> n0 = m + B.length + Y.length -> F.roj (B.length : Nat) (A.length : Nat) n0 m (X ++ A ++ B ++ Y) (X ++ B ++ A ++ Y) := by
 intro k
 induction k with
 | zero =>
  intro X A B Y m h hA
  exact absurd (List.eq_nil_of_length_eq_zero (by omega)) hA
 | succ k ih =>
  intro X A B Y m hk hA hB hm h0
  have a0 := List.length_pos_iff.2 hA
  have b0 := List.length_pos_iff.2 hB
  have ne : ∀ {l : List α}, l.length = n0 -> l ≠ [] := fun h h' => by rw [h'] at h; simp at h; omega
  have e1 : wI ((m : Int) - (A.length : Nat)) = ((X.length : Nat) : Int) := by rw [wI, wrapI (by omega)]; omega
  rcases Nat.lt_trichotomy A.length B.length with hlt | heq | hgt
  ·
   have hB2 : B = B.take (B.length - A.length) ++ B.drop (B.length - A.length) := (List.take_append_drop _ _).symm
   generalize hb1 : B.take (B.length - A.length) = B1 at hB2
   generalize hb2 : B.drop (B.length - A.length) = B2 at hB2
   have l1 : B1.length = B.length - A.length := by rw [← hb1]; simp
   have l2 : B2.length = A.length := by rw [← hb2]; simp; omega
   have e2 : wI (wI ((m : Int) + (B.length : Nat)) - (A.length : Nat)) = ((m + B1.length : Nat) : Int) := by
    have : wI ((m : Int) + (B.length : Nat)) = (m : Int) + (B.length : Nat) := by rw [wI, wrapI (by omega)]
    rw [this, wI, wrapI (by omega)]; omega
   have e3 : wI (((B.length : Nat) : Int) - (A.length : Nat)) = ((B1.length : Nat) : Int) := by rw [wI, wrapI (by omega)]; omega
   have hs := sw_law F hn X A B1 B2 Y (a := X.length) (b := m + B1.length) (n := A.length) rfl rfl l2.symm (by omega) (by omega) (by omega)
   have ih' := ih X B2 B1 (A ++ Y) m (by omega) (fun h => by rw [h] at l2; simp at l2; omega) (fun h => by rw [h] at l1; simp at l1; omega) (by omega) (by simp; omega)
   refine F.h_roj _ _ _ _ _ _ ⟨fun _ => ⟨fun h => by simp at h; omega, fun _ => ?_⟩, fun h => by simp at h; omega⟩
   rw [e1, e2, e3]
   refine ⟨X ++ B2 ++ B1 ++ A ++ Y, by rw [hB2]; simpa using hs, ⟨ne (by simp; omega), ne (by simp; omega)⟩, ?_⟩
   rw [l2] at ih'
   have g1 : X ++ B2 ++ B1 ++ A ++ Y = X ++ B2 ++ B1 ++ (A ++ Y) := by simp
   have g2 : X ++ B ++ A ++ Y = X ++ B1 ++ B2 ++ (A ++ Y) := by rw [hB2]; simp
   rw [g1, g2]; exact ih'
  ·have hs := sw_law F hn X A [] B Y (a := X.length) (b := m) (n := A.length) rfl rfl heq (by simp; omega) (by omega) (by omega)
   refine F.h_roj _ _ _ _ _ _ ⟨fun h => by simp at h; omega, fun _ => ⟨X ++ B ++ A ++ Y, ?_, ⟨ne (by simp; omega), ne (by simp; omega)⟩, ne (by simp; omega), rfl⟩⟩
   rw [e1]; simpa using hs
  ·have hA2 : A = A.take B.length ++ A.drop B.length := (List.take_append_drop _ _).symm
   generalize ha1 : A.take B.length = A1 at hA2
   generalize ha2 : A.drop B.length = A2 at hA2
   have l1 : A1.length = B.length := by rw [← ha1]; simp; omega
   have l2 : A2.length = A.length - B.length := by rw [← ha2]; simp
   have e3 : wI (((A.length : Nat) : Int) - (B.length : Nat)) = ((A2.length : Nat) : Int) := by rw [wI, wrapI (by omega)]; omega
   have hs := sw_law F hn X A1 A2 B Y (a := X.length) (b := m) (n := B.length) rfl l1.symm rfl (by omega) (by omega) (by omega)
   have ih' := ih (X ++ B) A2 A1 Y m (by omega) (fun h => by rw [h] at l2; simp at l2; omega) (fun h => by rw [h] at l1; simp at l1; omega) (by simp; omega) (by omega)
   refine F.h_roj _ _ _ _ _ _ ⟨fun _ => ⟨fun _ => ?_, fun h => by simp at h; omega⟩, fun h => by simp at h; omega⟩
   rw [e1, e3]
   refine ⟨X ++ B ++ A2 ++ A1 ++ Y, by rw [hA2]; simpa using hs, ⟨ne (by simp; omega), ne (by simp; omega)⟩, ?_⟩
   rw [l1] at ih'
   have g2 : X ++ B ++ A ++ Y = X ++ B ++ A1 ++ A2 ++ Y := by rw [hA2]; simp
   rw [g2]; exact ih'
theorem ro_law {n0 : Nat} (hn : n0 <= 1125899906842624) (X A B Y : List α) {a m b : Nat} (ha : a = X.length) (hm : m = a + A.length) (hb : b = m + B.length) (h0 : n0 = b + Y.length) (hA : A ≠ []) (hB : B ≠ []) : F.ro n0 (X ++ A ++ B ++ Y) a m b (X ++ B ++ A ++ Y) := by
 have e1 : wI ((b : Int) - m) = ((B.length : Nat) : Int) := by rw [wI, wrapI (by omega)]; omega
 have e2 : wI ((m : Int) - a) = ((A.length : Nat) : Int) := by rw [wI, wrapI (by omega)]; omega
 refine F.h_ro _ _ _ _ _ _ ?_
 rw [e1, e2]
 exact roj_law F n0 hn _ X A B Y m (Nat.le_refl _) hA hB (by omega) (by omega)
end
structure Pre {α : Type} (cm : α -> α -> Int) (Dm : α -> Prop) : Prop where
 sym : ∀ x y, Dm x -> Dm y -> (cm x y < 0 ↔ 0 < cm y x)
 trans : ∀ x y z, Dm x -> Dm y -> Dm z -> cm x y <= 0 -> cm y z <= 0 -> cm x z <= 0
def Rt {α : Type} (cm : α -> α -> Int) (x y : α × Nat) : Prop := cm x.1 y.1 < 0 ∨ (cm x.1 y.1 = 0 /\ x.2 < y.2)
section
variable {α : Type} {C : α -> α -> Int -> Prop} {cm : α -> α -> Int} {Dm : α -> Prop}
theorem Pre.zero (hp : Pre cm Dm) {x y : α} (hx : Dm x) (hy : Dm y) : cm x y = 0 ↔ cm y x = 0 := by
 have h1 := hp.sym x y hx hy
 have h2 := hp.sym y x hy hx
 omega
theorem Pre.lt (hp : Pre cm Dm) {x y z : α} (hx : Dm x) (hy : Dm y) (hz : Dm z) (h1 : cm x y <= 0) (h2 : cm y z <= 0) (h3 : cm x y < 0 ∨ cm y z < 0) : cm x z < 0 := by
 have h4 := hp.trans x y z hx hy hz h1 h2
 rcases Int.lt_or_le (cm x z) 0 with h5 | h5
 ·exact h5
 have h6 : cm x z = 0 := by omega
 have h7 := (hp.zero hx hz).1 h6
 rcases h3 with h3 | h3
 ·have h8 := hp.trans y z x hy hz hx h2 (by omega)
  have := (hp.sym x y hx hy).1 h3
  omega
 ·have h8 := hp.trans z x y hz hx hy (by omega) h1
  have := (hp.sym y z hy hz).1 h3
  omega
theorem Rt.trans (hp : Pre cm Dm) {x y z : α × Nat} (hx : Dm x.1) (hy : Dm y.1) (hz : Dm z.1) (h1 : Rt cm x y) (h2 : Rt cm y z) : Rt cm x z := by
 unfold Rt at *
 rcases h1 with h1 | ⟨h1, h1'⟩
 ·rcases h2 with h2 | ⟨h2, _⟩
  ·exact .inl (hp.lt hx hy hz (by omega) (by omega) (.inl h1))
  ·exact .inl (hp.lt hx hy hz (by omega) (by omega) (.inl h1))
 ·rcases h2 with h2 | ⟨h2, h2'⟩
  ·exact .inl (hp.lt hx hy hz (by omega) (by omega) (.inr h2))
  ·right
   have h3 := hp.trans _ _ _ hx hy hz (by omega : cm x.1 y.1 <= 0) (by omega : cm y.1 z.1 <= 0)
   have h4 := hp.trans _ _ _ hz hy hx (by have := (hp.zero hy hz).1 h2; omega) (by have := (hp.zero hx hy).1 h1; omega)
   have h5 := hp.sym z.1 x.1 hz hx
   have h6 := hp.sym x.1 z.1 hx hz
   omega
theorem Rt.of_not (hp : Pre cm Dm) {x y : α × Nat} (hx : Dm x.1) (hy : Dm y.1) (h : ¬ cm x.1 y.1 < 0) (ht : y.2 < x.2) : Rt cm y x := by
 have h1 := hp.sym y.1 x.1 hy hx
 have h2 := hp.zero hx hy
 unfold Rt
 omega
abbrev Srt (cm : α -> α -> Int) (l : List (α × Nat)) : Prop := l.Pairwise (Rt cm)
abbrev fs (l : List (α × Nat)) : List α := l.map Prod.fst
variable (F : SortP α C) (hp : Pre cm Dm) (hC : ∀ x y, Dm x -> Dm y -> C x y (cm x y))
 include hp hC
theorem in6_law {n0 : Nat} (hn : n0 <= 1125899906842624) (X : List (α × Nat)) (s : α × Nat) (i : Int) (b : Nat) : ∀ (k : Nat) (U V T : List (α × Nat)), U.length = k -> n0 = X.length + U.length + 1 + V.length + T.length -> (∀ x ∈ U ++ s :: V, Dm x.1) -> Srt cm (U ++ V) -> (∀ v ∈ V, Rt cm s v) -> (∀ u ∈ U, u.2 < s.2) ->
  ∃ S, Srt cm S /\ S.Perm (U ++ s :: V) /\ ∀ r, F.in4 (wI (i + 1)) n0 X.length b (fs (X ++ S ++ T)) r -> F.in6 ((X.length + U.length : Nat) : Int) i n0 X.length b (fs (X ++ U ++ s :: V ++ T)) r := by
 intro k
 induction k with
 | zero =>
  intro U V T hU h0 hD hs hv ht
  have : U = [] := List.eq_nil_of_length_eq_zero hU
  subst this
  refine ⟨s :: V, List.pairwise_cons.2 ⟨hv, by simpa using hs⟩, by simp, fun r hr => ?_⟩
  refine F.h_in6 _ _ _ _ _ _ _ ⟨fun z => z = false, fun z hz => ⟨fun h => (by rw [hz] at h; cases h), fun _ => by simpa using hr⟩, fun h => ?_, fun _ => rfl⟩
  simp at h
 | succ k ih =>
  intro U V T hU h0 hD hs hv ht
  obtain ⟨U', u, rfl⟩ : ∃ U' u, U = U' ++ [u] := by
   rcases List.eq_nil_or_concat U with h | ⟨U', u, h⟩
   ·rw [h] at hU; simp at hU
   ·exact ⟨U', u, by simpa using h⟩
  have hl' : U'.length = k := by simpa using hU
  have hDs : Dm s.1 := hD s (by simp)
  have hDu : Dm u.1 := hD u (by simp)
  have hj : X.length + (U' ++ [u]).length = X.length + U'.length + 1 := by simp; omega
  have e1 : wI (((X.length + U'.length + 1 : Nat) : Int) - 1) = ((X.length + U'.length : Nat) : Int) := by
   simp only [List.length_append, List.length_cons, List.length_nil] at h0
   rw [wI, wrapI (by omega)]; omega
  have hlist : fs (X ++ (U' ++ [u]) ++ s :: V ++ T) = fs (X ++ U') ++ u.1 :: (fs ([] : List (α × Nat)) ++ s.1 :: fs (V ++ T)) := by simp [fs]
  obtain ⟨s1, s2, _, s4⟩ := swap_at (fs (X ++ U')) (fs ([] : List (α × Nat))) (fs (V ++ T)) u.1 s.1 (i := X.length + U'.length) (j := X.length + U'.length + 1) (by simp [fs]) (by simp [fs])
  have hlen : (fs (X ++ (U' ++ [u]) ++ s :: V ++ T)).length = n0 := by simp [fs] at h0 ⊢; omega
  simp only [List.length_append, List.length_cons, List.length_nil] at h0
  have cmpS : C s.1 u.1 (cm s.1 u.1) := hC _ _ hDs hDu
  by_cases hlt : cm s.1 u.1 < 0
  ·obtain ⟨S, q1, q2, q3⟩ := ih U' (u :: V) T hl' (by simp; omega) (fun x hx => hD x (by simp at hx ⊢; grind)) (by simpa using hs) (fun v hv' => by
    rcases List.mem_cons.1 hv' with h | h
    ·rw [h]; exact .inl hlt
    ·exact hv v h) (fun x hx => ht x (by simp [hx]))
   refine ⟨S, q1, q2.trans (by simp; exact List.Perm.swap _ _ _ |>.append_left U'), fun r hr => ?_⟩
   refine F.h_in6 _ _ _ _ _ _ _ ⟨fun z => z = true, fun z hz => ⟨fun _ => ?_, fun h => by rw [hz] at h; cases h⟩, fun _ => ?_, fun h => ?_⟩
   ·simp only [hj, e1, Int.toNat_natCast]
    refine ⟨by omega, u.1, by rw [hlist]; exact s1, by simp; omega, s.1, by rw [hlist]; exact s2, by simp; omega, by rw [hlen]; omega, by omega, by rw [List.length_set, hlen]; omega, ?_⟩
    have g : ((fs (X ++ (U' ++ [u]) ++ s :: V ++ T)).set (X.length + U'.length + 1) u.1).set (X.length + U'.length) s.1 = fs (X ++ U' ++ s :: (u :: V) ++ T) := by rw [hlist, s4]; simp [fs]
    rw [g]
    exact q3 r hr
   ·simp only [hj, e1, Int.toNat_natCast]
    exact ⟨by simp; omega, s.1, by rw [hlist]; exact s2, by omega, u.1, by rw [hlist]; exact s1, _, cmpS, decide_eq_true hlt⟩
   ·simp at h; omega
  ·have hus : Rt cm u s := Rt.of_not hp hDs hDu hlt (ht u (by simp))
   have hall : ∀ x ∈ U' ++ [u], Rt cm x s := by
    intro x hx
    rcases List.mem_append.1 hx with h | h
    ·have hxu : Rt cm x u := by
      have h2 : Srt cm (U' ++ [u]) := (List.pairwise_append.1 hs).1
      exact (List.pairwise_append.1 h2).2.2 x h u (by simp)
     exact Rt.trans hp (hD x (by simp [h])) hDu hDs hxu hus
    ·simp at h; rw [h]; exact hus
   refine ⟨U' ++ [u] ++ s :: V, ?_, .refl _, fun r hr => ?_⟩
   ·obtain ⟨h1, h2, h3⟩ := List.pairwise_append.1 hs
    refine List.pairwise_append.2 ⟨h1, List.pairwise_cons.2 ⟨hv, h2⟩, fun x hx y hy => ?_⟩
    rcases List.mem_cons.1 hy with h | h
    ·rw [h]; exact hall x hx
    ·exact h3 x hx y h
   ·refine F.h_in6 _ _ _ _ _ _ _ ⟨fun z => z = false, fun z hz => ⟨fun h => (by rw [hz] at h; cases h), fun _ => ?_⟩, fun _ => ?_, fun h => ?_⟩
    ·have g : X ++ (U' ++ [u]) ++ s :: V ++ T = X ++ (U' ++ [u] ++ s :: V) ++ T := by simp
     rw [g]; exact hr
    ·simp only [hj, e1, Int.toNat_natCast]
     exact ⟨by simp; omega, s.1, by rw [hlist]; exact s2, by omega, u.1, by rw [hlist]; exact s1, _, cmpS, decide_eq_false hlt⟩
    ·rfl
theorem in4_law {n0 : Nat} (hn : n0 <= 1125899906842624) (X Y : List (α × Nat)) (b : Nat) : ∀ (S2 S1 : List (α × Nat)), b = X.length + S1.length + S2.length -> n0 = b + Y.length -> 0 < n0 -> (∀ x ∈ S1 ++ S2, Dm x.1) -> Srt cm S1 -> (∀ x ∈ S1, ∀ y ∈ S2, x.2 < y.2) -> S2.Pairwise (fun x y => x.2 < y.2) ->
  ∃ S, Srt cm S /\ S.Perm (S1 ++ S2) /\ F.in4 ((X.length + S1.length : Nat) : Int) n0 X.length b (fs (X ++ S1 ++ S2 ++ Y)) (fs (X ++ S ++ Y))
 | [], S1, hb, h0, hpos, hD, hs, ht, hp2 => by
  refine ⟨S1, hs, by simp, F.h_in4 _ _ _ _ _ _ ⟨fun h => ?_, fun _ => ⟨fun h => ?_, by simp⟩⟩⟩
  ·simp at h hb; omega
  ·have := congrArg List.length h
   simp only [fs, List.length_map, List.length_append, List.length_nil] at this hb
   omega
 | s :: S2, S1, hb, h0, hpos, hD, hs, ht, hp2 => by
  simp only [List.length_cons] at hb
  obtain ⟨S', q1, q2, q3⟩ := in6_law F hp hC hn X s ((X.length + S1.length : Nat) : Int) b S1.length S1 [] (S2 ++ Y) rfl (by simp; omega) (fun x hx => hD x (by simp at hx ⊢; grind)) (by simpa using hs) (fun v hv => by cases hv) (fun u hu => ht u hu s (by simp))
  have hl : S'.length = S1.length + 1 := by rw [q2.length_eq]; simp
  have mem : ∀ x, x ∈ S' ↔ x ∈ S1 ∨ x = s := fun x => by rw [q2.mem_iff]; simp
  obtain ⟨S, p1, p2, p3⟩ := in4_law hn X Y b S2 S' (by omega) h0 hpos (fun x hx => hD x (by
    rcases List.mem_append.1 hx with h | h
    ·rcases (mem x).1 h with h | h <;> simp [h]
    ·simp [h])) q1 (fun x hx y hy => by
    rcases (mem x).1 hx with h | h
    ·exact ht x h y (by simp [hy])
    ·rw [h]; exact (List.pairwise_cons.1 hp2).1 y hy) (List.pairwise_cons.1 hp2).2
  refine ⟨S, p1, p2.trans ?_, F.h_in4 _ _ _ _ _ _ ⟨fun _ => ?_, fun h => by simp at h; omega⟩⟩
  ·exact (q2.append_right S2).trans (by simp)
  ·have e : wI (((X.length + S1.length : Nat) : Int) + 1) = ((X.length + S'.length : Nat) : Int) := by rw [wI, wrapI (by omega)]; omega
   have := q3 _ (by rw [e]; simpa using p3)
   simpa using this
theorem ins_law {n0 : Nat} (hn : n0 <= 1125899906842624) (X S Y : List (α × Nat)) {a b : Nat} (ha : a = X.length) (hb : b = a + S.length) (h0 : n0 = b + Y.length) (hpos : 0 < n0) (hD : ∀ x ∈ S, Dm x.1) (ht : S.Pairwise (fun x y => x.2 < y.2)) :
  ∃ S', Srt cm S' /\ S'.Perm S /\ F.ins n0 (fs (X ++ S ++ Y)) a b (fs (X ++ S' ++ Y)) := by
 subst ha
 have e : wI ((X.length : Int) + 1) = ((X.length + 1 : Nat) : Int) := by rw [wI, wrapI (by omega)]; omega
 cases S with
 | nil =>
  refine ⟨[], .nil, .refl _, F.h_ins _ _ _ _ _ ?_⟩
  rw [e]
  refine F.h_in4 _ _ _ _ _ _ ⟨fun h => ?_, fun _ => ⟨fun h => ?_, rfl⟩⟩
  ·simp at h hb; omega
  ·have := congrArg List.length h
   simp only [fs, List.length_map, List.length_append, List.length_nil] at this hb
   omega
 | cons s S2 =>
  obtain ⟨S, q1, q2, q3⟩ := in4_law F hp hC hn X Y b S2 [s] (by simp at hb ⊢; omega) h0 hpos (by simpa using hD) (by simp) (fun x hx y hy => by simp at hx; rw [hx]; exact (List.pairwise_cons.1 ht).1 y hy) (List.pairwise_cons.1 ht).2
  refine ⟨S, q1, by simpa using q2, F.h_ins _ _ _ _ _ ?_⟩
  rw [e]
  simpa using q3
end
theorem hI_nat {a b : Nat} (ha : a <= 1125899906842624) (hb : b <= 1125899906842624) : hI (a : Int) (b : Int) = (((a + b) / 2 : Nat) : Int) := by
 have e1 : wI ((a : Int) + b) = ((a + b : Nat) : Int) := by rw [wI, wrapI (by omega)]; omega
 have e2 : wU ((a + b : Nat) : Int) = ((a + b : Nat) : Int) := wrapU (by omega)
 have e3 : (2 : Int) ^ min (1 : Int).toNat IntKind.u64.bits = 2 := by decide +kernel
 unfold hI
 rw [e1, e2, e3, Int.fdiv_eq_ediv_of_nonneg _ (by omega), wI, wrapI (by omega)]
 omega
section
variable {α : Type} {C : α -> α -> Int -> Prop} {cm : α -> α -> Int} {Dm : α -> Prop}
theorem getL (X : List α) (L R : List α) {i : Nat} (h : i < L.length) : (X ++ L ++ R)[X.length + i]? = L[i]? := by
 rw [List.append_assoc, List.getElem?_append_right (by omega), show X.length + i - X.length = i by omega, List.getElem?_append_left h]
variable (F : SortP α C)
theorem sy6_law {n0 : Nat} (hn : n0 <= 1125899906842624) (X R : List α) (x : α) (i : Nat) : ∀ (B2 B1 : List α), i = X.length + B1.length + B2.length + 1 -> n0 = i + R.length -> F.sy6 ((X.length + B1.length : Nat) : Int) i n0 (X ++ B1 ++ x :: B2 ++ R) (X ++ B1 ++ B2 ++ x :: R)
 | [], B1, hi, h0 => by
  have e : wI ((i : Int) - 1) = ((X.length + B1.length : Nat) : Int) := by simp at hi; rw [wI, wrapI (by omega)]; omega
  refine F.h_sy6 _ _ _ _ _ ⟨fun h => ?_, fun _ => ⟨by simp, by simp⟩⟩
  rw [e] at h; simp at h
 | y :: B2, B1, hi, h0 => by
  simp only [List.length_cons] at hi
  have e : wI ((i : Int) - 1) = ((X.length + B1.length + B2.length + 1 : Nat) : Int) := by rw [wI, wrapI (by omega)]; omega
  have e2 : wI (((X.length + B1.length : Nat) : Int) + 1) = ((X.length + (B1 ++ [y]).length : Nat) : Int) := by rw [wI, wrapI (by omega)]; simp; omega
  have e3 : ((X.length + (B1 ++ [y]).length : Nat) : Int).toNat = X.length + B1.length + 1 := by simp; omega
  have hl : X ++ B1 ++ x :: (y :: B2) ++ R = (X ++ B1) ++ x :: (([] : List α) ++ y :: (B2 ++ R)) := by simp
  obtain ⟨s1, s2, s3, s4⟩ := swap_at (X ++ B1) [] (B2 ++ R) x y (i := X.length + B1.length) (j := X.length + B1.length + 1) (by simp) (by simp)
  have ih := sy6_law hn X R x i B2 (B1 ++ [y]) (by simp; omega) h0
  have hlen : (X ++ B1 ++ x :: (y :: B2) ++ R).length = n0 := by simp; omega
  refine F.h_sy6 _ _ _ _ _ ⟨fun _ => ?_, fun h => by rw [e] at h; simp at h; omega⟩
  rw [e2, e3, Int.toNat_natCast]
  refine ⟨by simp; omega, y, by rw [hl]; exact s2, by omega, x, by rw [hl]; exact s1, by omega, by rw [hlen]; omega, by simp; omega, by rw [List.length_set, hlen]; omega, ?_⟩
  rw [hl, s3]
  have g1 : (X ++ B1) ++ y :: (([] : List α) ++ x :: (B2 ++ R)) = X ++ (B1 ++ [y]) ++ x :: B2 ++ R := by simp
  have g2 : X ++ B1 ++ (y :: B2) ++ x :: R = X ++ (B1 ++ [y]) ++ B2 ++ x :: R := by simp
  rw [g1, g2]; exact ih
theorem sy12_law {n0 : Nat} (hn : n0 <= 1125899906842624) (X R : List α) (y : α) (i : Nat) (hi : i = X.length) : ∀ (k : Nat) (A1 A2 : List α), A1.length = k -> n0 = X.length + A1.length + 1 + A2.length + R.length -> F.sy12 ((X.length + A1.length : Nat) : Int) i n0 (X ++ A1 ++ y :: A2 ++ R) (X ++ y :: A1 ++ A2 ++ R) := by
 intro k
 induction k with
 | zero =>
  intro A1 A2 h1 h0
  have : A1 = [] := List.eq_nil_of_length_eq_zero h1
  subst this
  refine F.h_sy12 _ _ _ _ _ ⟨fun h => ?_, fun _ => ⟨by simp, by simp⟩⟩
  simp at h; omega
 | succ k ih =>
  intro A1 A2 h1 h0
  obtain ⟨A1', z, rfl⟩ : ∃ U' u, A1 = U' ++ [u] := by
   rcases List.eq_nil_or_concat A1 with h | ⟨U', u, h⟩
   ·rw [h] at h1; simp at h1
   ·exact ⟨U', u, by simpa using h⟩
  have hl' : A1'.length = k := by simpa using h1
  have hlen : (X ++ (A1' ++ [z]) ++ y :: A2 ++ R).length = n0 := by simp at h0 ⊢; omega
  simp only [List.length_append, List.length_cons, List.length_nil] at h0
  have e2 : wI (((X.length + (A1' ++ [z]).length : Nat) : Int) - 1) = ((X.length + A1'.length : Nat) : Int) := by
   simp only [List.length_append, List.length_cons, List.length_nil]
   rw [wI, wrapI (by omega)]; omega
  have e3 : ((X.length + (A1' ++ [z]).length : Nat) : Int).toNat = X.length + A1'.length + 1 := by simp; omega
  have hl : X ++ (A1' ++ [z]) ++ y :: A2 ++ R = (X ++ A1') ++ z :: (([] : List α) ++ y :: (A2 ++ R)) := by simp
  obtain ⟨s1, s2, s3, s4⟩ := swap_at (X ++ A1') [] (A2 ++ R) z y (i := X.length + A1'.length) (j := X.length + A1'.length + 1) (by simp) (by simp)
  have ih' := ih A1' (z :: A2) hl' (by simp; omega)
  refine F.h_sy12 _ _ _ _ _ ⟨fun _ => ?_, fun h => by simp at h; omega⟩
  rw [e2, e3, Int.toNat_natCast]
  refine ⟨by omega, z, by rw [hl]; exact s1, by simp; omega, y, by rw [hl]; exact s2, by simp; omega, by rw [hlen]; omega, by omega, by rw [List.length_set, hlen]; omega, ?_⟩
  rw [hl, s4]
  have g1 : (X ++ A1') ++ y :: (([] : List α) ++ z :: (A2 ++ R)) = X ++ A1' ++ y :: (z :: A2) ++ R := by simp
  have g2 : X ++ y :: (A1' ++ [z]) ++ A2 ++ R = X ++ y :: A1' ++ (z :: A2) ++ R := by simp
  rw [g1, g2]; exact ih'
variable (hp : Pre cm Dm) (hC : ∀ x y, Dm x -> Dm y -> C x y (cm x y))
 include hp hC
theorem sy4_law {n0 : Nat} (hn : n0 <= 1125899906842624) (X B Y : List (α × Nat)) (x : α × Nat) (hx : Dm x.1) (hB : ∀ y ∈ B, Dm y.1) (hs : Srt cm B) (ht : ∀ y ∈ B, x.2 < y.2) (h0 : n0 = X.length + 1 + B.length + Y.length) : ∀ (k p q : Nat), q - p <= k -> p <= q -> q <= B.length -> (∀ y ∈ B.take p, Rt cm y x) -> (∀ y ∈ B.drop q, Rt cm x y) ->
  ∃ S, Srt cm S /\ S.Perm (x :: B) /\ F.sy4 ((X.length + 1 + q : Nat) : Int) ((X.length + 1 + p : Nat) : Int) n0 X.length (fs (X ++ x :: B ++ Y)) (fs (X ++ S ++ Y)) := by
 intro k
 induction k with
 | zero =>
  intro p q h1 h2 h3 hP hQ
  obtain rfl : p = q := by omega
  refine ⟨B.take p ++ x :: B.drop p, ?_, ?_, ?_⟩
  ·refine List.pairwise_append.2 ⟨hs.sublist (List.take_sublist _ _), List.pairwise_cons.2 ⟨hQ, hs.sublist (List.drop_sublist _ _)⟩, fun a ha b hb => ?_⟩
   rcases List.mem_cons.1 hb with h | h
   ·rw [h]; exact hP a ha
   ·exact Rt.trans hp (hB a (List.mem_of_mem_take ha)) hx (hB b (List.mem_of_mem_drop h)) (hP a ha) (hQ b h)
  ·exact List.perm_middle.trans (by rw [List.take_append_drop])
  ·refine F.h_sy4 _ _ _ _ _ _ ⟨fun h => by simp at h, fun _ => ?_⟩
   have hlt : (B.take p).length = p := by simp; omega
   have := sy6_law F hn (fs X) (fs (B.drop p ++ Y)) x.1 (X.length + 1 + p) (fs (B.take p)) [] (by simp [fs]; omega) (by simp [fs]; omega)
   have g1 : fs X ++ [] ++ x.1 :: fs (B.take p) ++ fs (B.drop p ++ Y) = fs (X ++ x :: B ++ Y) := by
    have e : B.take p ++ (B.drop p ++ Y) = B ++ Y := by rw [← List.append_assoc, List.take_append_drop]
    have e2 : fs (X ++ x :: B ++ Y) = fs X ++ x.1 :: fs (B ++ Y) := by simp [fs]
    rw [e2, ← e]
    simp only [fs, List.map_append, List.append_nil, List.cons_append, List.append_assoc]
   have g2 : fs X ++ [] ++ fs (B.take p) ++ x.1 :: fs (B.drop p ++ Y) = fs (X ++ (B.take p ++ x :: B.drop p) ++ Y) := by simp [fs]
   rw [g1, g2] at this
   simpa [fs] using this
 | succ k ih =>
  intro p q h1 h2 h3 hP hQ
  by_cases hpq : p = q
  ·exact ih p q (by omega) h2 h3 hP hQ
  ·have hh : hI ((X.length + 1 + p : Nat) : Int) ((X.length + 1 + q : Nat) : Int) = ((X.length + 1 + (X.length + 1 + p + (X.length + 1 + q)) / 2 - (X.length + 1) : Nat) : Int) := by
    rw [hI_nat (by omega) (by omega)]; congr 1; omega
   generalize hm : (X.length + 1 + p + (X.length + 1 + q)) / 2 - (X.length + 1) = m at hh
   have hm1 : p <= m /\ m < q := by omega
   have hh' : hI ((X.length + 1 + p : Nat) : Int) ((X.length + 1 + q : Nat) : Int) = ((X.length + 1 + m : Nat) : Int) := by rw [hh]; congr 1; omega
   have hy : B[m]? = some B[m] := List.getElem?_eq_getElem (by omega)
   generalize B[m] = y at hy
   have hyB : y ∈ B := List.mem_of_getElem? hy
   have gx : (fs (X ++ x :: B ++ Y))[X.length]? = some x.1 := by simp [fs]
   have gy : (fs (X ++ x :: B ++ Y))[X.length + 1 + m]? = some y.1 := by
    have : fs (X ++ x :: B ++ Y) = fs (X ++ [x]) ++ fs B ++ fs Y := by simp [fs]
    rw [this, show X.length + 1 + m = (fs (X ++ [x])).length + m by simp [fs], getL _ _ _ (by simp [fs]; omega)]
    simp [fs, hy]
   have e1 : wI (((X.length + 1 + m : Nat) : Int) + 1) = ((X.length + 1 + (m + 1) : Nat) : Int) := by rw [wI, wrapI (by omega)]; omega
   have cmpS : C y.1 x.1 (cm y.1 x.1) := hC _ _ (hB y hyB) hx
   by_cases hlt : cm y.1 x.1 < 0
   ·obtain ⟨S, q1, q2, q3⟩ := ih (m + 1) q (by omega) (by omega) h3 (fun z hz => by
     obtain ⟨t, ht1⟩ := List.mem_iff_getElem?.1 hz
     rw [List.getElem?_take] at ht1
     split at ht1
     ·rename_i htm
      by_cases e : t = m
      ·subst e; rw [hy] at ht1; cases ht1; exact .inl hlt
      ·have hzy : Rt cm z y := by
        obtain ⟨l1, g1⟩ := List.getElem?_eq_some_iff.1 ht1
        obtain ⟨l2, g2⟩ := List.getElem?_eq_some_iff.1 hy
        rw [← g1, ← g2]
        exact List.pairwise_iff_getElem.1 hs t m l1 l2 (by omega)
       exact Rt.trans hp (hB z (List.mem_of_getElem? ht1)) (hB y hyB) hx hzy (.inl hlt)
     ·cases ht1) hQ
    refine ⟨S, q1, q2, F.h_sy4 _ _ _ _ _ _ ⟨fun _ => ?_, fun h => by simp at h; omega⟩⟩
    rw [hh', e1]
    exact ⟨by omega, y.1, by rw [Int.toNat_natCast]; exact gy, by omega, x.1, by rw [Int.toNat_natCast]; exact gx, _, cmpS, fun _ => q3, fun h => by simp at h; omega⟩
   ·obtain ⟨S, q1, q2, q3⟩ := ih p m (by omega) (by omega) (by omega) hP (fun z hz => by
     have hxy : Rt cm x y := Rt.of_not hp (hB y hyB) hx hlt (ht y hyB)
     obtain ⟨t, ht1⟩ := List.mem_iff_getElem?.1 hz
     rw [List.getElem?_drop] at ht1
     by_cases e : t = 0
     ·subst e; rw [Nat.add_zero, hy] at ht1; cases ht1; exact hxy
     ·have hyz : Rt cm y z := by
       obtain ⟨l1, g1⟩ := List.getElem?_eq_some_iff.1 ht1
       obtain ⟨l2, g2⟩ := List.getElem?_eq_some_iff.1 hy
       rw [← g1, ← g2]
       exact List.pairwise_iff_getElem.1 hs m (m + t) l2 l1 (by omega)
      exact Rt.trans hp hx (hB y hyB) (hB z (List.mem_of_getElem? ht1)) hxy hyz)
    refine ⟨S, q1, q2, F.h_sy4 _ _ _ _ _ _ ⟨fun _ => ?_, fun h => by simp at h; omega⟩⟩
    rw [hh']
    exact ⟨by omega, y.1, by rw [Int.toNat_natCast]; exact gy, by omega, x.1, by rw [Int.toNat_natCast]; exact gx, _, cmpS, fun h => absurd (of_decide_eq_true h) hlt, fun _ => q3⟩
theorem sy10_law {n0 : Nat} (hn : n0 <= 1125899906842624) (X A Y : List (α × Nat)) (y : α × Nat) (hy' : Dm y.1) (hA : ∀ x ∈ A, Dm x.1) (hs : Srt cm A) (ht : ∀ x ∈ A, x.2 < y.2) (h0 : n0 = X.length + A.length + 1 + Y.length) : ∀ (k p q : Nat), q - p <= k -> p <= q -> q <= A.length -> (∀ x ∈ A.take p, Rt cm x y) -> (∀ x ∈ A.drop q, Rt cm y x) ->
  ∃ S, Srt cm S /\ S.Perm (A ++ [y]) /\ F.sy10 ((X.length + q : Nat) : Int) ((X.length + p : Nat) : Int) n0 ((X.length + A.length : Nat) : Int) (fs (X ++ A ++ y :: Y)) (fs (X ++ S ++ Y)) := by
 intro k
 induction k with
 | zero =>
  intro p q h1 h2 h3 hP hQ
  obtain rfl : p = q := by omega
  refine ⟨A.take p ++ y :: A.drop p, ?_, ?_, ?_⟩
  ·refine List.pairwise_append.2 ⟨hs.sublist (List.take_sublist _ _), List.pairwise_cons.2 ⟨hQ, hs.sublist (List.drop_sublist _ _)⟩, fun a ha b hb => ?_⟩
   rcases List.mem_cons.1 hb with h | h
   ·rw [h]; exact hP a ha
   ·exact Rt.trans hp (hA a (List.mem_of_mem_take ha)) hy' (hA b (List.mem_of_mem_drop h)) (hP a ha) (hQ b h)
  ·exact List.perm_middle.trans (by rw [List.take_append_drop]; exact (List.perm_append_singleton y A).symm)
  ·refine F.h_sy10 _ _ _ _ _ _ ⟨fun h => by simp at h, fun _ => ?_⟩
   have hlt : (A.take p).length = p := by simp; omega
   have hld : (A.drop p).length = A.length - p := by simp
   have := sy12_law F hn (fs (X ++ A.take p)) (fs Y) y.1 (X.length + p) (by simp [fs]; omega) _ (fs (A.drop p)) [] rfl (by simp [fs]; omega)
   have g0 : (fs (X ++ A.take p)).length + (fs (A.drop p)).length = X.length + A.length := by simp [fs]; omega
   have g1 : fs (X ++ A.take p) ++ fs (A.drop p) ++ y.1 :: [] ++ fs Y = fs (X ++ A ++ y :: Y) := by
    conv => rhs; rw [← List.take_append_drop p A]
    simp [fs]
   have g2 : fs (X ++ A.take p) ++ y.1 :: fs (A.drop p) ++ [] ++ fs Y = fs (X ++ (A.take p ++ y :: A.drop p) ++ Y) := by simp [fs]
   rw [g0, g1, g2] at this
   exact this
 | succ k ih =>
  intro p q h1 h2 h3 hP hQ
  by_cases hpq : p = q
  ·exact ih p q (by omega) h2 h3 hP hQ
  ·have hh : hI ((X.length + p : Nat) : Int) ((X.length + q : Nat) : Int) = (((X.length + p + (X.length + q)) / 2 : Nat) : Int) := hI_nat (by omega) (by omega)
   generalize hm : (X.length + p + (X.length + q)) / 2 - X.length = m
   have hm1 : p <= m /\ m < q := by omega
   have hh' : hI ((X.length + p : Nat) : Int) ((X.length + q : Nat) : Int) = ((X.length + m : Nat) : Int) := by rw [hh]; congr 1; omega
   have hx : A[m]? = some A[m] := List.getElem?_eq_getElem (by omega)
   generalize A[m] = x at hx
   have hxA : x ∈ A := List.mem_of_getElem? hx
   have gy : (fs (X ++ A ++ y :: Y))[X.length + A.length]? = some y.1 := by
    have : fs (X ++ A ++ y :: Y) = fs (X ++ A) ++ y.1 :: fs Y := by simp [fs]
    rw [this, show X.length + A.length = (fs (X ++ A)).length by simp [fs]]
    simp
   have gx : (fs (X ++ A ++ y :: Y))[X.length + m]? = some x.1 := by
    have : fs (X ++ A ++ y :: Y) = fs X ++ fs A ++ fs (y :: Y) := by simp [fs]
    rw [this, show X.length + m = (fs X).length + m by simp [fs], getL _ _ _ (by simp [fs]; omega)]
    simp [fs, hx]
   have e1 : wI (((X.length + m : Nat) : Int) + 1) = ((X.length + (m + 1) : Nat) : Int) := by rw [wI, wrapI (by omega)]; omega
   have cmpS : C y.1 x.1 (cm y.1 x.1) := hC _ _ hy' (hA x hxA)
   by_cases hlt : cm y.1 x.1 < 0
   ·obtain ⟨S, q1, q2, q3⟩ := ih p m (by omega) (by omega) (by omega) hP (fun z hz => by
     obtain ⟨t, ht1⟩ := List.mem_iff_getElem?.1 hz
     rw [List.getElem?_drop] at ht1
     by_cases e : t = 0
     ·subst e; rw [Nat.add_zero, hx] at ht1; cases ht1; exact .inl hlt
     ·have hxz : Rt cm x z := by
       obtain ⟨l1, g1⟩ := List.getElem?_eq_some_iff.1 ht1
       obtain ⟨l2, g2⟩ := List.getElem?_eq_some_iff.1 hx
       rw [← g1, ← g2]
       exact List.pairwise_iff_getElem.1 hs m (m + t) l2 l1 (by omega)
      exact Rt.trans hp hy' (hA x hxA) (hA z (List.mem_of_getElem? ht1)) (.inl hlt) hxz)
    refine ⟨S, q1, q2, F.h_sy10 _ _ _ _ _ _ ⟨fun _ => ?_, fun h => by simp at h; omega⟩⟩
    rw [hh']
    exact ⟨by omega, y.1, by rw [Int.toNat_natCast]; exact gy, by omega, x.1, by rw [Int.toNat_natCast]; exact gx, _, cmpS, fun h => by simp at h; omega, fun _ => q3⟩
   ·obtain ⟨S, q1, q2, q3⟩ := ih (m + 1) q (by omega) (by omega) h3 (fun z hz => by
     have hxy : Rt cm x y := Rt.of_not hp hy' (hA x hxA) hlt (ht x hxA)
     obtain ⟨t, ht1⟩ := List.mem_iff_getElem?.1 hz
     rw [List.getElem?_take] at ht1
     split at ht1
     ·rename_i htm
      by_cases e : t = m
      ·subst e; rw [hx] at ht1; cases ht1; exact hxy
      ·have hzx : Rt cm z x := by
        obtain ⟨l1, g1⟩ := List.getElem?_eq_some_iff.1 ht1
        obtain ⟨l2, g2⟩ := List.getElem?_eq_some_iff.1 hx
        rw [← g1, ← g2]
        exact List.pairwise_iff_getElem.1 hs t m l1 l2 (by omega)
       exact Rt.trans hp (hA z (List.mem_of_getElem? ht1)) (hA x hxA) hy' hzx hxy
     ·cases ht1) hQ
    refine ⟨S, q1, q2, F.h_sy10 _ _ _ _ _ _ ⟨fun _ => ?_, fun h => by simp at h; omega⟩⟩
    rw [hh', e1]
    exact ⟨by omega, y.1, by rw [Int.toNat_natCast]; exact gy, by omega, x.1, by rw [Int.toNat_natCast]; exact gx, _, cmpS, fun _ => q3, fun h => by simp at h; omega⟩
end
section
variable {α : Type} {C : α -> α -> Int -> Prop} {cm : α -> α -> Int} {Dm : α -> Prop}
theorem cut_all (hp : Pre cm Dm) {A1 A2 B1 B2 : List (α × Nat)} (hD : ∀ x ∈ (A1 ++ A2) ++ (B1 ++ B2), Dm x.1) (hA : Srt cm (A1 ++ A2)) (hB : Srt cm (B1 ++ B2))
  (f1 : A1 = [] ∨ B2 = [] ∨ ∃ U x y V, A1 = U ++ [x] /\ B2 = y :: V /\ Rt cm x y) (f2 : B1 = [] ∨ A2 = [] ∨ ∃ U x y V, B1 = U ++ [x] /\ A2 = y :: V /\ Rt cm x y) : ∀ x ∈ A1 ++ B1, ∀ y ∈ A2 ++ B2, Rt cm x y := by
 have key : ∀ {P Q : List (α × Nat)}, (∀ x ∈ P, Dm x.1) -> (∀ x ∈ Q, Dm x.1) -> Srt cm P -> Srt cm Q -> (P = [] ∨ Q = [] ∨ ∃ U x y V, P = U ++ [x] /\ Q = y :: V /\ Rt cm x y) -> ∀ x ∈ P, ∀ y ∈ Q, Rt cm x y := by
  intro P Q dP dQ hP hQ f x hx y hy
  rcases f with f | f | ⟨U, u, v, V, rfl, rfl, huv⟩
  ·rw [f] at hx; cases hx
  ·rw [f] at hy; cases hy
  ·have h1 : x = u ∨ Rt cm x u := by
    rcases List.mem_append.1 hx with h | h
    ·exact .inr ((List.pairwise_append.1 hP).2.2 x h u (by simp))
    ·simp at h; exact .inl h
   have h2 : y = v ∨ Rt cm v y := by
    rcases List.mem_cons.1 hy with h | h
    ·exact .inl h
    ·exact .inr ((List.pairwise_cons.1 hQ).1 y h)
   have du := dP u (by simp)
   have dv := dQ v (by simp)
   have h3 : Rt cm x v := by
    rcases h1 with h | h
    ·rw [h]; exact huv
    ·exact Rt.trans hp (dP x hx) du dv h huv
   rcases h2 with h | h
   ·rw [h]; exact h3
   ·exact Rt.trans hp (dP x hx) dv (dQ y hy) h3 h
 obtain ⟨a1, a2, a3⟩ := List.pairwise_append.1 hA
 obtain ⟨b1, b2, b3⟩ := List.pairwise_append.1 hB
 intro x hx y hy
 rcases List.mem_append.1 hx with hx | hx <;> rcases List.mem_append.1 hy with hy | hy
 ·exact a3 x hx y hy
 ·exact key (fun z hz => hD z (by simp [hz])) (fun z hz => hD z (by simp [hz])) a1 b2 f1 x hx y hy
 ·exact key (fun z hz => hD z (by simp [hz])) (fun z hz => hD z (by simp [hz])) b1 a2 f2 x hx y hy
 ·exact b3 x hx y hy
theorem ne_fs {n0 : Nat} {l : List (α × Nat)} (h : l.length = n0) (h0 : 0 < n0) : fs l ≠ [] := by
 intro h'
 have := congrArg List.length h'
 simp only [fs, List.length_map, List.length_nil] at this
 omega
variable (F : SortP α C) (hp : Pre cm Dm) (hC : ∀ x y, Dm x -> Dm y -> C x y (cm x y))
 include hp hC
def MergeOK (F : SortP α C) (cm : α -> α -> Int) (Dm : α -> Prop) (n0 k : Nat) : Prop := ∀ (X A B Y : List (α × Nat)), A.length + B.length <= k -> A ≠ [] -> B ≠ [] -> n0 = X.length + A.length + B.length + Y.length -> (∀ x ∈ A ++ B, Dm x.1) -> Srt cm A -> Srt cm B -> (∀ x ∈ A, ∀ y ∈ B, x.2 < y.2) ->
 ∃ S, Srt cm S /\ S.Perm (A ++ B) /\ F.sy n0 (fs (X ++ A ++ B ++ Y)) (X.length : Nat) ((X.length + A.length : Nat) : Int) ((X.length + A.length + B.length : Nat) : Int) (fs (X ++ S ++ Y))
theorem sy40_law {n0 : Nat} (hn : n0 <= 1125899906842624) (k : Nat) (ih : MergeOK F cm Dm n0 k) (X A1 A2 B1 B2 Y : List (α × Nat)) (a b m mid s : Nat) (ha : a = X.length) (hm : m = a + A1.length + A2.length) (hb : b = m + B1.length + B2.length) (hmid : mid = (a + b) / 2) (hs : s = a + A1.length) (hcut : A1.length + B1.length = mid - a) (h0 : n0 = b + Y.length) (hpos : a < mid /\ mid < b)
  (hk : b - a <= k + 1) (hD : ∀ x ∈ (A1 ++ A2) ++ (B1 ++ B2), Dm x.1) (hA : Srt cm (A1 ++ A2)) (hB : Srt cm (B1 ++ B2)) (ht : ∀ x ∈ A1 ++ A2, ∀ y ∈ B1 ++ B2, x.2 < y.2) (hall : ∀ x ∈ A1 ++ B1, ∀ y ∈ A2 ++ B2, Rt cm x y) :
  ∃ S, Srt cm S /\ S.Perm ((A1 ++ A2) ++ (B1 ++ B2)) /\ F.sy40 a b m s n0 (fs (X ++ A1 ++ B1 ++ A2 ++ B2 ++ Y)) (fs (X ++ S ++ Y)) := by
 have hmI : hI (a : Int) (b : Int) = (mid : Int) := by rw [hI_nat (by omega) (by omega), hmid]
 have e1 : wI (wI ((mid : Int) + m) - s) = ((mid + A2.length : Nat) : Int) := by
  have : wI ((mid : Int) + m) = (mid : Int) + m := by rw [wI, wrapI (by omega)]
  rw [this, wI, wrapI (by omega)]; omega
 obtain ⟨a1, a2, a3⟩ := List.pairwise_append.1 hA
 obtain ⟨b1, b2, b3⟩ := List.pairwise_append.1 hB
 -- the part ahead
 have first : ∃ S1, Srt cm S1 /\ S1.Perm (A1 ++ B1) /\ ∀ r, F.sy42 a b m s n0 (fs (X ++ S1 ++ A2 ++ B2 ++ Y)) r -> F.sy40 a b m s n0 (fs (X ++ A1 ++ B1 ++ A2 ++ B2 ++ Y)) r := by
  by_cases hc : A1 ≠ [] /\ B1 ≠ []
  ·have c1 := List.length_pos_iff.2 hc.1
   have c2 := List.length_pos_iff.2 hc.2
   obtain ⟨S1, q1, q2, q3⟩ := ih X A1 B1 (A2 ++ B2 ++ Y) (by omega) hc.1 hc.2 (by simp; omega) (fun x hx => hD x (by simp at hx ⊢; grind)) a1 b1 (fun x hx y hy => ht x (by simp [hx]) y (by simp [hy]))
   have hl : S1.length = A1.length + B1.length := by rw [q2.length_eq]; simp
   refine ⟨S1, q1, q2, fun r hr => F.h_sy40 _ _ _ _ _ _ _ ⟨fun _ => ?_, fun h => ?_⟩⟩
   ·rw [hmI]
    refine ⟨fs (X ++ S1 ++ A2 ++ B2 ++ Y), ?_, ⟨ne_fs (n0 := n0) (by simp; omega) (by omega), ne_fs (n0 := n0) (by simp; omega) (by omega)⟩, hr⟩
    have g1 : ((X.length + A1.length : Nat) : Int) = (s : Int) := by omega
    have g2 : ((X.length + A1.length + B1.length : Nat) : Int) = (mid : Int) := by omega
    rw [g1, g2, ← ha] at q3
    simpa using q3
   ·rw [hmI] at h
    simp only [Bool.and_eq_false_iff, decide_eq_false_iff_not] at h
    omega
  ·refine ⟨A1 ++ B1, ?_, .refl _, fun r hr => F.h_sy40 _ _ _ _ _ _ _ ⟨fun h => ?_, fun _ => by simpa using hr⟩⟩
   ·rcases Classical.em (A1 = []) with h | h
    ·rw [h]; simpa using b1
    ·have : B1 = [] := Classical.byContradiction fun h2 => hc ⟨h, h2⟩
     rw [this]; simpa using a1
   ·rw [hmI] at h
    simp only [Bool.and_eq_true, decide_eq_true_eq] at h
    exact absurd ⟨fun h1 => by rw [h1] at hs; simp at hs; omega, fun h1 => by rw [h1] at hcut; simp at hcut; omega⟩ hc
 obtain ⟨S1, p1, p2, p3⟩ := first
 have hl1 : S1.length = A1.length + B1.length := by rw [p2.length_eq]; simp
 have second : ∃ S2, Srt cm S2 /\ S2.Perm (A2 ++ B2) /\ F.sy42 a b m s n0 (fs (X ++ S1 ++ A2 ++ B2 ++ Y)) (fs (X ++ S1 ++ S2 ++ Y)) := by
  by_cases hc : A2 ≠ [] /\ B2 ≠ []
  ·have c1 := List.length_pos_iff.2 hc.1
   have c2 := List.length_pos_iff.2 hc.2
   obtain ⟨S2, q1, q2, q3⟩ := ih (X ++ S1) A2 B2 Y (by omega) hc.1 hc.2 (by simp; omega) (fun x hx => hD x (by simp at hx ⊢; grind)) a2 b2 (fun x hx y hy => ht x (by simp [hx]) y (by simp [hy]))
   have hl : S2.length = A2.length + B2.length := by rw [q2.length_eq]; simp
   refine ⟨S2, q1, q2, F.h_sy42 _ _ _ _ _ _ _ ⟨fun _ => ?_, fun h => ?_⟩⟩
   ·rw [hmI, e1]
    refine ⟨fs (X ++ S1 ++ S2 ++ Y), ?_, ⟨ne_fs (n0 := n0) (by simp; omega) (by omega), ne_fs (n0 := n0) (by simp; omega) (by omega)⟩, ne_fs (n0 := n0) (by simp; omega) (by omega), rfl⟩
    have g0 : (((X ++ S1).length : Nat) : Int) = (mid : Int) := by simp; omega
    have g1 : (((X ++ S1).length + A2.length : Nat) : Int) = ((mid + A2.length : Nat) : Int) := by simp; omega
    have g2 : (((X ++ S1).length + A2.length + B2.length : Nat) : Int) = (b : Int) := by simp; omega
    rw [g0, g1, g2] at q3
    simpa using q3
   ·rw [hmI, e1] at h
    simp only [Bool.and_eq_false_iff, decide_eq_false_iff_not] at h
    omega
  ·refine ⟨A2 ++ B2, ?_, .refl _, F.h_sy42 _ _ _ _ _ _ _ ⟨fun h => ?_, fun _ => ⟨ne_fs (n0 := n0) (by simp; omega) (by omega), by simp⟩⟩⟩
   ·rcases Classical.em (A2 = []) with h | h
    ·rw [h]; simpa using b2
    ·have : B2 = [] := Classical.byContradiction fun h2 => hc ⟨h, h2⟩
     rw [this]; simpa using a2
   ·rw [hmI, e1] at h
    simp only [Bool.and_eq_true, decide_eq_true_eq] at h
    exact absurd ⟨fun h1 => by rw [h1] at h; simp at h, fun h1 => by rw [h1] at hb; simp at hb; omega⟩ hc
 obtain ⟨S2, r1, r2, r3⟩ := second
 refine ⟨S1 ++ S2, List.pairwise_append.2 ⟨p1, r1, fun x hx y hy => hall x (p2.mem_iff.1 hx) y (r2.mem_iff.1 hy)⟩, ?_, ?_⟩
 ·refine (p2.append r2).trans ?_
  have : (A1 ++ B1 ++ (A2 ++ B2)).Perm (A1 ++ A2 ++ (B1 ++ B2)) := by
   simp only [List.append_assoc]
   refine List.Perm.append_left A1 ?_
   rw [← List.append_assoc, ← List.append_assoc]
   exact List.Perm.append_right B2 List.perm_append_comm
  exact this
 ·have := p3 _ r3
  simpa using this
end
end Go.Proofs.YtkcbmobdpenngaaDoor.Lift
