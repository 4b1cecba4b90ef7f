/- TextformPrints: the text and the short text of any value, or the first error, are those of the reference; for every input of bulk at most 1048576 the statement returns true. -/
import Derived.Test.YtdpomombdeccpaaGreatDoorCards
import Derived.Test.YtdpomombdeccpaaGreatDoorTie
import Derived.Test.YtdpomombdeccpaaGreatDoorTextformPrintsEndP7
import Derived.Test.YtdpomombdeccpaaGreatDoorTextformPrintsEndP8
import Derived.Test.YtdpomombdeccpaaGreatDoorTextformPrintsEndP9
import Derived.WalkKit
import Derived.ProofKit
import Derived.OpenShut
import Derived.Deep.DeepHandedRow
import Derived.Lay
import Derived.ChangeOld
import Derived.Stop.Joined
import Derived.Shelf.Vars
namespace Go.Proofs.YtdpomombdeccpaaGreatDoor.textformPrints
open Go.ChangeShapes Go.WideShapes Go.ChangeAt Go.RowKit Lift
set_option linter.unusedVariables false
theorem own:ownKnob Tryz.prog.godebug=none:=by kernel_rfl
theorem laidOut:laidOutB Tryz.prog:=by kernel_rfl
theorem laidMetH_bare(P:Program)(l:b4c (String × DataW Unit))(w:World)(h:(l.filter λx=>x.2.handleName?.isSome)=[]):laidMetH P l w=laidMet P l w:=by
  unfold laidMetH;rw[h]
noncomputable def tstextformPrints:b4c TypeId:=mU Tryz.prog 8 [25,9,32]
theorem okTstextformPrints:YR Tryz.prog tstextformPrints:=by kernel_rfl
set_option maxRecDepth 100000 in
theorem contract(H:Type)(enc:TypeId × Value->H)(W:World)(base:Nat)(args:Array Value)(ds gs:b4c (DataW H))(before:b4c MemPlace)(hval:∀(j:Nat) t v,Tryz.f3.params[j]? =some t->args[j]? =some v->Value.okWide Tryz.prog W .any base t v)(hW:DataW.Whole enc Tryz.prog Tryz.f3.params.toList Rows.textformPrintsSpec.vars false W args.toList ds gs before)(hwt0:(DataW.weightsEach Tryz.prog (Tryz.f3.params.toList++(OpenSpec.ofChange Rows.textformPrintsSpec).bare.plain.varTypes Tryz.prog) (ds++gs)).all (· <=reachBytes))(hk:Rows.uptoSmall H (ds++gs))(hlaid:laidMetH Tryz.prog Rows.textformPrintsUptoRow.laid W):
    Calls Tryz.prog 3 args W λe W'=>∃v,e=.returned v/\Rows.textformPrintsSpec.post enc Tryz.prog Tryz.f3 false true false false W args v W':=by
  have hW':=hW;obtain⟨p,q,hA0,hV,rfl,hfz,hnd⟩:=hW;have hA:DataW.TrodAll enc Tryz.prog W 0 (λ_=>true) true Tryz.f3.params.toList args.toList ds p:=hA0;rw[Tryz.params3]at hA hwt0;obtain⟨v0,vs0,d0,ds0,p0,q0,hargs,rfl,rfl,h0,r0⟩:=trodAll_cons hA;obtain⟨v1,vs1,d1,ds1,p1,q1,rfl,rfl,rfl,h1,r1⟩:=trodAll_cons r0;obtain⟨v2,vs2,d2,ds2,p2,q2,rfl,rfl,rfl,h2,r2⟩:=trodAll_cons r1;obtain⟨rfl,rfl,rfl⟩:=trodAll_nil r2;obtain rfl:args=#[v0,v1,v2]:=by cases args;simp_all
  obtain⟨rfl,rfl⟩:=trodVars_none hV;have hk2:Rows.uptoSmall H [d0,d1,d2]:=by simpa using hk
  have hkb:Rows.uptoBulkAll [d0,d1,d2]<=1048576:=of_decide_eq_true hk2;simp only[Rows.uptoBulkAll]at hkb
  have hwt:∀x∈DataW.weightsEach Tryz.prog (([25,9,32]:b4c TypeId)++[]) ([d0,d1,d2]++[]),x<=140737488351232:=by
    intro x hx;have:=List.all_eq_true.1 hwt0 x hx;exact of_decide_eq_true this
  have k0:=h0;have lt0:∀x∈p0,x.block<W.heap.size:=by obtain⟨m,hm⟩:=k0;exact DataW.trod_lt m _ _ _ hm
  have g0:AE Tryz.prog 25 d0:=λx hx=>hwt x (by simp only[List.cons_append,List.nil_append,DataW.weightsEach,List.mem_append];left;exact hx)
  obtain⟨n0,a0,e0,t0,_,bk0⟩:=Zv okTstextformPrints (List.mem_of_elem_eq_true (by kernel_rfl)) (hval 0 25 v0 (by rw[Tryz.params3];rfl) rfl) h0 g0;obtain⟨x0,rfl,z0⟩:=a8b t0;have k1:=h1;have lt1:∀x∈p1,x.block<W.heap.size:=by obtain⟨m,hm⟩:=k1;exact DataW.trod_lt m _ _ _ hm
  have g1:AE Tryz.prog 9 d1:=λx hx=>hwt x (by simp only[List.cons_append,List.nil_append,DataW.weightsEach,List.mem_append];right;left;exact hx)
  obtain⟨n1,a1,e1,t1,_,bk1⟩:=Zv okTstextformPrints (List.mem_of_elem_eq_true (by kernel_rfl)) (hval 1 9 v1 (by rw[Tryz.params3];rfl) rfl) h1 g1;obtain⟨x1,rfl,z1⟩:=a8n t1;have k2:=h2;have lt2:∀x∈p2,x.block<W.heap.size:=by obtain⟨m,hm⟩:=k2;exact DataW.trod_lt m _ _ _ hm
  have g2:AE Tryz.prog 32 d2:=λx hx=>hwt x (by simp only[List.cons_append,List.nil_append,DataW.weightsEach,List.mem_append];right;right;left;exact hx)
  obtain⟨n2,a2,e2,t2,_,bk2⟩:=Zv okTstextformPrints (List.mem_of_elem_eq_true (by kernel_rfl)) (hval 2 32 v2 (by rw[Tryz.params3];rfl) rfl) h2 g2;obtain⟨x2,rfl,z2⟩:=c8 t2
  have w2:L9 x2<=1048576:=by
    simp only[bA,<-CS]at bk2;unfold L9;omega
  clear hA0;refine(uZ (tD 0 (Lib.laidMet.reads (by rw[laidMetH_bare _ _ _ (by kernel_rfl)]at hlaid;exact hlaid) (n:= "internal/strconv.uint64pow10") (d:=Rows.laid_internal_strconv_uint64pow10) (by simp[Rows.textformPrintsUptoRow])) (Lib.laidMet.reads (by rw[laidMetH_bare _ _ _ (by kernel_rfl)]at hlaid;exact hlaid) (n:= "math/bits.deBruijn64tab") (d:=Rows.laid_math_bits_deBruijn64tab) (by simp[Rows.textformPrintsUptoRow]))) (yW 0 x0 z0 x1 x2 z2 (by omega)) (Xc e0 (Xc e1 (Xc e2 (b1v _))))).mono λe W' ⟨he,bel⟩=>?_
  subst he;exact⟨_,rfl,_,_,_,[],_,[],hW',trodAll_mk1 (shut_bool Tryz.underlying4 _),(trodAll_cons_mk (Below.trod laidOut (by kernel_rfl) (of_decide_eq_true (by kernel_rfl)) k0 bel lt0) (trodAll_cons_mk (Below.trod laidOut (by kernel_rfl) (of_decide_eq_true (by kernel_rfl)) k1 bel lt1) (trodAll_cons_mk (Below.trod laidOut (by kernel_rfl) (of_decide_eq_true (by kernel_rfl)) k2 bel lt2) (trodAll_mk0)))),rfl,bel.frame _,λh=>by cases h⟩
theorem reads(os:Os){H:Type}(enc:TypeId × Value->H):∃X4,DataW.whole enc Tryz.prog ((World.laidAll Tryz.prog os Rows.textformPrintsUptoRow.laid).forCall (λ_ _=>0) ⟨#[],#[.agg #[.slice none 0 0,.slice none 0 0],.string ⟨#[]⟩,.agg #[.int .i64 0,.int .u64 0,.string ⟨#[]⟩,.slice none 0 0,.slice none 0 0,.slice none 0 0,.slice none 0 0]],[]⟩).memory Tryz.f3.params.toList Rows.textformPrintsSpec.vars false (#[.agg #[.slice none 0 0,.slice none 0 0],.string ⟨#[]⟩,.agg #[.int .i64 0,.int .u64 0,.string ⟨#[]⟩,.slice none 0 0,.slice none 0 0,.slice none 0 0,.slice none 0 0]]:Array Value).toList 8=some ([.agg [.nil,.nil],.lit (.string []),.agg [.lit (.int .i64 0),.lit (.int .u64 0),.lit (.string []),.nil,.nil,.nil,.nil]],[],X4):=
  ⟨[],by kernel_rfl⟩
set_option maxRecDepth 100000 in
theorem lifted(os:Os)(started:os.Started)(H:Type)(enc:TypeId × Value->H)(F:Stop.Interp):
    ReturnsInHanded {} Tryz.checked os 3 .any ((Rows.OpenSpec.upto Rows.textformPrintsSpec).preRow enc Tryz.prog Tryz.f3 Rows.textformPrintsUptoRow.domain false Rows.textformPrintsUptoRow.laid) (((Rows.OpenSpec.upto Rows.textformPrintsSpec).at F).post enc Tryz.prog Tryz.f3 false true false false):=by
  obtain⟨X4,hx⟩:=reads os enc
  refine returnsInHanded_of_row (C:=Tryz.checked) (s:=Rows.OpenSpec.upto Rows.textformPrintsSpec) own started (by kernel_rfl) Tryz.func3
    (witness_row_at (enc:=enc) (C:=Tryz.checked) false (World.laidAll Tryz.prog os Rows.textformPrintsUptoRow.laid) #[.agg #[.slice none 0 0,.slice none 0 0],.string ⟨#[]⟩,.agg #[.int .i64 0,.int .u64 0,.string ⟨#[]⟩,.slice none 0 0,.slice none 0 0,.slice none 0 0,.slice none 0 0]] (World.laidAll_os _ _ _) (by kernel_rfl) (by kernel_rfl) (by kernel_rfl)
      (OpenSpec.preRow_of_cond 8 hx (by kernel_rfl) (λk hk=>by cases hk;kernel_rfl) (by kernel_rfl) (by rw[laidMetH_bare _ _ _ (by kernel_rfl)];exact laidMet_laidAll _ (by kernel_rfl) (by kernel_rfl)))) ?_
  intro W base args ds gs before hval hW _ hcond hwt hlaid hsh _;exact contract H enc W base args ds gs before hval hW hwt (hcond _ rfl) hlaid
theorem said:Rows.TextformPrintsUptoSaid:=
  OpenClaim.holds_of_cond 3 Tryz.f3 rfl rfl rfl rfl rfl rfl rfl ⟨rfl,rfl,rfl,rfl,rfl⟩ rfl rfl rfl rfl rfl (by kernel_rfl) Tryz.func3 closed
    (of_decide_eq_true (by kernel_rfl)) (by unfold Func.isWrapper;first|(rw[if_pos (by decide+kernel)];kernel_rfl)|(rw[if_neg (by decide+kernel)];exact⟨rfl,rfl⟩))
    (λos started H enc _ F=>by rw[OpenClaim.pre_eq_preRow];exact lifted os started H enc F)
theorem plain(f:FuncId)(fn:Func)(hf:Tryz.pinned.checked.prog.funcNamed "wireschema/wireschemalaw33.TextformPrints"=some f)(hfn:Tryz.pinned.checked.prog.funcs[f]? =some fn):
    true=Tryz.pinned.checked.prog.looks []/\∀(j:Nat) t,fn.params[j]? =some t->Tryz.pinned.checked.prog.wantsStandIn t=false:=by
  obtain rfl:f=3:=Option.some.inj ((show Tryz.prog.funcNamed "wireschema/wireschemalaw33.TextformPrints"=some 3 by kernel_rfl).symm.trans hf)|>.symm;obtain rfl:fn=Tryz.f3:=(Option.some.inj (Tryz.func3.symm.trans hfn)).symm;refine⟨by kernel_rfl,λj t ht=>?_⟩;rw[Tryz.params3]at ht;have hmem:=Array.mem_of_getElem? ht;simp only[Array.mem_def,b38,List.mem_nil_iff,or_false]at hmem;rcases hmem with rfl|rfl|rfl
  · exact(show Tryz.prog.wantsStandIn 25=false by kernel_rfl)
  · exact(show Tryz.prog.wantsStandIn 9=false by kernel_rfl)
  · exact(show Tryz.prog.wantsStandIn 32=false by kernel_rfl)
theorem proved:Rows.TextformPrintsUptoCardSaid:=
  Claim7.holds_tied_plain_at .later [] _ _ _ _ said (λ_ h=>by cases h) (by kernel_rfl) (λ_ h=>by cases h) textformPrintsUpto_row_tie rfl ⟨rfl,rfl⟩ (by kernel_rfl) rfl plain kg
#print axioms proved
end Go.Proofs.YtdpomombdeccpaaGreatDoor.textformPrints
