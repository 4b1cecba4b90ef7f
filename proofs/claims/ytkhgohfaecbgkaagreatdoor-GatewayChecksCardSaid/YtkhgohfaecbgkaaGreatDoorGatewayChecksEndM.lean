/- GatewayChecks: Check answers as the reference. -/
import Derived.Test.YtkhgohfaecbgkaaGreatDoorCards
import Derived.Test.YtkhgohfaecbgkaaGreatDoorTie
import Derived.Test.YtkhgohfaecbgkaaGreatDoorGatewayChecksEndP6
import Derived.Test.YtkhgohfaecbgkaaGreatDoorGatewayChecksEndP7
import Derived.WalkKit
import Derived.ProofKit
import Derived.OpenShut
import Derived.Deep.DeepHandedRow
import Derived.Lay
import Derived.ChangeOld
import Derived.Stop.Joined
import Derived.Shelf.Vars
namespace Go.Proofs.YtkhgohfaecbgkaaGreatDoor.gatewayChecks
open Go.ChangeShapes Go.WideShapes Go.ChangeAt Go.RowKit Lift
set_option linter.unusedVariables false
theorem own:ownKnob Tryz.prog.godebug=none:=by kernel_rfl
theorem laidOut:laidOutB Tryz.prog=true:=by kernel_rfl
theorem laidMetH_bare(P:Program)(l:List (String × DataW Unit))(w:World)(h:(l.filter fun x=>x.2.handleName?.isSome)=[]):laidMetH P l w=laidMet P l w:=by
  unfold laidMetH;rw[h]
noncomputable def tsgatewayChecks:List TypeId:=c4d Tryz.prog 8 [26,27]
theorem okTsgatewayChecks:c6t Tryz.prog tsgatewayChecks=true:=by kernel_rfl
set_option maxRecDepth 100000 in
theorem contract(H:Type)(enc:TypeId × Value->H)(W:World)(base:Nat)(args:Array Value)(ds gs:List (DataW H))(before:List MemPlace)
    (hval:∀(j:Nat) t v,Tryz.f3.params[j]? =some t->args[j]? =some v->Value.okWide Tryz.prog W .any base t v)
    (hW:DataW.Whole enc Tryz.prog Tryz.f3.params.toList Rows.gatewayChecksSpec.vars false W args.toList ds gs before)
    (hwt0:(DataW.weightsEach Tryz.prog (Tryz.f3.params.toList++(OpenSpec.ofChange Rows.gatewayChecksSpec).bare.plain.varTypes Tryz.prog) (ds++gs)).all (· <=reachBytes)=true) (hsh:W.ShapedOpen Tryz.prog) (hlaid:laidMetH Tryz.prog Rows.gatewayChecksRow.laid W):
    Calls Tryz.prog 3 args W fun e W'=>∃v,e=.returned v/\Rows.gatewayChecksSpec.post enc Tryz.prog Tryz.f3 false true false false W args v W':=by
  have hW':=hW;obtain⟨p,q,hA0,hV,rfl,hfz,hnd⟩:=hW;have hA:DataW.TrodAll enc Tryz.prog W 0 (fun _=>true) true Tryz.f3.params.toList args.toList ds p:=hA0;rw[Tryz.params3]at hA hwt0;obtain⟨v0,vs0,d0,ds0,p0,q0,hargs,rfl,rfl,h0,r0⟩:=trodAll_cons hA;obtain⟨v1,vs1,d1,ds1,p1,q1,rfl,rfl,rfl,h1,r1⟩:=trodAll_cons r0;obtain⟨rfl,rfl,rfl⟩:=trodAll_nil r1;obtain rfl:args=#[v0,v1]:=by cases args;simp_all
  obtain⟨rfl,rfl⟩:=trodVars_none hV
  have hwt:∀x∈DataW.weightsEach Tryz.prog (([26,27]:List TypeId)++[]) ([d0,d1]++[]),x<=140737488351232:=by
    intro x hx;have:=List.all_eq_true.1 hwt0 x hx;exact of_decide_eq_true this
  have k0:=h0;have lt0:∀x∈p0,x.block<W.heap.size:=by obtain⟨m,hm⟩:=k0;exact DataW.trod_lt m _ _ _ hm
  have g0:Q4 Tryz.prog 26 d0:=fun x hx=>hwt x (by simp only[List.cons_append,List.nil_append,DataW.weightsEach,List.mem_append];left;exact hx)
  obtain⟨n0,a0,e0,t0,_⟩:=c5l okTsgatewayChecks (List.mem_of_elem_eq_true (by kernel_rfl)) (hval 0 26 v0 (by rw[Tryz.params3];rfl) rfl) h0 g0;obtain⟨x0,rfl,z0⟩:=o57 t0;have k1:=h1;have lt1:∀x∈p1,x.block<W.heap.size:=by obtain⟨m,hm⟩:=k1;exact DataW.trod_lt m _ _ _ hm
  have g1:Q4 Tryz.prog 27 d1:=fun x hx=>hwt x (by simp only[List.cons_append,List.nil_append,DataW.weightsEach,List.mem_append];right;left;exact hx)
  obtain⟨n1,a1,e1,t1,_⟩:=c5l okTsgatewayChecks (List.mem_of_elem_eq_true (by kernel_rfl)) (hval 1 27 v1 (by rw[Tryz.params3];rfl) rfl) h1 g1;obtain⟨x1,rfl,z1⟩:=o03 t1;clear hA0;obtain⟨mg,hm⟩:=cell_of_shapedOpen_int (P:=Tryz.prog) (g:=2) (t:=3) (zero:=#[.int .i64 0]) hsh (of_decide_eq_true (by kernel_rfl)) (by kernel_rfl) rfl (by kernel_rfl) (by kernel_rfl) Tryz.underlying3;refine(c3t (e0t hm (Lib.laidMet.reads (by rw[laidMetH_bare _ _ _ (by kernel_rfl)]at hlaid;exact hlaid) (d:=Rows.laid_wireschema_status_names) (by simp[Rows.gatewayChecksRow]))) (c6q mg x0 z0 x1) (c07 e0 (c07 e1 (d4t _)))).mono fun e W' ⟨he,bel⟩=>?_
  subst he;exact⟨_,rfl,_,_,_,[],_,[],hW',trodAll_mk1 (shut_bool Tryz.underlying4 _),(trodAll_cons_mk (Below.trod laidOut (by kernel_rfl) (of_decide_eq_true (by kernel_rfl)) k0 bel lt0) (trodAll_cons_mk (Below.trod laidOut (by kernel_rfl) (of_decide_eq_true (by kernel_rfl)) k1 bel lt1) (trodAll_mk0))),rfl,bel.frame _,fun h=>by cases h⟩
theorem reads(os:Os){H:Type}(enc:TypeId × Value->H):∃places,DataW.whole enc Tryz.prog ((World.laidAll Tryz.prog os Rows.gatewayChecksRow.laid).forCall (fun _ _=>0) ⟨#[],#[.agg #[.slice none 0 0,.slice none 0 0,.slice none 0 0],.slice none 0 0],[]⟩).memory Tryz.f3.params.toList Rows.gatewayChecksSpec.vars false (#[.agg #[.slice none 0 0,.slice none 0 0,.slice none 0 0],.slice none 0 0]:Array Value).toList 8=some ([.agg [.nil,.nil,.nil],.nil],[],places):=
  ⟨[],by kernel_rfl⟩
set_option maxRecDepth 100000 in
theorem lifted(os:Os)(started:os.Started)(H:Type)(enc:TypeId × Value->H)(F:Stop.Interp):
    ReturnsInHanded {} Tryz.checked os 3 .any ((OpenSpec.ofChange Rows.gatewayChecksSpec).preRow enc Tryz.prog Tryz.f3 Rows.gatewayChecksRow.domain false Rows.gatewayChecksRow.laid) (((OpenSpec.ofChange Rows.gatewayChecksSpec).at F).post enc Tryz.prog Tryz.f3 false true false false):=by
  obtain⟨places,hx⟩:=reads os enc
  refine returnsInHanded_of_row (C:=Tryz.checked) (s:=OpenSpec.ofChange Rows.gatewayChecksSpec) own started (by kernel_rfl) Tryz.func3
    (witness_row_at (enc:=enc) (C:=Tryz.checked) false (World.laidAll Tryz.prog os Rows.gatewayChecksRow.laid) #[.agg #[.slice none 0 0,.slice none 0 0,.slice none 0 0],.slice none 0 0] (World.laidAll_os _ _ _) (by kernel_rfl) (by kernel_rfl) (by kernel_rfl)
      (OpenSpec.preRow_of_cond 8 hx (by kernel_rfl) (fun k hk=>by cases hk) (by kernel_rfl) (by rw[laidMetH_bare _ _ _ (by kernel_rfl)];exact laidMet_laidAll _ (by kernel_rfl) (by kernel_rfl)))) ?_
  intro W base args ds gs before hval hW _ _ hwt hlaid hsh _;exact contract H enc W base args ds gs before hval hW hwt hsh hlaid
theorem said:Rows.GatewayChecksSaid:=
  OpenClaim.holds_of_cond 3 Tryz.f3 rfl rfl rfl rfl rfl rfl rfl ⟨rfl,rfl,rfl,rfl,rfl⟩ rfl rfl rfl rfl rfl (by kernel_rfl) Tryz.func3 closed
    (of_decide_eq_true (by kernel_rfl)) (by unfold Func.isWrapper;first|(rw[if_pos (by decide+kernel)];kernel_rfl)|(rw[if_neg (by decide+kernel)];exact⟨rfl,rfl⟩))
    (fun os started H enc _ F=>by rw[OpenClaim.pre_eq_preRow];exact lifted os started H enc F)
theorem plain(f:FuncId)(fn:Func)(hf:Tryz.pinned.checked.prog.funcNamed "wireschema/wireschemalaw55.GatewayChecks"=some f)(hfn:Tryz.pinned.checked.prog.funcs[f]? =some fn):
    true=Tryz.pinned.checked.prog.looks []/\∀(j:Nat) t,fn.params[j]? =some t->Tryz.pinned.checked.prog.wantsStandIn t=false:=by
  obtain rfl:f=3:=Option.some.inj ((show Tryz.prog.funcNamed "wireschema/wireschemalaw55.GatewayChecks"=some 3 by kernel_rfl).symm.trans hf)|>.symm;obtain rfl:fn=Tryz.f3:=(Option.some.inj (Tryz.func3.symm.trans hfn)).symm;refine⟨by kernel_rfl,fun j t ht=>?_⟩;rw[Tryz.params3]at ht;have hmem:=Array.mem_of_getElem? ht;simp only[Array.mem_def,List.mem_cons,List.mem_nil_iff,or_false]at hmem;rcases hmem with rfl|rfl
  · exact(show Tryz.prog.wantsStandIn 26=false by kernel_rfl)
  · exact(show Tryz.prog.wantsStandIn 27=false by kernel_rfl)
theorem proved:Rows.GatewayChecksCardSaid:=
  Claim7.holds_tied_plain_at .later [] _ _ _ _ said (fun _ h=>by cases h) (by kernel_rfl) (fun _ h=>by cases h) gatewayChecks_row_tie rfl ⟨rfl,rfl⟩ (by kernel_rfl) rfl plain kg
#print axioms proved
end Go.Proofs.YtkhgohfaecbgkaaGreatDoor.gatewayChecks
