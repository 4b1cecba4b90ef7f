/- VerifyDepth: how deep what is read is, as the reference tells it; for every input the statement returns true. -/
import Derived.Test.YtlcmiciojnnlnaaGreatDoorCards
import Derived.Test.YtlcmiciojnnlnaaGreatDoorTie
import Derived.Test.YtlcmiciojnnlnaaGreatDoorVerifyDepthEndP7
import Derived.Test.YtlcmiciojnnlnaaGreatDoorVerifyDepthEndP16
import Derived.Test.YtlcmiciojnnlnaaGreatDoorVerifyDepthEndP17
import Derived.WalkKit
import Derived.ProofKit
import Derived.OpenShut
import Derived.Deep.DeepHandedRow
import Derived.Lay
import Derived.ChangeOld
import Derived.Stop.Joined
import Derived.Shelf.Vars
namespace Go.Proofs.YtlcmiciojnnlnaaGreatDoor.verifyDepth
open Go.ChangeShapes Go.WideShapes Go.ChangeAt Go.RowKit Lift
set_option linter.unusedVariables false
theorem own:ownKnob Tryz.prog.godebug=none:=by kernel_rfl
theorem laidOut:laidOutB Tryz.prog:=by kernel_rfl
theorem laidMetH_bare(P:Program)(l:b5l (String × DataW Unit))(w:World)(h:(l.filter λx=>x.2.handleName?.isSome)=[]):laidMetH P l w=laidMet P l w:=by
  unfold laidMetH;rw[h]
noncomputable def tsverifyDepth:b5l TypeId:=fx Tryz.prog 8 [25,9,9]
theorem okTsverifyDepth:Yt Tryz.prog tsverifyDepth:=by kernel_rfl
set_option maxRecDepth 100000 in
theorem contract(H:Type)(enc:TypeId × Value->H)(W:World)(base:Nat)(args:Array Value)(ds gs:b5l (DataW H))(before:b5l MemPlace)(hval:∀(j:Nat) t v,Tryz.f4.params[j]? =some t->args[j]? =some v->Value.okWide Tryz.prog W .any base t v)(hW:DataW.Whole enc Tryz.prog Tryz.f4.params.toList Rows.verifyDepthSpec.vars false W args.toList ds gs before)(hwt0:(DataW.weightsEach Tryz.prog (Tryz.f4.params.toList++(OpenSpec.ofChange Rows.verifyDepthSpec).bare.plain.varTypes Tryz.prog) (ds++gs)).all (· <=reachBytes)):
    Calls Tryz.prog 4 args W λe W'=>∃v,e=.returned v/\Rows.verifyDepthSpec.post enc Tryz.prog Tryz.f4 false true false false W args v W':=by
  have hW':=hW;obtain⟨p,q,hA0,hV,rfl,hfz,hnd⟩:=hW;have hA:DataW.TrodAll enc Tryz.prog W 0 (λ_=>true) true Tryz.f4.params.toList args.toList ds p:=hA0;rw[Tryz.params4]at hA hwt0;obtain⟨v0,vs0,d0,ds0,p0,q0,hargs,rfl,rfl,h0,r0⟩:=trodAll_cons hA;obtain⟨v1,vs1,d1,ds1,p1,q1,rfl,rfl,rfl,h1,r1⟩:=trodAll_cons r0;obtain⟨v2,vs2,d2,ds2,p2,q2,rfl,rfl,rfl,h2,r2⟩:=trodAll_cons r1;obtain⟨rfl,rfl,rfl⟩:=trodAll_nil r2;obtain rfl:args=#[v0,v1,v2]:=by cases args;simp_all
  obtain⟨rfl,rfl⟩:=trodVars_none hV
  have hwt:∀x∈DataW.weightsEach Tryz.prog (([25,9,9]:b5l TypeId)++[]) ([d0,d1,d2]++[]),x<=140737488351232:=by
    intro x hx;have:=List.all_eq_true.1 hwt0 x hx;exact of_decide_eq_true this
  have k0:=h0;have lt0:∀x∈p0,x.block<W.heap.size:=by obtain⟨m,hm⟩:=k0;exact DataW.trod_lt m _ _ _ hm
  have g0:Z5 Tryz.prog 25 d0:=λx hx=>hwt x (by simp only[List.cons_append,List.nil_append,DataW.weightsEach,List.mem_append];left;exact hx)
  obtain⟨n0,a0,e0,t0,_⟩:=Xd okTsverifyDepth (List.mem_of_elem_eq_true (by kernel_rfl)) (hval 0 25 v0 (by rw[Tryz.params4];rfl) rfl) h0 g0;obtain⟨x0,rfl,z0⟩:=a49 t0;have k1:=h1;have lt1:∀x∈p1,x.block<W.heap.size:=by obtain⟨m,hm⟩:=k1;exact DataW.trod_lt m _ _ _ hm
  have g1:Z5 Tryz.prog 9 d1:=λx hx=>hwt x (by simp only[List.cons_append,List.nil_append,DataW.weightsEach,List.mem_append];right;left;exact hx)
  obtain⟨n1,a1,e1,t1,_⟩:=Xd okTsverifyDepth (List.mem_of_elem_eq_true (by kernel_rfl)) (hval 1 9 v1 (by rw[Tryz.params4];rfl) rfl) h1 g1;obtain⟨x1,rfl,z1⟩:=jM t1;have k2:=h2;have lt2:∀x∈p2,x.block<W.heap.size:=by obtain⟨m,hm⟩:=k2;exact DataW.trod_lt m _ _ _ hm
  have g2:Z5 Tryz.prog 9 d2:=λx hx=>hwt x (by simp only[List.cons_append,List.nil_append,DataW.weightsEach,List.mem_append];right;right;left;exact hx)
  obtain⟨n2,a2,e2,t2,_⟩:=Xd okTsverifyDepth (List.mem_of_elem_eq_true (by kernel_rfl)) (hval 2 9 v2 (by rw[Tryz.params4];rfl) rfl) h2 g2;obtain⟨x2,rfl,z2⟩:=jM t2;clear hA0;refine(wX (xG x0 z0 x1 x2 wD) (aR e0 (aR e1 (aR e2 (sf _))))).mono λe W' ⟨he,bel⟩=>?_
  subst he;exact⟨_,rfl,_,_,_,[],_,[],hW',trodAll_mk1 (shut_bool Tryz.underlying4 _),(trodAll_cons_mk (Below.trod laidOut (by kernel_rfl) (of_decide_eq_true (by kernel_rfl)) k0 bel lt0) (trodAll_cons_mk (Below.trod laidOut (by kernel_rfl) (of_decide_eq_true (by kernel_rfl)) k1 bel lt1) (trodAll_cons_mk (Below.trod laidOut (by kernel_rfl) (of_decide_eq_true (by kernel_rfl)) k2 bel lt2) (trodAll_mk0)))),rfl,bel.frame _,λh=>by cases h⟩
theorem reads(os:Os){H:Type}(enc:TypeId × Value->H):∃P5,DataW.whole enc Tryz.prog ((World.laidAll Tryz.prog os Rows.verifyDepthRow.laid).forCall (λ_ _=>0) ⟨#[],#[.agg #[.slice none 0 0,.slice none 0 0],.string ⟨#[]⟩,.string ⟨#[]⟩],[]⟩).memory Tryz.f4.params.toList Rows.verifyDepthSpec.vars false (#[.agg #[.slice none 0 0,.slice none 0 0],.string ⟨#[]⟩,.string ⟨#[]⟩]:Array Value).toList 8=some ([.agg [.nil,.nil],.lit (.string []),.lit (.string [])],[],P5):=
  ⟨[],by kernel_rfl⟩
set_option maxRecDepth 100000 in
theorem lifted(os:Os)(started:os.Started)(H:Type)(enc:TypeId × Value->H)(F:Stop.Interp):
    ReturnsInHanded {} Tryz.checked os 4 .any ((OpenSpec.ofChange Rows.verifyDepthSpec).preRow enc Tryz.prog Tryz.f4 Rows.verifyDepthRow.domain false Rows.verifyDepthRow.laid) (((OpenSpec.ofChange Rows.verifyDepthSpec).at F).post enc Tryz.prog Tryz.f4 false true false false):=by
  obtain⟨P5,hx⟩:=reads os enc
  refine returnsInHanded_of_row (C:=Tryz.checked) (s:=OpenSpec.ofChange Rows.verifyDepthSpec) own started (by kernel_rfl) Tryz.func4
    (witness_row_at (enc:=enc) (C:=Tryz.checked) false (World.laidAll Tryz.prog os Rows.verifyDepthRow.laid) #[.agg #[.slice none 0 0,.slice none 0 0],.string ⟨#[]⟩,.string ⟨#[]⟩] (World.laidAll_os _ _ _) (by kernel_rfl) (by kernel_rfl) (by kernel_rfl)
      (OpenSpec.preRow_of_cond 8 hx (by kernel_rfl) (λk hk=>by cases hk) (by kernel_rfl) (by rw[laidMetH_bare _ _ _ (by kernel_rfl)];exact laidMet_laidAll _ (by kernel_rfl) (by kernel_rfl)))) ?_
  intro W base args ds gs before hval hW _ _ hwt _ hsh _;exact contract H enc W base args ds gs before hval hW hwt
theorem said:Rows.VerifyDepthSaid:=
  OpenClaim.holds_of_cond 4 Tryz.f4 rfl rfl rfl rfl rfl rfl rfl ⟨rfl,rfl,rfl,rfl,rfl⟩ rfl rfl rfl rfl rfl (by kernel_rfl) Tryz.func4 closed
    (of_decide_eq_true (by kernel_rfl)) (by unfold Func.isWrapper;first|(rw[if_pos (by decide+kernel)];kernel_rfl)|(rw[if_neg (by decide+kernel)];exact⟨rfl,rfl⟩))
    (λos started H enc _ F=>by rw[OpenClaim.pre_eq_preRow];exact lifted os started H enc F)
theorem plain(f:FuncId)(fn:Func)(hf:Tryz.pinned.checked.prog.funcNamed "wireschema/wireschemalaw26.VerifyDepth"=some f)(hfn:Tryz.pinned.checked.prog.funcs[f]? =some fn):
    true=Tryz.pinned.checked.prog.looks []/\∀(j:Nat) t,fn.params[j]? =some t->Tryz.pinned.checked.prog.wantsStandIn t=false:=by
  obtain rfl:f=4:=Option.some.inj ((show Tryz.prog.funcNamed "wireschema/wireschemalaw26.VerifyDepth"=some 4 by kernel_rfl).symm.trans hf)|>.symm;obtain rfl:fn=Tryz.f4:=(Option.some.inj (Tryz.func4.symm.trans hfn)).symm;refine⟨by kernel_rfl,λj t ht=>?_⟩;rw[Tryz.params4]at ht;have hmem:=Array.mem_of_getElem? ht;simp only[Array.mem_def,List.mem_cons,List.mem_nil_iff,or_false]at hmem;rcases hmem with rfl|rfl|rfl
  · exact(show Tryz.prog.wantsStandIn 25=false by kernel_rfl)
  · exact(show Tryz.prog.wantsStandIn 9=false by kernel_rfl)
  · exact(show Tryz.prog.wantsStandIn 9=false by kernel_rfl)
theorem proved:Rows.VerifyDepthCardSaid:=
  Claim7.holds_tied_plain_at .later [] _ _ _ _ said (λ_ h=>by cases h) (by kernel_rfl) (λ_ h=>by cases h) verifyDepth_row_tie rfl ⟨rfl,rfl⟩ (by kernel_rfl) rfl plain kg
#print axioms proved
end Go.Proofs.YtlcmiciojnnlnaaGreatDoor.verifyDepth
