/- Part 10 of the texts that prove TextformPrintsEnd. -/
import Derived.Test.YtdpomombdeccpaaGreatDoorTextformPrintsEndP7
import Derived.Test.YtdpomombdeccpaaGreatDoorTextformPrintsEndP6
import Derived.Test.YtdpomombdeccpaaGreatDoorTextformPrintsEndP0
import Derived.Test.YtdpomombdeccpaaGreatDoorTextformPrintsEndP5
import Derived.Test.YtdpomombdeccpaaGreatDoorTextformPrintsEndP4
import Derived.Test.YtdpomombdeccpaaGreatDoorTextformPrintsEndP3
import Derived.Lib.LaidU8
import Derived.Test.YtdpomombdeccpaaGreatDoorRows
import Derived.WalkKit
import Derived.JoinedCond
import Derived.SevenTiedAt
namespace Go.Proofs.YtdpomombdeccpaaGreatDoor.Lift
open Go.RowKit
set_option linter.unusedVariables false
set_option linter.unusedSimpArgs false
set_option linter.unnecessarySimpa false
set_option linter.unusedSectionVars false
set_option maxRecDepth 100000
theorem k10:Rows.textformPrintsUptoRow.inPlace=Tryz.prog.inPlace 3:=by kernel_rfl
theorem k11:Tryz.prog.unfollowed 3:=by kernel_rfl
theorem k12:Tryz.prog.recurses 3:=by unfold Program.recurses;rw[k11];rfl
theorem k13:Rows.textformPrintsUptoRow.named=Tryz.prog.varsNamed 3:=by kernel_rfl
theorem we:Tryz.prog.funcs.any Func.goes=false:=by kernel_rfl
theorem b2f{P:Program}(h:P.funcs.any Func.goes=false)(f:FuncId):P.goes f=false:=by
 unfold Program.goes;rw[h,Bool.and_false,Bool.or_false];refine List.any_eq_false.2 λg _=>?_
 cases hg:P.funcs[g]? with
 |none=>simp
 |some fn=>
  rw[Array.any_eq_false]at h;obtain⟨hl,he⟩:=Array.getElem?_eq_some_iff.1 hg;have:=h g hl;rw[he]at this;simpa using this
theorem kg:false=Rows.textformPrintsUptoRow.goesBy Tryz.prog:=by
 have:Rows.textformPrintsUptoRow.goesBy Tryz.prog=Tryz.prog.goesFrom Rows.textformPrintsUptoRow.func:=by unfold OpenClaim.goesBy Program.goesAt;exact Bool.or_false _
 rw[this];unfold Program.goesFrom;cases Tryz.prog.funcNamed Rows.textformPrintsUptoRow.func with
 |none=>rfl
 |some f=>rw[Option.any_some,b2f we]
theorem N1{a b:b4e}(h:a=true)(k:b=true):(a&&b):=by rw[h,k];rfl
set_option maxHeartbeats 100000000 in
theorem closed:joinedFacts Tryz.prog 3 Tryz.f3 (Rows.OpenSpec.upto Rows.textformPrintsSpec).bare Rows.textformPrintsUptoRow:=by
 unfold joinedFacts;refine(N1 (N1 (N1 (N1 (N1 (N1 (N1 (N1 (N1 (N1 (N1 (N1 (N1 (N1 (N1 (N1 (N1 (N1 (N1 (N1 (N1 (N1 (N1 (N1 (N1 (N1 (N1 (N1 (N1 (N1 (N1 ?_ ?_) ?_) ?_) ?_) ?_) ?_) ?_) ?_) ?_) ?_) ?_) ?_) ?_) ?_) ?_) ?_) ?_) ?_) ?_) ?_) ?_) ?_) ?_) ?_) ?_) ?_) ?_) ?_) ?_) ?_) ?_)
 ·as_aux_lemma=>kernel_rfl
 ·as_aux_lemma=>kernel_rfl
 ·as_aux_lemma=>kernel_rfl
 ·as_aux_lemma=>kernel_rfl
 ·as_aux_lemma=>kernel_rfl
 ·as_aux_lemma=>kernel_rfl
 ·as_aux_lemma=>kernel_rfl
 ·as_aux_lemma=>kernel_rfl
 ·as_aux_lemma=>kernel_rfl
 ·exact beq_iff_eq.2 k10
 ·exact beq_iff_eq.2 k11.symm
 ·exact beq_iff_eq.2 k12.symm
 ·exact beq_iff_eq.2 k13
 ·as_aux_lemma=>kernel_rfl
 ·as_aux_lemma=>kernel_rfl
 ·as_aux_lemma=>kernel_rfl
 ·as_aux_lemma=>kernel_rfl
 ·as_aux_lemma=>kernel_rfl
 ·as_aux_lemma=>kernel_rfl
 ·as_aux_lemma=>kernel_rfl
 ·as_aux_lemma=>kernel_rfl
 ·as_aux_lemma=>kernel_rfl
 ·as_aux_lemma=>kernel_rfl
 ·as_aux_lemma=>kernel_rfl
 ·as_aux_lemma=>kernel_rfl
 ·as_aux_lemma=>kernel_rfl
 ·as_aux_lemma=>kernel_rfl
 ·as_aux_lemma=>kernel_rfl
 ·as_aux_lemma=>kernel_rfl
 ·as_aux_lemma=>kernel_rfl
 ·as_aux_lemma=>kernel_rfl
 ·as_aux_lemma=>kernel_rfl
end Go.Proofs.YtdpomombdeccpaaGreatDoor.Lift
