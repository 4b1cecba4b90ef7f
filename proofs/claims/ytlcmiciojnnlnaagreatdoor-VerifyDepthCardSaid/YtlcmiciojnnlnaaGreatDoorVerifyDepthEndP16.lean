/- Part 17 of the texts that prove VerifyDepthEnd. -/
import Derived.Test.YtlcmiciojnnlnaaGreatDoorVerifyDepthEndP12
import Derived.Test.YtlcmiciojnnlnaaGreatDoorVerifyDepthEndP13
import Derived.Test.YtlcmiciojnnlnaaGreatDoorVerifyDepthEndP14
import Derived.Test.YtlcmiciojnnlnaaGreatDoorVerifyDepthEndP15
import Derived.Test.YtlcmiciojnnlnaaGreatDoorVerifyDepthEndP4
import Derived.Test.YtlcmiciojnnlnaaGreatDoorVerifyDepthEndP5
namespace Go.Proofs.YtlcmiciojnnlnaaGreatDoor.Lift
open Go.RowKit
set_option linter.unusedVariables false
set_option linter.unusedSimpArgs false
set_option linter.unnecessarySimpa false
set_option linter.unusedSectionVars false
set_option maxRecDepth 100000
theorem G8{P:Program}{T:N1}{g:Nat}{l:b5l AV}(h:Cg P g l)(t:T4 P T):T4 P ((g,0,G7 l,[])::T):=by
 intro f y hf;rcases List.mem_cons.1 hf with e|hf
 ·cases e;exact h
 ·exact t f y hf
theorem uD:T4 Tryz.prog ZB:=DI
theorem Do:Cg Tryz.prog 23 CH:=⟨by kernel_rfl,Cq uD 100000 i5 (by kernel_rfl)⟩
theorem a7f:T4 Tryz.prog ZC:=G8 Do<|DI
theorem Ea:Cg Tryz.prog 13 Cm:=⟨by kernel_rfl,Cq a7f 100000 a4i (by kernel_rfl)⟩
theorem a5o:T4 Tryz.prog Xp:=G8 Do<|G8 Ea<|DI
theorem FB:Cg Tryz.prog 26 DR:=⟨by kernel_rfl,Cq a5o 100000 a6e (by kernel_rfl)⟩
theorem a4o:T4 Tryz.prog Yq:=G8 Do<|G8 Ea<|G8 FB<|DI
theorem GU:Cg Tryz.prog 7 EG:=⟨by kernel_rfl,Cq a4o 100000 uM (by kernel_rfl)⟩
theorem a2s:T4 Tryz.prog Xv:=G8 Do<|G8 Ea<|G8 FB<|G8 GU<|DI
theorem HW:Cg Tryz.prog 13 Es:=⟨by kernel_rfl,Cq a2s 100000 a75 (by kernel_rfl)⟩
theorem a20:T4 Tryz.prog ZV:=G8 Do<|G8 Ea<|G8 FB<|G8 GU<|G8 HW<|DI
theorem MH:Cg Tryz.prog 7 GI:=⟨by kernel_rfl,Cq a20 100000 sh (by kernel_rfl)⟩
theorem a65:T4 Tryz.prog Zu:=G8 Do<|G8 Ea<|G8 FB<|G8 GU<|G8 HW<|G8 MH<|DI
theorem QH:Cg Tryz.prog 9 HT:=⟨by kernel_rfl,Cq a65 100000 a7u (by kernel_rfl)⟩
theorem vu:T4 Tryz.prog bg:=G8 Do<|G8 Ea<|G8 FB<|G8 GU<|G8 HW<|G8 MH<|G8 QH<|DI
theorem Wi:Cg Tryz.prog 13 Kj:=⟨by kernel_rfl,Cq vu 100000 ua (by kernel_rfl)⟩
theorem a8n:T4 Tryz.prog bu:=G8 Do<|G8 Ea<|G8 FB<|G8 GU<|G8 HW<|G8 MH<|G8 QH<|G8 Wi<|DI
theorem Zf:Cg Tryz.prog 11 kn8:=⟨by kernel_rfl,Cq a8n 100000 xz (by kernel_rfl)⟩
theorem a5f:T4 Tryz.prog dO:=G8 Do<|G8 Ea<|G8 FB<|G8 GU<|G8 HW<|G8 MH<|G8 QH<|G8 Wi<|G8 Zf<|DI
theorem jx:Cg Tryz.prog 23 Qx:=⟨by kernel_rfl,Cq a5f 100000 rh (by kernel_rfl)⟩
theorem b2t:T4 Tryz.prog ZP:=G8 Do<|G8 Ea<|G8 FB<|G8 GU<|G8 HW<|G8 MH<|G8 QH<|G8 Wi<|G8 Zf<|G8 jx<|DI
theorem rA:Cg Tryz.prog 25 Sh:=⟨by kernel_rfl,Cq b2t 100000 b2c (by kernel_rfl)⟩
theorem a3r:T4 Tryz.prog jW:=G8 Do<|G8 Ea<|G8 FB<|G8 GU<|G8 HW<|G8 MH<|G8 QH<|G8 Wi<|G8 Zf<|G8 jx<|G8 rA<|DI
noncomputable def aj:N1:=jW
theorem b3n:T4 Tryz.prog aj:=a3r
theorem a3m:(X6 aj V2 false (AL aj V2 100000) 6 [] ⟨[],[],qd⟩).map (λr=>W2 r.2 r.1)=some (.v (.bool true)):=by kernel_rfl
theorem su:Ce Tryz.prog qd 6 [] λb=>b=.v (.bool true):=Cq b3n 100000 a3m rfl
theorem wD:QD true:=by
 have h:=su;exact⟨h.1,λw outer cargs ho hg hr=>(h.2 w outer cargs ho hg hr).mono λe w' ⟨av,x,a,b,c,d⟩=>⟨av,x,a,b,c,by rw[d];rfl⟩⟩
end Go.Proofs.YtlcmiciojnnlnaaGreatDoor.Lift
