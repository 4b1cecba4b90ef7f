/- Part 7 of the texts that prove VerifyDepthEnd. -/
import Derived.Test.YtlcmiciojnnlnaaGreatDoorVerifyDepthEndP3
import Derived.Test.YtlcmiciojnnlnaaGreatDoorVerifyDepthEndP4
import Derived.Test.YtlcmiciojnnlnaaGreatDoorVerifyDepthEndP5
import Derived.Test.YtlcmiciojnnlnaaGreatDoorVerifyDepthEndP2
import Derived.Lib.DecodeN
namespace Go.Proofs.YtlcmiciojnnlnaaGreatDoor.Lift
open Go.RowKit
set_option linter.unusedVariables false
set_option linter.unusedSimpArgs false
set_option linter.unnecessarySimpa false
set_option linter.unusedSectionVars false
set_option maxRecDepth 100000
section
def lA(cmp:B5)(x y:A0 × A0)(z:Int):Prop:=Q4 Tryz.prog [] (.clo (.func cmp.fn) cmp.fi cmp.cap) [.agg (Q6 x),.agg (Q6 y)] (.v (.int .i64 z))
def b3h(cmp:B5):EW ((A0 × A0)) (lA cmp) where
 Kn:=λa0 a1 a2 a3 a4 a5 a6=>Ry a0 a1 a2 a3 a4 a5 a6
 sw:=λa0 a1 a2 a3 a4 a6=>OT a0 a1 a2 a3 a4 cmp a6
 HK:=λa0 a1 a2 a3 a5 a6=>Nb a0 a1 a2 a3 cmp a5 a6
 ro:=λa0 a1 a2 a3 a4 a6=>bi a0 a1 a2 a3 a4 cmp a6
 Kg:=λa0 a1 a2 a3 a4 a6 a7=>Tk a0 a1 a2 a3 a4 cmp a6 a7
 HD:=λa0 a1 a2 a3 a5 a6=>Tg a0 a1 a2 a3 cmp a5 a6
 ins:=λa0 a1 a2 a3 a5=>VO a0 a1 a2 a3 cmp a5
 Km:=λa0 a1 a2 a3 a4=>SC a0 a1 a2 a3 a4
 HF:=λa0 a1 a2 a3 a5 a6=>PA a0 a1 a2 a3 cmp a5 a6
 Kv:=λa0 a1 a2 a3 a4=>Su a0 a1 a2 a3 a4
 Gy:=λa0 a1 a2 a3 a5 a6=>PB a0 a1 a2 a3 cmp a5 a6
 HJ:=λa0 a1 a2 a3 a4 a6 a7=>Tm a0 a1 a2 a3 a4 cmp a6 a7
 HA:=λa0 a1 a2 a3 a4 a6 a7=>SD a0 a1 a2 a3 a4 cmp a6 a7
 Fx:=λa0 a1 a2 a3 a4 a5 a7 a8=>OJ a0 a1 a2 a3 a4 a5 cmp a7 a8
 NF:=λa0 a1 a2 a3 a4 a5 a7 a8=>SL a0 a1 a2 a3 a4 a5 cmp a7 a8
 sy:=λa0 a1 a2 a3 a4 a6=>LO a0 a1 a2 a3 a4 cmp a6
 Kr:=λa0 a1 a2 a3 a4 a6 a7=>Rc a0 a1 a2 a3 a4 cmp a6 a7
 Eo:=λa0 a1 a2 a4 a5=>QQ a0 a1 a2 cmp a4 a5
 Kq:=λa0 a1 a2 a3 a5 a6=>Vd a0 a1 a2 a3 cmp a5 a6
 st:=λa0 a1 a2 a4=>cl a0 a1 a2 cmp a4
 so:=λa0 a1 a3=>Zd a0 a1 cmp a3
 RB:=λa0 a1 a2 a3 a4 a5 a6 h=>ug a0 a1 a2 a3 a4 a5 a6 h
 Wv:=λa0 a1 a2 a3 a4 a6 h=>b0p a0 a1 a2 a3 a4 cmp a6 h
 NI:=λa0 a1 a2 a3 a5 a6 h=>a0x a0 a1 a2 a3 cmp a5 a6 h
 Wz:=λa0 a1 a2 a3 a4 a6 h=>tz a0 a1 a2 a3 a4 cmp a6 h
 NK:=λa0 a1 a2 a3 a4 a6 a7 h=>b0i a0 a1 a2 a3 a4 cmp a6 a7 h
 NE:=λa0 a1 a2 a3 a5 a6 h=>xV a0 a1 a2 a3 cmp a5 a6 h
 Qm:=λa0 a1 a2 a3 a5 h=>b3r a0 a1 a2 a3 cmp a5 h
 RA:=λa0 a1 a2 a3 a4 h=>a9m a0 a1 a2 a3 a4 h
 NJ:=λa0 a1 a2 a3 a5 a6 h=>a9h a0 a1 a2 a3 cmp a5 a6 h
 Qo:=λa0 a1 a2 a3 a4 h=>a6t a0 a1 a2 a3 a4 h
 NG:=λa0 a1 a2 a3 a5 a6 h=>yI a0 a1 a2 a3 cmp a5 a6 h
 Qn:=λa0 a1 a2 a3 a4 a6 a7 h=>tr a0 a1 a2 a3 a4 cmp a6 a7 h
 Qp:=λa0 a1 a2 a3 a4 a6 a7 h=>tu a0 a1 a2 a3 a4 cmp a6 a7 h
 NH:=λa0 a1 a2 a3 a4 a5 a7 a8 h=>b2w a0 a1 a2 a3 a4 a5 cmp a7 a8 h
 Qu:=λa0 a1 a2 a3 a4 a5 a7 a8 h=>b1e a0 a1 a2 a3 a4 a5 cmp a7 a8 h
 Kk:=λa0 a1 a2 a3 a4 a6 h=>vD a0 a1 a2 a3 a4 cmp a6 h
 Ks:=λa0 a1 a2 a3 a4 a6 a7 h=>vC a0 a1 a2 a3 a4 cmp a6 a7 h
 NM:=λa0 a1 a2 a4 a5 h=>vH a0 a1 a2 cmp a4 a5 h
 NL:=λa0 a1 a2 a3 a5 a6 h=>rF a0 a1 a2 a3 cmp a5 a6 h
 XI:=λa0 a1 a2 a4 h=>zb a0 a1 a2 cmp a4 h
 XJ:=λa0 a1 a3 h=>sU a0 a1 cmp a3 h
def lX(cmp:B5)(x y:Int × A0)(z:Int):Prop:=Q4 Tryz.prog [] (.clo (.func cmp.fn) cmp.fi cmp.cap) [.agg (T9 x),.agg (T9 y)] (.v (.int .i64 z))
def b3l(cmp:B5):EW ((Int × A0)) (lX cmp) where
 Kn:=λa0 a1 a2 a3 a4 a5 a6=>Wh a0 a1 a2 a3 a4 a5 a6
 sw:=λa0 a1 a2 a3 a4 a6=>Ox a0 a1 a2 a3 a4 cmp a6
 HK:=λa0 a1 a2 a3 a5 a6=>PJ a0 a1 a2 a3 cmp a5 a6
 ro:=λa0 a1 a2 a3 a4 a6=>bp a0 a1 a2 a3 a4 cmp a6
 Kg:=λa0 a1 a2 a3 a4 a6 a7=>TA a0 a1 a2 a3 a4 cmp a6 a7
 HD:=λa0 a1 a2 a3 a5 a6=>Uw a0 a1 a2 a3 cmp a5 a6
 ins:=λa0 a1 a2 a3 a5=>Wl a0 a1 a2 a3 cmp a5
 Km:=λa0 a1 a2 a3 a4=>Se a0 a1 a2 a3 a4
 HF:=λa0 a1 a2 a3 a5 a6=>Pu a0 a1 a2 a3 cmp a5 a6
 Kv:=λa0 a1 a2 a3 a4=>Rq a0 a1 a2 a3 a4
 Gy:=λa0 a1 a2 a3 a5 a6=>Pv a0 a1 a2 a3 cmp a5 a6
 HJ:=λa0 a1 a2 a3 a4 a6 a7=>Um a0 a1 a2 a3 a4 cmp a6 a7
 HA:=λa0 a1 a2 a3 a4 a6 a7=>UJ a0 a1 a2 a3 a4 cmp a6 a7
 Fx:=λa0 a1 a2 a3 a4 a5 a7 a8=>Od a0 a1 a2 a3 a4 a5 cmp a7 a8
 NF:=λa0 a1 a2 a3 a4 a5 a7 a8=>Wf a0 a1 a2 a3 a4 a5 cmp a7 a8
 sy:=λa0 a1 a2 a3 a4 a6=>Ln a0 a1 a2 a3 a4 cmp a6
 Kr:=λa0 a1 a2 a3 a4 a6 a7=>WF a0 a1 a2 a3 a4 cmp a6 a7
 Eo:=λa0 a1 a2 a4 a5=>Oz a0 a1 a2 cmp a4 a5
 Kq:=λa0 a1 a2 a3 a5 a6=>TS a0 a1 a2 a3 cmp a5 a6
 st:=λa0 a1 a2 a4=>aK a0 a1 a2 cmp a4
 so:=λa0 a1 a3=>Xs a0 a1 cmp a3
 RB:=λa0 a1 a2 a3 a4 a5 a6 h=>o8 a0 a1 a2 a3 a4 a5 a6 h
 Wv:=λa0 a1 a2 a3 a4 a6 h=>a2l a0 a1 a2 a3 a4 cmp a6 h
 NI:=λa0 a1 a2 a3 a5 a6 h=>rD a0 a1 a2 a3 cmp a5 a6 h
 Wz:=λa0 a1 a2 a3 a4 a6 h=>sR a0 a1 a2 a3 a4 cmp a6 h
 NK:=λa0 a1 a2 a3 a4 a6 a7 h=>vX a0 a1 a2 a3 a4 cmp a6 a7 h
 NE:=λa0 a1 a2 a3 a5 a6 h=>a2x a0 a1 a2 a3 cmp a5 a6 h
 Qm:=λa0 a1 a2 a3 a5 h=>yV a0 a1 a2 a3 cmp a5 h
 RA:=λa0 a1 a2 a3 a4 h=>a3l a0 a1 a2 a3 a4 h
 NJ:=λa0 a1 a2 a3 a5 a6 h=>xw a0 a1 a2 a3 cmp a5 a6 h
 Qo:=λa0 a1 a2 a3 a4 h=>wx a0 a1 a2 a3 a4 h
 NG:=λa0 a1 a2 a3 a5 a6 h=>a2b a0 a1 a2 a3 cmp a5 a6 h
 Qn:=λa0 a1 a2 a3 a4 a6 a7 h=>qz a0 a1 a2 a3 a4 cmp a6 a7 h
 Qp:=λa0 a1 a2 a3 a4 a6 a7 h=>b1o a0 a1 a2 a3 a4 cmp a6 a7 h
 NH:=λa0 a1 a2 a3 a4 a5 a7 a8 h=>b23 a0 a1 a2 a3 a4 a5 cmp a7 a8 h
 Qu:=λa0 a1 a2 a3 a4 a5 a7 a8 h=>a5p a0 a1 a2 a3 a4 a5 cmp a7 a8 h
 Kk:=λa0 a1 a2 a3 a4 a6 h=>a1w a0 a1 a2 a3 a4 cmp a6 h
 Ks:=λa0 a1 a2 a3 a4 a6 a7 h=>a8h a0 a1 a2 a3 a4 cmp a6 a7 h
 NM:=λa0 a1 a2 a4 a5 h=>vh a0 a1 a2 cmp a4 a5 h
 NL:=λa0 a1 a2 a3 a5 a6 h=>rG a0 a1 a2 a3 cmp a5 a6 h
 XI:=λa0 a1 a2 a4 h=>wu a0 a1 a2 cmp a4 h
 XJ:=λa0 a1 a3 h=>a2r a0 a1 cmp a3 h
def fu(cmp:B5)(x y:A6)(z:Int):Prop:=Q4 Tryz.prog [] (.clo (.func cmp.fn) cmp.fi cmp.cap) [.agg (C6 x),.agg (C6 y)] (.v (.int .i64 z))
def u6(cmp:B5):EW (A6) (fu cmp) where
 Kn:=λa0 a1 a2 a3 a4 a5 a6=>Tf a0 a1 a2 a3 a4 a5 a6
 sw:=λa0 a1 a2 a3 a4 a6=>OY a0 a1 a2 a3 a4 cmp a6
 HK:=λa0 a1 a2 a3 a5 a6=>QE a0 a1 a2 a3 cmp a5 a6
 ro:=λa0 a1 a2 a3 a4 a6=>XR a0 a1 a2 a3 a4 cmp a6
 Kg:=λa0 a1 a2 a3 a4 a6 a7=>Vl a0 a1 a2 a3 a4 cmp a6 a7
 HD:=λa0 a1 a2 a3 a5 a6=>UP a0 a1 a2 a3 cmp a5 a6
 ins:=λa0 a1 a2 a3 a5=>TJ a0 a1 a2 a3 cmp a5
 Km:=λa0 a1 a2 a3 a4=>Vz a0 a1 a2 a3 a4
 HF:=λa0 a1 a2 a3 a5 a6=>Of a0 a1 a2 a3 cmp a5 a6
 Kv:=λa0 a1 a2 a3 a4=>TG a0 a1 a2 a3 a4
 Gy:=λa0 a1 a2 a3 a5 a6=>Pt a0 a1 a2 a3 cmp a5 a6
 HJ:=λa0 a1 a2 a3 a4 a6 a7=>SM a0 a1 a2 a3 a4 cmp a6 a7
 HA:=λa0 a1 a2 a3 a4 a6 a7=>WW a0 a1 a2 a3 a4 cmp a6 a7
 Fx:=λa0 a1 a2 a3 a4 a5 a7 a8=>OU a0 a1 a2 a3 a4 a5 cmp a7 a8
 NF:=λa0 a1 a2 a3 a4 a5 a7 a8=>UZ a0 a1 a2 a3 a4 a5 cmp a7 a8
 sy:=λa0 a1 a2 a3 a4 a6=>MI a0 a1 a2 a3 a4 cmp a6
 Kr:=λa0 a1 a2 a3 a4 a6 a7=>Tz a0 a1 a2 a3 a4 cmp a6 a7
 Eo:=λa0 a1 a2 a4 a5=>Nh a0 a1 a2 cmp a4 a5
 Kq:=λa0 a1 a2 a3 a5 a6=>Sw a0 a1 a2 a3 cmp a5 a6
 st:=λa0 a1 a2 a4=>cI a0 a1 a2 cmp a4
 so:=λa0 a1 a3=>VC a0 a1 cmp a3
 RB:=λa0 a1 a2 a3 a4 a5 a6 h=>j8 a0 a1 a2 a3 a4 a5 a6 h
 Wv:=λa0 a1 a2 a3 a4 a6 h=>b11 a0 a1 a2 a3 a4 cmp a6 h
 NI:=λa0 a1 a2 a3 a5 a6 h=>b0v a0 a1 a2 a3 cmp a5 a6 h
 Wz:=λa0 a1 a2 a3 a4 a6 h=>vp a0 a1 a2 a3 a4 cmp a6 h
 NK:=λa0 a1 a2 a3 a4 a6 a7 h=>xN a0 a1 a2 a3 a4 cmp a6 a7 h
 NE:=λa0 a1 a2 a3 a5 a6 h=>b1v a0 a1 a2 a3 cmp a5 a6 h
 Qm:=λa0 a1 a2 a3 a5 h=>rX a0 a1 a2 a3 cmp a5 h
 RA:=λa0 a1 a2 a3 a4 h=>l8 a0 a1 a2 a3 a4 h
 NJ:=λa0 a1 a2 a3 a5 a6 h=>a5u a0 a1 a2 a3 cmp a5 a6 h
 Qo:=λa0 a1 a2 a3 a4 h=>rC a0 a1 a2 a3 a4 h
 NG:=λa0 a1 a2 a3 a5 a6 h=>a3c a0 a1 a2 a3 cmp a5 a6 h
 Qn:=λa0 a1 a2 a3 a4 a6 a7 h=>yq a0 a1 a2 a3 a4 cmp a6 a7 h
 Qp:=λa0 a1 a2 a3 a4 a6 a7 h=>b0h a0 a1 a2 a3 a4 cmp a6 a7 h
 NH:=λa0 a1 a2 a3 a4 a5 a7 a8 h=>xf a0 a1 a2 a3 a4 a5 cmp a7 a8 h
 Qu:=λa0 a1 a2 a3 a4 a5 a7 a8 h=>ym a0 a1 a2 a3 a4 a5 cmp a7 a8 h
 Kk:=λa0 a1 a2 a3 a4 a6 h=>rc a0 a1 a2 a3 a4 cmp a6 h
 Ks:=λa0 a1 a2 a3 a4 a6 a7 h=>v5 a0 a1 a2 a3 a4 cmp a6 a7 h
 NM:=λa0 a1 a2 a4 a5 h=>a5s a0 a1 a2 cmp a4 a5 h
 NL:=λa0 a1 a2 a3 a5 a6 h=>a1u a0 a1 a2 a3 cmp a5 a6 h
 XI:=λa0 a1 a2 a4 h=>a1x a0 a1 a2 cmp a4 h
 XJ:=λa0 a1 a3 h=>a9y a0 a1 cmp a3 h
attribute [local irreducible] Ok run put W1 br jn pos HO GH So
theorem sE(f:Nat):B4 Tryz.prog [] 379 [.sl [] .no,aI 0,aI 0,.clo (.func f) [] []] (.tuple []):=
 fP (rfl:()=()) (O8 18 (B:=false) (b:=false) rfl<|KR (T:=Unit) (e:=λ_=>.tuple []) (r:=()) (r0:=()) 4)
theorem a3d(f:Nat):B4 Tryz.prog [] 335 [.sl [] .no,aI 0,.clo (.func f) [] []] (.tuple []):=
 fP (And.intro (sE f) (rfl:()=())) (O8 24 (B:=false) (b:=false) rfl<|DK 11<|O8 13 (B:=false) (b:=false) rfl<|KR (T:=Unit) (e:=λ_=>.tuple []) (r:=()) (r0:=()) 4)
theorem tN(f:Nat):jf (⟨f,[],[],rfl⟩:B5):=
 fP (And.intro (a3d f) (rfl:()=())) (KL 3 C5 []<|DK 1<|KR (T:=Unit) (e:=λ_=>.tuple []) (r:=()) (r0:=()) 1)
theorem a4f(f:Nat):B4 Tryz.prog [] 333 [.sl [] .no,aI 0,aI 0,.clo (.func f) [] []] (.tuple []):=
 fP (rfl:()=()) (O8 18 (B:=false) (b:=false) rfl<|KR (T:=Unit) (e:=λ_=>.tuple []) (r:=()) (r0:=()) 4)
theorem a66(f:Nat):B4 Tryz.prog [] 265 [.sl [] .no,aI 0,.clo (.func f) [] []] (.tuple []):=
 fP (And.intro (a4f f) (rfl:()=())) (O8 24 (B:=false) (b:=false) rfl<|DK 11<|O8 13 (B:=false) (b:=false) rfl<|KR (T:=Unit) (e:=λ_=>.tuple []) (r:=()) (r0:=()) 4)
theorem b1t(f:Nat):fC (⟨f,[],[],rfl⟩:B5):=
 fP (And.intro (a66 f) (rfl:()=())) (KL 3 D2 []<|DK 1<|KR (T:=Unit) (e:=λ_=>.tuple []) (r:=()) (r0:=()) 1)
theorem b3j(f:Nat):B4 Tryz.prog [] 275 [.sl [] .no,aI 0,aI 0,.clo (.func f) [] []] (.tuple []):=
 fP (rfl:()=()) (O8 18 (B:=false) (b:=false) rfl<|KR (T:=Unit) (e:=λ_=>.tuple []) (r:=()) (r0:=()) 4)
theorem xX(f:Nat):B4 Tryz.prog [] 165 [.sl [] .no,aI 0,.clo (.func f) [] []] (.tuple []):=
 fP (And.intro (b3j f) (rfl:()=())) (O8 24 (B:=false) (b:=false) rfl<|DK 11<|O8 13 (B:=false) (b:=false) rfl<|KR (T:=Unit) (e:=λ_=>.tuple []) (r:=()) (r0:=()) 4)
theorem a85(f:Nat):gK (⟨f,[],[],rfl⟩:B5):=
 fP (And.intro (xX f) (rfl:()=())) (KL 3 D4 []<|DK 1<|KR (T:=Unit) (e:=λ_=>.tuple []) (r:=()) (r0:=()) 1)
end
def G4(x y:Int):Int:=if x<y then -1 else if y<x then 1 else 0
theorem Ik(x y:Int):ET x y (G4 x y):=by
 refine zv _ _ _ ⟨false,iz _ _ (by simp),false,iz _ _ (by simp),λh=>by simp at h,λ_=>⟨λh=>by simp at h,λ_=>⟨λh=>?_,λh=>⟨λh2=>?_,λh2=>?_⟩⟩⟩⟩
 ·simp at h;simp[G4,h]
 ·simp at h h2;simp[G4,h2];omega
 ·simp at h h2;simp only[G4];rw[if_neg (by omega),if_neg (by omega)]
theorem Z8(x y:Int):(x<y/\G4 x y= -1)\/(x=y/\G4 x y=0)\/(y<x/\G4 x y=1):=by
 unfold G4;split
 ·exact .inl ⟨by assumption,rfl⟩
 ·split
  ·exact .inr (.inr ⟨by assumption,rfl⟩)
  ·exact .inr (.inl ⟨by omega,rfl⟩)
theorem bz{α:Type}(k:α->Int):Pre (λx y=>G4 (k x) (k y)) (λ_:α=>True):=by
 refine⟨λx y _ _=>?_,λx y z _ _ _ h1 h2=>?_⟩
 ·rcases Z8 (k x) (k y) with h|h|h<;>rcases Z8 (k y) (k x) with g|g|g<;>simp only[h.2,g.2]<;>omega
 ·rcases Z8 (k x) (k y) with h|h|h<;>rcases Z8 (k y) (k z) with g|g|g<;>rcases Z8 (k x) (k z) with e|e|e<;>simp only[h.2,g.2,e.2]at* <;>omega
theorem zo(a b:Int × A0):gg a b (G4 a.1 b.1):=vg _ _ _ ⟨_,Ik _ _,rfl⟩
theorem a4e(x y:Int × A0):lX (⟨158,[],[],rfl⟩:B5) x y (G4 x.1 y.1):=⟨158,[],[],rfl,(show C3 [AV.agg (T9 x),AV.agg (T9 y)]=true by simp[C3,plain,X3]),zo x y⟩
def Co:b5l (Int × A0)->b5l (Int × A0)
 |[]=>[]
 |[x]=>[x]
 |x::y::l=>if x.1=y.1 then Co (y::l) else x::Co (y::l)
theorem sW(S:b5l (Int × A0))(hl:S.length*136<=140737488355328):∀(d i:Nat) (done:b5l (Int × A0)),S.length - i<=d->i<=S.length->done.length<=i->Qa i S done (done++Co (S.drop i)):=by
 intro d
 induction d with
 |zero=>
  intro i done hd hi hn;have e:i=S.length:=by omega
  subst e;exact ZY _ _ _ _ ⟨λh=>by simp at h,λ_=>by simp[Co]⟩
 |succ d ih=>
  intro i done hd hi hn;rcases Nat.lt_or_ge i S.length with hlt|hge
  ·have e1:wI ((i:Int)+1)=((i+1:Nat):Int):=by rw[wI,C7 (by omega)];omega
   have g1:S[i]? =some S[i]:=b48 hlt;have dr:S.drop i=S[i]::S.drop (i+1):=b5c hlt;refine ZY _ _ _ _ ⟨λ_=>⟨S[i],by simpa using g1,by omega,λb=>Co (S.drop i)=if b then S[i]::Co (S.drop (i+1)) else Co (S.drop (i+1)),λb hb=>⟨λh=>?_,λh=>?_⟩,λh=>?_,λh=>?_⟩,λh=>by simp at h;omega⟩
   ·subst h;refine⟨by simp;omega,?_⟩;rw[e1,hb];have:=ih (i+1) (done++[S[i]]) (by omega) (by omega) (by simp;omega);simpa using this
   ·subst h;rw[e1,hb];exact ih (i+1) done (by omega) (by omega) (by omega)
   ·rw[e1]at h;simp at h;have:S.drop (i+1)=[]:=b5d (by omega);rw[dr,this];rfl
   ·rw[e1]at h ⊢;simp at h;have h2:i+1<S.length:=by omega
    have g2:S[i+1]? =some S[i+1]:=b48 h2;have DU:S.drop (i+1)=S[i+1]::S.drop (i+1+1):=b5c h2;refine⟨S[i+1],by simpa using g2,by omega,?_⟩;rw[dr,DU];simp only[Co];rcases Classical.em (S[i].1=S[i+1].1) with h3|h3
    ·simp[h3]
    ·simp[h3]
  ·exact ZY _ _ _ _ ⟨λh=>by simp at h;omega,λ_=>by rw[b5d hge];simp[Co]⟩
theorem a97(l:b5l (Int × A0))(hl:l.length*136<=140737488355328):∃S,Ez (λx y:Int × A0=>G4 x.1 y.1) l S/\PO l (Co S):=by
 rcases Classical.em (l=[]) with h0|h0
 ·subst h0;refine⟨[],⟨[],.nil,by simp[P5],rfl⟩,kH _ _ ⟨λ_=>⟨?_,b1t _,sM _ _ _ ⟨λh=>by simp at h,λ_=>rfl⟩⟩,λh=>(h rfl).elim⟩⟩
  first|exact qD _ _ ⟨rfl,rfl⟩|exact qD _ _ λb _=>⟨λ_=>rfl,λ_=>⟨by simp,rfl⟩⟩
 ·have hpos:0<l.length:=List.length_pos_iff.2 h0;obtain⟨S,h1,h2,h3⟩:=Yl (b3l ⟨158,[],[],rfl⟩) (bz λx:Int × A0=>x.1) (λx y _ _=>a4e x y) (n0:=l.length) (by omega) hpos (P5 l) (by simp[P5]) (λ_ _=>trivial) (Yr l);rw[NU]at h3;have hlen:(fs S).length=l.length:=by simp[h2.length_eq,P5]
  refine⟨fs S,⟨S,h1,h2,rfl⟩,kH _ _ ⟨λh=>(h0 h).elim,λ_=>⟨q8 _ ⟨h0,hl⟩,fs S,h3,⟨h0,λh=>?_⟩,hlen,?_⟩⟩⟩
  ·rw[h]at hlen;simp at hlen;omega
  ·have:=sW (fs S) (by rw[hlen];exact hl) (fs S).length 0 [] (by omega) (by omega) (by simp);simpa using this
theorem a0l(a:Nat):a&&&4503599627370495=a % 4503599627370496:=Nat.and_two_pow_sub_one_eq_mod a 52
theorem jQ(z:Nat)(hz:z<18446744073709551616):We z (GT z):=by
 have e1:I3 .and .u64 (z:Int) 9218868437227405312=((z % 9223372036854775808 / 4503599627370496*4503599627370496:Nat):Int):=by
  have:=Sd z 9218868437227405312 hz (by omega);rw[ui]at this;exact this
 have e2:I3 .and .u64 (z:Int) 4503599627370495=((z % 4503599627370496:Nat):Int):=by
  have:=Sd z 4503599627370495 hz (by omega);rw[a0l]at this;exact this
 refine b0k _ _ ?_;rw[e1,e2];simp only[ID,IF,b47,Bool.and_eq_false_iff,beq_iff_eq,beq_eq_false_iff_ne,bne_iff_ne,bne_eq_false_iff_eq];unfold GT;refine⟨λh=>?_,λh=>⟨λh2=>?_,λh2=>⟨λh3=>?_,λh3=>⟨λh4=>?_,λh4=>?_⟩⟩⟩⟩
 all_goals (repeat' split)<;>first|rfl|(exfalso;omega)
theorem oC(z:Nat)(hz:z<18446744073709551616):Uh z (GT z):=by
 have e:(z:Int).tmod 9223372036854775808=((z % 9223372036854775808:Nat):Int):=rfl;refine a5z _ _ ?_;rw[e];simp only[ID,IF,b45,b46,beq_iff_eq,beq_eq_false_iff_ne];unfold GT;refine⟨λh=>?_,λh=>⟨λh2=>?_,λh2=>⟨λh3=>?_,λh3=>⟨λh4=>?_,λh4=>?_⟩⟩⟩⟩
 all_goals (repeat' split)<;>first|rfl|(exfalso;omega)
section
open Go.RowKit Go.ChangeShapes Go.WideShapes Go.ChangeAt
def Kl(P:Program)(n:Nat)(t:TypeId)(av:AV):Prop:=
 match P.underlying t with
 |some (.struct _)|some (.array _ _)=>∃avs,av=.agg avs/\Ty P n t avs
 |_=>Ty P n t [av]
theorem kP{σ:Sg}{avs:b5l AV}{cs:Array Value}(h:D3 σ avs cs.toList):Rel σ (.agg avs) (.agg cs):=by
 refine .agg avs cs (by simpa using h.1) (λi av hi=>(h.2 i av hi).1) (λi=>cs.toList[i]?.getD (.bool false)) (λi av hi=>?_) (λi av hi=>?_)
 ·obtain⟨_,x,hx,_⟩:=h.2 i av hi;rw[hx];simpa using hx
 ·obtain⟨_,x,hx,hr⟩:=h.2 i av hi;rw[hx];exact hr
theorem VW{σ:Sg}{av:AV}{v:Value}(h:D3 σ [av] v.cells.toList)(hv:∀cs,v≠.agg cs):Rel σ av v:=by
 obtain⟨_,x,hx,hr⟩:=h.2 0 av rfl;cases v with
 |agg cs=>exact absurd rfl (hv cs)
 |_=>simp[Value.cells]at hx;subst hx;exact hr
section
variable {H:Type}{enc:TypeId × Value->H}{P:Program}{W:World}{base b0:Nat}{spare:Nat->b5n}{held:b5n}
theorem Xd{ts:b5l TypeId}(ok:Yt P ts){t:TypeId}(ht:t∈ts){v:Value}{d:DataW H}{p:b5l MemPlace}(hval:Value.okWide P W .any b0 t v)(h:DataW.Trod enc P W base spare held t v d p)(hw:Z5 P t d):
  ∃n av,Rel (bare W FA) av v/\Kl P n t av/\plain av:=by
 obtain⟨m,hm⟩:=h;obtain⟨avs,hc,hty,hpl⟩:=a5g ok m t _ _ ht hm hw;cases m with
 |zero=>simp[DataW.trod]at hm
 |succ m=>
  have hok:=List.all_eq_true.1 ok t ht;unfold eX at hok;unfold Kl;unfold Value.okWide at hval;split at hok
  ·rename_i k hu;rw[hu]at hval;simp only[Cell.okWide,hu,Cell.ok]at hval;have h2:=hty;unfold Ty at h2;rw[hu]at h2;obtain⟨x,rfl,_⟩:=h2;refine⟨m+1,_,VW hc (λcs he=>by subst he;simp at hval),by rw[hu];exact hty,rfl⟩
  ·rename_i hu;rw[hu]at hval;simp only[Cell.okWide,hu,Cell.ok]at hval;have h2:=hty;unfold Ty at h2;rw[hu]at h2;obtain⟨x,rfl⟩:=h2;refine⟨m+1,_,VW hc (λcs he=>by subst he;simp at hval),by rw[hu];exact hty,rfl⟩
  ·rename_i hu;rw[hu]at hval;simp only[Cell.okWide,hu,Cell.ok]at hval;have h2:=hty;unfold Ty at h2;rw[hu]at h2;obtain⟨x,rfl,_⟩:=h2;refine⟨m+1,_,VW hc (λcs he=>by subst he;simp at hval),by rw[hu];exact hty,rfl⟩
  ·rename_i e hu;rw[hu]at hval;simp only[Cell.okWide,hu,Cell.ok]at hval;have h2:=hty;unfold Ty at h2;rw[hu]at h2;obtain⟨x,rfl,_⟩:=h2;refine⟨m+1,_,VW hc (λcs he=>by subst he;simp at hval),by rw[hu];exact hty,by simpa[C3]using hpl⟩
  ·rename_i fs hu;rw[hu]at hval;obtain⟨cs,rfl,_⟩:=hval;exact⟨m+1,.agg avs,kP hc,by rw[hu];exact⟨avs,rfl,hty⟩,hpl⟩
  ·rename_i k e hu;rw[hu]at hval;obtain⟨cs,rfl,_⟩:=hval;exact⟨m+1,.agg avs,kP hc,by rw[hu];exact⟨avs,rfl,hty⟩,hpl⟩
  ·cases hok
end
def a3t(P:Program)(t:TypeId):b5l TypeId:=
 match P.underlying t with
 |some (.slice e)=>[e]
 |some (.struct fs)=>fs.toList.map (·.type)
 |some (.array _ e)=>[e]
 |_=>[]
def lM:b5l TypeId->b5l TypeId->b5l TypeId
 |l,[]=>l
 |l,t::r=>lM (if l.contains t then l else l++[t]) r
def fx(P:Program):Nat->b5l TypeId->b5l TypeId
 |0,l=>l
 |n+1,l=>fx P n (lM l (l.flatMap (a3t P)))
theorem sf(σ:Sg):U3 σ [] []:=⟨rfl,λi av h=>by simp at h⟩
theorem aR{σ:Sg}{a:AV}{v:Value}{l:b5l AV}{xs:b5l Value}(h:Rel σ a v)(hr:U3 σ l xs):U3 σ (a::l) (v::xs):=by
 refine⟨by simp[hr.1],λi av hi=>?_⟩;cases i with
 |zero=>simp at hi;subst hi;exact⟨v,rfl,h⟩
 |succ i=>obtain⟨x,h1,h2⟩:=hr.2 i av (by simpa using hi);exact⟨x,by simpa using h1,h2⟩
theorem a43{av:AV}(h:nz av=.v (.bool true)):av=.v (.bool true):=by
 cases av with
 |v x=>simpa[nz,AM,L8]using h
 |_=>simp[nz,AM,L8]at h
theorem wX{P:Program}{f:FuncId}{args:b5l AV}{cargs:Array Value}{W:World}(hf:B4 P [] f args (.v (.bool true)))(hr:U3 (bare W FA) args cargs.toList):
  Calls P f cargs W λe W'=>e=.returned (.bool true)/\Below W.heap.size W W':=by
 refine(hf.2 W FA cargs (λb o h=>h.elim) (λg cells h=>by cases h) hr).mono λe W' ⟨av,x,he,hp,hrel,hav⟩=>?_
 rw[a43 hav]at hrel;cases hrel with
 |v _ _=>exact⟨he,hp.below⟩
end
def I64(n:Int):Prop:= -9223372036854775808<=n/\n<=9223372036854775807
def AJ(n:Int):Prop:=0<=n/\n<18446744073709551616
def Sz(n:Nat):Prop:=n<=140737488351232
structure Jt(x:A6):Prop where
 num:I64 x.Num
 wire:I64 x.L9
 bits:AJ x.Bits
 data:Sz x.Data.size
inductive F1:A0->Prop
 |mk (v:A0) (k:I64 v.Kind) (b:AJ v.Bits) (t:Sz v.Text.size) (l:Sz v.B8.length) (p:Sz v.Pairs.length) (s:Sz v.Slots.length) (r:Sz v.C4.length)
  (hl:∀x∈v.B8,F1 x) (hk:∀x∈v.Pairs,F1 x.1) (hv:∀x∈v.Pairs,F1 x.2) (hn:∀x∈v.Slots,I64 x.1) (hs:∀x∈v.Slots,F1 x.2) (hr:∀x∈v.C4,Jt x) (w:Sz (v.B8.length*128)/\Sz (v.Pairs.length*256)/\Sz (v.Slots.length*136)/\Sz (v.C4.length*40)):F1 v
section
variable {P:Program}{n:Nat}{t:TypeId}{avs:b5l AV}
def eW(P:Program)(m:Nat):b5l TypeId->b5l AV->Prop
 |[],avs=>avs=[]
 |t::ts,avs=>∃a b,avs=a++b/\Ty P m t a/\eW P m ts b
theorem kK{m:Nat}:∀(fs:b5l Field) (parts:b5l (b5l AV)),parts.length=fs.length->(∀(i:Nat) (f:Field),fs[i]? =some f->∃p,parts[i]? =some p/\Ty P m f.type p)->eW P m (fs.map (·.type)) parts.flatten
 |[],[],_,_=>rfl
 |[],_::_,h,_=>by cases h
 |_::_,[],h,_=>by cases h
 |f::fs,p::parts,hl,h=>by
  obtain⟨q,hq,hty⟩:=h 0 f rfl;cases hq;exact⟨p,parts.flatten,by simp,hty,kK fs parts (by simpa using hl) λi g hg=>h (i+1) g (by simpa using hg)⟩
def WN(P:Program)(t:TypeId):b5m (b5l TypeId):=match P.underlying t with|some (.struct fs)=>some (fs.toList.map (·.type))|_=>none
theorem Dt{ts:b5l TypeId}(hu:WN P t=some ts)(h:Ty P n t avs):∃m,n=m+1/\eW P m ts avs:=by
 cases n with
 |zero=>exact absurd h (by unfold Ty;exact id)
 |succ m=>
  unfold WN at hu;unfold Ty at h;split at hu
  ·rename_i fs hfs;rw[hfs]at h;obtain⟨parts,rfl,hl,hp⟩:=h;cases hu;exact⟨m,rfl,kK fs.toList parts (by simpa using hl) (λi f hf=>hp i f (by simpa using hf))⟩
  ·cases hu
theorem mg{k:IntKind}(hu:P.underlying t=some (.int k))(h:Ty P n t avs):∃m,avs=[.v (.int k m)]/\(Lit.int k m).wf:=by
 cases n with
 |zero=>exact absurd h (by unfold Ty;exact id)
 |succ m=>unfold Ty at h;rw[hu]at h;exact h
theorem Bx(hu:P.underlying t=some (.int .i64))(h:Ty P n t avs):∃m,avs=[.v (.int .i64 m)]/\I64 m:=by
 obtain⟨m,h1,h2⟩:=mg hu h;refine⟨m,h1,?_⟩;simp only[Lit.wf,b47,b45]at h2;exact h2
theorem qI(hu:P.underlying t=some (.int .u64))(h:Ty P n t avs):∃m,avs=[.v (.int .u64 m)]/\AJ m:=by
 obtain⟨m,h1,h2⟩:=mg hu h;refine⟨m,h1,?_⟩;simp only[Lit.wf,b47,b45]at h2;have e1:IntKind.u64.min=0:=by decide
 have e2:IntKind.u64.max=18446744073709551615:=by decide
 unfold AJ;omega
theorem a4c(hu:P.underlying t=some .bool)(h:Ty P n t avs):∃b,avs=[.v (.bool b)]:=by
 cases n with
 |zero=>exact absurd h (by unfold Ty;exact id)
 |succ m=>unfold Ty at h;rw[hu]at h;exact h
theorem Fp(hu:P.underlying t=some .string)(h:Ty P n t avs):∃s:b5k,avs=[.v (.string s)]/\Sz s.size:=by
 cases n with
 |zero=>exact absurd h (by unfold Ty;exact id)
 |succ m=>unfold Ty at h;rw[hu]at h;exact h
theorem Px{e:TypeId}{G:Type}{enc:G->b5l AV}{Ok:G->Prop}(hu:P.underlying t=some (.slice e)){w:Nat}(hw:P.bytesOf e=w)(hb:1<=P.bytesOf e)(hel:∀m avs,m<n->Ty P m e avs->∃x,avs=enc x/\Ok x)(h:Ty P n t avs):∃l:b5l G,avs=[.sl (l.map enc) .no]/\(Sz l.length/\Sz (l.length*w))/\∀x∈l,Ok x:=by
 cases n with
 |zero=>exact absurd h (by unfold Ty;exact id)
 |succ m=>
  unfold Ty at h;rw[hu]at h;obtain⟨els,rfl,hl,hty⟩:=h;have hn:els.length<=140737488351232:=Nat.le_trans (Nat.le_mul_of_pos_right _ hb) hl
  have:∀els:b5l (b5l AV),(∀el∈els,Ty P m e el)->∃l:b5l G,els=l.map enc/\∀x∈l,Ok x:=by
   intro els
   induction els with
   |nil=>exact λ_=>⟨[],rfl,λx h=>by cases h⟩
   |cons a els ih=>
    intro h;obtain⟨l,rfl,hl⟩:=ih λel hel=>h el (List.mem_cons_of_mem _ hel)
    obtain⟨x,rfl,hx⟩:=hel m a (Nat.lt_succ_self m) (h a List.mem_cons_self);exact⟨x::l,rfl,λy hy=>(List.mem_cons.1 hy).elim (λe=>e▸hx) (hl y)⟩
  obtain⟨l,rfl,hok⟩:=this els hty;exact⟨l,rfl,⟨by simpa[Sz]using hn,by subst hw;simpa[Sz]using hl⟩,hok⟩
theorem Lo{e:TypeId}{G:Type}{enc:G->b5l AV}{Ok:G->Prop}(hu:P.underlying t=some (.slice e))(hb:1<=P.bytesOf e)(hel:∀m avs,m<n->Ty P m e avs->∃x,avs=enc x/\Ok x)(h:Ty P n t avs):∃l:b5l G,avs=[.sl (l.map enc) .no]/\Sz l.length/\∀x∈l,Ok x:=by
 obtain⟨l,h1,h2,h3⟩:=Px hu rfl hb hel h;exact⟨l,h1,h2.1,h3⟩
theorem a3x{av:AV}{ts:b5l TypeId}(hu:WN P t=some ts)(h:Kl P n t av):∃avs,av=.agg avs/\Ty P n t avs:=by
 unfold Kl at h;unfold WN at hu;split at hu
 ·rename_i fs hfs;rw[hfs]at h;exact h
 ·cases hu
end
section
variable {n:Nat}{avs:b5l AV}{av:AV}
theorem a29(h:Ty Tryz.prog n 129 avs):∃x,avs=C6 x/\Jt x:=by
 obtain⟨m,rfl,a1,b1,rfl,h1,a2,b2,rfl,h2,a3,b3,rfl,h3,a4,b4,rfl,h4,rfl⟩:=Dt (ts:=[3,3,36,9]) (by kernel_rfl) h;obtain⟨x1,rfl,k1⟩:=Bx (by kernel_rfl) h1;obtain⟨x2,rfl,k2⟩:=Bx (by kernel_rfl) h2;obtain⟨x3,rfl,k3⟩:=qI (by kernel_rfl) h3;obtain⟨x4,rfl,k4⟩:=Fp (by kernel_rfl) h4;exact⟨⟨x1,x2,x3,x4⟩,rfl,⟨k1,k2,k3,k4⟩⟩
theorem a16:∀(n:Nat) (avs:b5l AV),Ty Tryz.prog n 42 avs->∃x,avs=H1 x/\F1 x:=by
 intro n
 induction n using Nat.strongRecOn with
 |_ n ih=>
  intro avs h;obtain⟨m,rfl,a1,b1,rfl,h1,a2,b2,rfl,h2,a3,b3,rfl,h3,a4,b4,rfl,h4,a5,b5,rfl,h5,a6,b6,rfl,h6,a7,b7,rfl,h7,rfl⟩:=Dt (ts:=[3,36,9,37,38,39,40]) (by kernel_rfl) h;obtain⟨x1,rfl,k1⟩:=Bx (by kernel_rfl) h1;obtain⟨x2,rfl,k2⟩:=qI (by kernel_rfl) h2;obtain⟨x3,rfl,k3⟩:=Fp (by kernel_rfl) h3;obtain⟨x4,rfl,⟨n4,w4⟩,k4⟩:=Px (w:=128) (e:=42) (enc:=H1) (Ok:=F1) (by kernel_rfl) (by kernel_rfl) (of_decide_eq_true (by kernel_rfl)) (λk a hk ha=>ih k (by omega) a ha) h4
  obtain⟨x5,rfl,⟨n5,w5⟩,k5⟩:=Px (w:=256) (e:=98) (enc:=D6) (Ok:=λx=>F1 x.1/\F1 x.2) (by kernel_rfl) (by kernel_rfl) (of_decide_eq_true (by kernel_rfl)) (λk a hk ha=>by
   obtain⟨q,rfl,a1,b1,rfl,h1,a2,b2,rfl,h2,rfl⟩:=Dt (ts:=[42,42]) (by kernel_rfl) ha;obtain⟨y1,rfl,z1⟩:=ih q (by omega) _ h1;obtain⟨y2,rfl,z2⟩:=ih q (by omega) _ h2;exact⟨(y1,y2),by simp[D6],z1,z2⟩) h5
  obtain⟨x6,rfl,⟨n6,w6⟩,k6⟩:=Px (w:=136) (e:=100) (enc:=D7) (Ok:=λx=>I64 x.1/\F1 x.2) (by kernel_rfl) (by kernel_rfl) (of_decide_eq_true (by kernel_rfl)) (λk a hk ha=>by
   obtain⟨q,rfl,a1,b1,rfl,h1,a2,b2,rfl,h2,rfl⟩:=Dt (ts:=[3,42]) (by kernel_rfl) ha;obtain⟨y1,rfl,z1⟩:=Bx (by kernel_rfl) h1;obtain⟨y2,rfl,z2⟩:=ih q (by omega) _ h2;exact⟨(y1,y2),by simp[D7],z1,z2⟩) h6
  obtain⟨x7,rfl,⟨n7,w7⟩,k7⟩:=Px (w:=40) (e:=129) (enc:=C6) (Ok:=Jt) (by kernel_rfl) (by kernel_rfl) (of_decide_eq_true (by kernel_rfl)) (λk a hk ha=>a29 ha) h7;refine⟨⟨x1,x2,x3,x4,x5,x6,x7⟩,?_,.mk _ k1 k2 k3 n4 n5 n6 n7 k4 (λx hx=>(k5 x hx).1) (λx hx=>(k5 x hx).2) (λx hx=>(k6 x hx).1) (λx hx=>(k6 x hx).2) k7 ⟨w4,w5,w6,w7⟩⟩;rw[EM];rfl
theorem jM(h:Kl Tryz.prog n 9 av):∃x:b5k,av=.v (.string x)/\Sz x.size:=by
 have hu:Tryz.prog.underlying 9=some .string:=by kernel_rfl
 unfold Kl at h;rw[hu]at h;obtain⟨x,hx,k⟩:=Fp hu h;exact⟨x,by simpa using hx,k⟩
end
def L7{α:Type}(c:α->α->Int):b5l α->b5l α->Int
 |[],[]=>0
 |[],_::_=> -1
 |_::_,[]=>1
 |x::l,y::m=>if c x y≠0 then c x y else L7 c l m
theorem Sk{α:Type}{J:Int->b5l α->b5l α->Int->Prop}{C:α->α->Int->Prop}(c:α->α->Int)(step:∀i s t r,((decide (i<(s.length:Int)))=true->∃y4,s[i.toNat]? =some y4/\0<=i/\(((decide ((t.length:Int)<=i))=true->r=1)/\((decide ((t.length:Int)<=i))=false->∃y5,t[i.toNat]? =some y5/\0<=i/\(∃y6,C y4 y5 y6/\(((y6 !=0)=true->r=y6)/\((y6 !=0)=false->J (wI (i+1)) s t r))))))/\((decide (i<(s.length:Int)))=false->((decide ((s.length:Int)<(t.length:Int)))=true->r=(-1))/\((decide ((s.length:Int)<(t.length:Int)))=false->r=0))->J i s t r)(s t:b5l α)(hs:s.length<=140737488351232)(hC:∀x∈s,∀y∈t,C x y (c x y)):J 0 s t (L7 c s t):=by
 have key:∀(d i:Nat),s.length - i<=d->i<=s.length->i<=t.length->J i s t (L7 c (s.drop i) (t.drop i)):=by
  intro d
  induction d with
  |zero=>
   intro i hd hi hj;have e:i=s.length:=by omega
   subst e;refine step _ _ _ _ ⟨λh=>by simp at h,λ_=>⟨λh=>?_,λh=>?_⟩⟩
   ·simp at h;rw[List.drop_length,b5c h];rfl
   ·simp at h;rw[List.drop_length,b5d h];rfl
  |succ d ih=>
   intro i hd hi hj;rcases Nat.lt_or_ge i s.length with hlt|hge
   ·have e1:wI ((i:Int)+1)=((i+1:Nat):Int):=by rw[wI,C7 (by omega)];omega
    have ds:s.drop i=s[i]::s.drop (i+1):=b5c hlt;refine step _ _ _ _ ⟨λ_=>⟨s[i],by simp,by omega,λh=>?_,λh=>?_⟩,λh=>by simp at h;omega⟩
    ·simp at h;rw[ds,b5d h];rfl
    ·simp at h;have dt:t.drop i=t[i]::t.drop (i+1):=b5c h;refine⟨t[i],by simp,by omega,c s[i] t[i],hC _ (List.getElem_mem _) _ (List.getElem_mem _),λh2=>?_,λh2=>?_⟩
     ·simp at h2;rw[ds,dt];simp[L7,h2]
     ·simp at h2;rw[ds,dt,e1];have:=ih (i+1) (by omega) (by omega) (by omega);simpa[L7,h2]using this
   ·have e:i=s.length:=by omega
    subst e;refine step _ _ _ _ ⟨λh=>by simp at h,λ_=>⟨λh=>?_,λh=>?_⟩⟩
    ·simp at h;rw[List.drop_length,b5c h];rfl
    ·simp at h;rw[List.drop_length,b5d h];rfl
 simpa using key s.length 0 (by omega) (by omega) (by omega)
def N7:b5l Int->Int
 |[]=>0
 |x::l=>if x≠0 then x else N7 l
theorem WC(l:b5l Int)(hl:l.length<=1000):Me l (N7 l):=by
 refine yc _ _ ?_
 have key:∀(d i:Nat),l.length - i<=d->i<=l.length->UV i l (N7 (l.drop i)):=by
  intro d
  induction d with
  |zero=>
   intro i hd hi;exact cB _ _ _ ⟨λh=>by simp at h;omega,λ_=>by rw[b5d (by omega)];rfl⟩
  |succ d ih=>
   intro i hd hi;rcases Nat.lt_or_ge i l.length with hlt|hge
   ·have e1:wI ((i:Int)+1)=((i+1:Nat):Int):=by rw[wI,C7 (by omega)];omega
    have ds:l.drop i=l[i]::l.drop (i+1):=b5c hlt;refine cB _ _ _ ⟨λ_=>⟨l[i],by simp,by omega,λh=>?_,λh=>?_⟩,λh=>by simp at h;omega⟩
    ·simp at h;rw[ds];simp[N7,h]
    ·simp at h;rw[ds,e1];have:=ih (i+1) (by omega) (by omega);simpa[N7,h]using this
   ·exact cB _ _ _ ⟨λh=>by simp at h;omega,λ_=>by rw[b5d hge];rfl⟩
 simpa using key l.length 0 (by omega) (by omega)
def Ak(x y:b5k):Int:=if Op.bytesLess x.toList y.toList=true then -1 else if(!(Op.bytesLess x.toList y.toList||x.toList==y.toList))=true then 1 else 0
theorem iQ(x y:b5k):WS x y (Ak x y):=by
 refine b0e _ _ _ ⟨false,hO _ _ (by simp),false,hO _ _ (by simp),λh=>by simp at h,λ_=>⟨λh=>by simp at h,λ_=>⟨λh=>?_,λh=>⟨λh2=>?_,λh2=>?_⟩⟩⟩⟩
 ·simp[Ak,h]
 ·unfold Ak;rw[if_neg (by rw[h];simp),if_pos h2]
 ·unfold Ak;rw[if_neg (by rw[h];simp),if_neg (by rw[h2];simp)]
theorem cU(x y:Int):QB x y (G4 x y):=by
 refine tc _ _ _ ⟨false,jF _ _ (by simp),false,jF _ _ (by simp),λh=>by simp at h,λ_=>⟨λh=>by simp at h,λ_=>⟨λh=>?_,λh=>⟨λh2=>?_,λh2=>?_⟩⟩⟩⟩
 ·simp at h;simp[G4,h]
 ·simp at h h2;simp[G4,h2];omega
 ·simp at h h2;simp only[G4];rw[if_neg (by omega),if_neg (by omega)]
def DA(x:Int):Int:=if((GT x.toNat:Int)==0)=true then 18446744073709551615 else if((I3 .and .u64 x 9223372036854775808) !=0)=true then I3 .xor .u64 (IntKind.u64.max) x else I3 .or .u64 x 9223372036854775808
theorem jp(x:Int)(hx:AJ x):WX x (DA x):=by
 have hc:=jQ x.toNat (by have:=hx.2;omega);rw[show((x.toNat:Nat):Int)=x from Int.toNat_of_nonneg hx.1]at hc;refine uT _ _ ⟨_,hc,λh=>?_,λh=>⟨λh2=>?_,λh2=>?_⟩⟩
 ·unfold DA;rw[if_pos h]
 ·unfold DA;rw[if_neg (by rw[h];simp),if_pos h2]
 ·unfold DA;rw[if_neg (by rw[h];simp),if_neg (by rw[h2];simp)]
def isS(k:Int):b5n:=(decide (1<=k))&&(decide (k<=9))
def W0(a b:A0):Int:=
 if((a.Kind==7)||(a.Kind==8))=true then Ak a.Text b.Text
 else if((a.Kind==2)||(a.Kind==3))=true then G4 (wI a.Bits) (wI b.Bits)
 else if(a.Kind==6)=true then G4 (DA a.Bits) (DA b.Bits)
 else G4 a.Bits b.Bits
theorem nt{b:b5n}(h:b=false):¬b=true:=by rw[h];simp
theorem a7y(a b:A0)(hk:a.Kind=b.Kind)(hs:isS a.Kind)(ha:AJ a.Bits)(hb:AJ b.Bits):ag a b (W0 a b):=by
 refine b2l _ _ _ ⟨λh=>by simp[hk]at h,λ_=>⟨true,PR _ _ hs.symm,λh=>by simp at h,λ_=>⟨_,fT _ _ rfl,λh=>⟨_,iQ _ _,?_⟩,λh=>⟨λh2=>⟨_,Ik _ _,?_⟩,λh2=>⟨λh3=>⟨_,jp _ ha,_,jp _ hb,_,cU _ _,?_⟩,λh3=>⟨_,cU _ _,?_⟩⟩⟩⟩⟩⟩
 ·unfold W0;rw[if_pos h]
 ·unfold W0;rw[if_neg (nt h),if_pos h2]
 ·unfold W0;rw[if_neg (nt h),if_neg (nt h2),if_pos h3]
 ·unfold W0;rw[if_neg (nt h),if_neg (nt h2),if_neg (nt h3)]
def ED(x y:A6):Int:=N7 [G4 x.Num y.Num,G4 x.L9 y.L9,G4 x.Bits y.Bits,Ak x.Data y.Data]
def O4:Nat->A0->A0->Int
 |0,_,_=>0
 |n+1,a,b=>
  if a.Kind≠b.Kind then G4 a.Kind b.Kind
  else if isS a.Kind=true then W0 a b
  else if a.Kind=11 then L7 (O4 n) a.B8 b.B8
  else if a.Kind=12 then L7 (λx y=>N7 [O4 n x.1 y.1,O4 n x.2 y.2]) a.Pairs b.Pairs
  else if a.Kind=10 then N7 [L7 (λx y=>N7 [G4 x.1 y.1,O4 n x.2 y.2]) a.Slots b.Slots,L7 ED a.C4 b.C4]
  else 0
def X2(v:A0):M8:=
 if isS v.Kind=true then .GK v else if(v.Kind==11)=true then .DV v.B8 else if(v.Kind==12)=true then .DS v.Pairs else if(v.Kind==10)=true then .DP ⟨v.Slots,v.C4⟩ else .nil
theorem jA(v:A0):Tq v (X2 v):=by
 refine xL _ _ ⟨_,PR _ _ rfl,λh=>?_,λh=>⟨λh1=>?_,λh1=>⟨λh2=>?_,λh2=>⟨λh3=>?_,λh3=>?_⟩⟩⟩⟩
 ·unfold X2 isS;rw[if_pos h]
 ·unfold X2 isS;rw[if_neg (nt h),if_pos h1]
 ·unfold X2 isS;rw[if_neg (nt h),if_neg (nt h1),if_pos h2]
 ·unfold X2 isS;rw[if_neg (nt h),if_neg (nt h1),if_neg (nt h2),if_pos h3]
 ·unfold X2 isS;rw[if_neg (nt h),if_neg (nt h1),if_neg (nt h2),if_neg (nt h3)]
theorem F1.inv{v:A0}(h:F1 v):I64 v.Kind/\AJ v.Bits/\(Sz v.B8.length/\Sz v.Pairs.length/\Sz v.Slots.length/\Sz v.C4.length)/\(∀x∈v.B8,F1 x)/\(∀x∈v.Pairs,F1 x.1/\F1 x.2)/\(∀x∈v.Slots,F1 x.2):=by
 cases h with
 |mk _ k b t l p s r hl hk hv hn hs hr w=>exact⟨k,b,⟨l,p,s,r⟩,hl,λx hx=>⟨hk x hx,hv x hx⟩,hs⟩
theorem F1.w{v:A0}(h:F1 v):Sz (v.B8.length*128)/\Sz (v.Pairs.length*256)/\Sz (v.Slots.length*136)/\Sz (v.C4.length*40):=by
 cases h with
 |mk _ _ _ _ _ _ _ _ _ _ _ _ _ _ w=>exact w
theorem a9z(x y:A6):nq x y (ED x y):=b0d _ _ _ ⟨_,Ik _ _,_,Ik _ _,_,cU _ _,_,iQ _ _,_,WC _ (by simp),rfl⟩
theorem Kp{a x:A0}(h:x∈a.B8):SizeOf.sizeOf x<SizeOf.sizeOf a:=by
 have:=List.sizeOf_lt_of_mem h;cases a;simp at this ⊢;omega
theorem Kt{a:A0}{x:A0 × A0}(h:x∈a.Pairs):SizeOf.sizeOf x.1<SizeOf.sizeOf a/\SizeOf.sizeOf x.2<SizeOf.sizeOf a:=by
 have:=List.sizeOf_lt_of_mem h;cases a;cases x;simp at this ⊢;omega
theorem Kx{a:A0}{x:Int × A0}(h:x∈a.Slots):SizeOf.sizeOf x.2<SizeOf.sizeOf a:=by
 have:=List.sizeOf_lt_of_mem h;cases a;cases x;simp at this ⊢;omega
theorem Ky(a:A0):0<SizeOf.sizeOf a:=by cases a;simp;omega
theorem Mr:∀(n:Nat) (a b:A0),F1 a->F1 b->SizeOf.sizeOf a<=n->IP a b (O4 n a b)
 |0,a,b,_,_,h=>by have:=Ky a;omega
 |n+1,a,b,ha,hb,hn=>by
  obtain⟨_,hab,⟨la,pa,sa,ra⟩,hla,hpa,hsa⟩:=ha.inv;obtain⟨_,hbb,_,hlb,hpb,hsb⟩:=hb.inv;refine a1d _ _ _ ⟨λh=>⟨_,Ik _ _,?_⟩,λh=>⟨_,jA b,_,jA a,?_⟩⟩
  ·simp at h;rw[O4,if_pos h]
  have hk:a.Kind=b.Kind:=by simpa using h
  rw[O4,if_neg (by simp[hk])]
  by_cases h1:isS a.Kind=true
  ·have ea:X2 a=.GK a:=by unfold X2;rw[if_pos h1]
   rw[if_pos h1,ea];refine⟨λy hy=>?_,λhn=>(hn a rfl).elim⟩;cases hy;exact⟨_,a7y a b hk h1 hab hbb,rfl⟩
  ·rw[if_neg h1]
   by_cases h2:a.Kind=11
   ·have ea:X2 a=.DV a.B8:=by unfold X2;rw[if_neg h1,if_pos (by simp[h2])]
    have eb:X2 b=.DV b.B8:=by unfold X2;rw[if_neg (by rw[<-hk];exact h1),if_pos (by simp[<-hk,h2])]
    rw[if_pos h2,ea,eb];refine⟨λy hy=>(by cases hy),λ_=>⟨λy hy=>?_,λhn=>(hn _ rfl).elim⟩⟩;cases hy;refine⟨_,rfl,_,tV _ _ _ _ (Sk (J:=λi s t r=>Tu i s t (⟨270,[],[],rfl⟩:B5) r) (O4 n) (λi s t r hw=>a2g _ _ _ _ _ hw) _ _ la λx hx y hy=>?_),rfl⟩;exact⟨270,[],[],rfl,(show C3 [AV.agg (C0 x),AV.agg (C0 y)]=true by simp[C3,plain,N0]),Mr n x y (hla x hx) (hlb y hy) (by have:=Kp hx;omega)⟩
   ·rw[if_neg h2]
    by_cases h3:a.Kind=12
    ·have ea:X2 a=.DS a.Pairs:=by unfold X2;rw[if_neg h1,if_neg (by simp[h2]),if_pos (by simp[h3])]
     have eb:X2 b=.DS b.Pairs:=by unfold X2;rw[if_neg (by rw[<-hk];exact h1),if_neg (by simp[<-hk,h2]),if_pos (by simp[<-hk,h3])]
     rw[if_pos h3,ea,eb];refine⟨λy hy=>(by cases hy),λ_=>⟨λy hy=>(by cases hy),λ_=>⟨λy hy=>?_,λhn=>(hn _ rfl).elim⟩⟩⟩;cases hy;refine⟨_,rfl,_,rY _ _ _ _ (Sk (J:=λi s t r=>Ub i s t (⟨340,[],[],rfl⟩:B5) r) (λx y=>N7 [O4 n x.1 y.1,O4 n x.2 y.2]) (λi s t r hw=>b2i _ _ _ _ _ hw) _ _ pa λx hx y hy=>?_),rfl⟩;have hz:=Kt hx;exact⟨340,[],[],rfl,(show C3 [AV.agg (Q6 x),AV.agg (Q6 y)]=true by simp[C3,plain,X0]),xp _ _ _ ⟨_,Mr n _ _ (hpa x hx).1 (hpb y hy).1 (by omega),_,Mr n _ _ (hpa x hx).2 (hpb y hy).2 (by omega),_,WC _ (by simp),rfl⟩⟩
    ·rw[if_neg h3]
     by_cases h4:a.Kind=10
     ·have ea:X2 a=.DP ⟨a.Slots,a.C4⟩:=by unfold X2;rw[if_neg h1,if_neg (by simp[h2]),if_neg (by simp[h3]),if_pos (by simp[h4])]
      have eb:X2 b=.DP ⟨b.Slots,b.C4⟩:=by unfold X2;rw[if_neg (by rw[<-hk];exact h1),if_neg (by simp[<-hk,h2]),if_neg (by simp[<-hk,h3]),if_pos (by simp[<-hk,h4])]
      rw[if_pos h4,ea,eb];refine⟨λy hy=>(by cases hy),λ_=>⟨λy hy=>(by cases hy),λ_=>⟨λy hy=>(by cases hy),λ_=>⟨λy hy=>?_,λhn=>(hn _ rfl).elim⟩⟩⟩⟩;cases hy;refine⟨_,rfl,_,b3z _ _ _ _ (Sk (J:=λi s t r=>Uy i s t (⟨343,[],[],rfl⟩:B5) r) (λx y=>N7 [G4 x.1 y.1,O4 n x.2 y.2]) (λi s t r hw=>tb _ _ _ _ _ hw) _ _ sa λx hx y hy=>?_),_,xT _ _ _ _ (Sk (J:=λi s t r=>UB i s t (⟨345,[],[],rfl⟩:B5) r) ED (λi s t r hw=>d8 _ _ _ _ _ hw) _ _ ra λx hx y hy=>?_),_,WC _ (by simp),rfl⟩
      ·have hz:=Kx hx;exact⟨343,[],[],rfl,(show C3 [AV.agg (T9 x),AV.agg (T9 y)]=true by simp[C3,plain,X3]),zf _ _ _ ⟨_,Ik _ _,_,Mr n _ _ (hsa x hx) (hsb y hy) (by omega),_,WC _ (by simp),rfl⟩⟩
      ·exact⟨345,[],[],rfl,(show C3 [AV.agg (C6 x),AV.agg (C6 y)]=true by simp[C3,plain,U2]),a9z x y⟩
     ·have ea:X2 a=.nil:=by unfold X2;rw[if_neg h1,if_neg (by simp[h2]),if_neg (by simp[h3]),if_neg (by simp[h4])]
      rw[if_neg h4,ea];exact⟨λy hy=>(by cases hy),λ_=>⟨λy hy=>(by cases hy),λ_=>⟨λy hy=>(by cases hy),λ_=>⟨λy hy=>(by cases hy),λ_=>rfl⟩⟩⟩⟩
theorem yW(a:Nat)(h:a<18446744073709551616):I3 .xor .u64 (IntKind.u64.max) (a:Int)=((18446744073709551615 - a:Nat):Int):=by
 have e3:I3 .xor .u64 (IntKind.u64.max) (a:Int)=IntKind.u64.wrap (((BitVec.allOnes 64 ^^^ BitVec.ofInt 64 (a:Int)).toNat:Nat):Int):=rfl;rw[e3,BitVec.xor_comm];exact z4 a h
theorem a8s(a:Nat)(h:a<18446744073709551616):(I3 .and .u64 (a:Int) 9223372036854775808 !=0)=decide (9223372036854775808<=a):=by
 have e:=Sd a 9223372036854775808 h (by omega);rw[show((9223372036854775808:Nat):Int)=9223372036854775808 from rfl]at e;rw[e]
 by_cases h1:9223372036854775808<=a
 ·have ea:a=(a - 9223372036854775808)|||9223372036854775808:=by
   have e2:=UT (a - 9223372036854775808) 1 63 (by rw[show(2:Nat) ^ 63=9223372036854775808 by decide];omega);rw[Nat.one_mul,show(2:Nat) ^ 63=9223372036854775808 by decide]at e2;rw[e2];omega
  have e3:a&&&9223372036854775808=9223372036854775808:=by
   rw[ea];apply Nat.eq_of_testBit_eq;intro i;rw[Nat.testBit_and,Nat.testBit_or];generalize Nat.testBit (a - 9223372036854775808) i=t;generalize Nat.testBit 9223372036854775808 i=u;cases t<;>cases u<;>rfl
  rw[e3];simp[h1]
 ·have e3:a&&&9223372036854775808=0:=by
   apply Nat.eq_of_testBit_eq;intro i;rw[Nat.testBit_and,show(9223372036854775808:Nat)=2 ^ 63 by decide,Nat.testBit_two_pow]
   by_cases hi:63=i
   ·subst hi;rw[Nat.testBit_lt_two_pow (by rw[show(2:Nat) ^ 63=9223372036854775808 by decide];omega)];simp
   ·simp[hi]
  rw[e3];simp[h1]
theorem a5m(a:Nat)(h:a<9223372036854775808):I3 .or .u64 (a:Int) 9223372036854775808=((a+9223372036854775808:Nat):Int):=by
 have e:=aZ a 9223372036854775808 (by omega) (by omega);rw[show((9223372036854775808:Nat):Int)=9223372036854775808 from rfl]at e;rw[e];have e2:=UT a 1 63 (by rw[show(2:Nat) ^ 63=9223372036854775808 by decide];exact h);rw[Nat.one_mul,show(2:Nat) ^ 63=9223372036854775808 by decide]at e2;rw[e2]
theorem a0a(x:Int)(hx:AJ x):DA x=if GT x.toNat=0 then 18446744073709551615 else if 9223372036854775808<=x then wU (18446744073709551615 - x) else wU (x+9223372036854775808):=by
 obtain⟨h1,h2⟩:=hx;have hz:x=(x.toNat:Int):=by omega
 generalize x.toNat=z at hz;subst hz;unfold DA;rw[a8s z (by omega),yW z (by omega)];have e0:(Int.toNat (z:Int))=z:=by omega
 rw[e0]
 by_cases h3:GT z=0
 ·rw[if_pos h3,if_pos (by simp[h3])]
 ·rw[if_neg h3,if_neg (by simp;omega)]
  by_cases h4:9223372036854775808<=z
  ·rw[if_pos (by simpa using h4),if_pos (by omega),wU,Y2 (by omega)];omega
  ·rw[if_neg (by simpa using h4),if_neg (by omega),a5m z (by omega),wU,Y2 (by omega)];omega
def OC(v:A0):Int:=if v.Kind=2\/v.Kind=3 then wU (v.Bits+9223372036854775808) else if v.Kind≠6 then v.Bits else DA v.Bits
theorem Wt(v:A0)(hb:AJ v.Bits):Mg v (OC v):=by
 have hz:v.Bits=(v.Bits.toNat:Int):=by have:=hb.1;omega
 have hc:=oC v.Bits.toNat (by have:=hb.2;omega);rw[<-hz]at hc;unfold OC;rw[a0a _ hb];refine d6 _ _ ⟨_,z7 _ _ rfl,λh=>?_,λh=>⟨λh2=>?_,λh2=>⟨_,hc,λh3=>?_,λh3=>⟨λh4=>?_,λh4=>?_⟩⟩⟩⟩
 all_goals simp only[Bool.or_eq_true,Bool.or_eq_false_iff,beq_iff_eq,beq_eq_false_iff_ne,bne_iff_ne,bne_eq_false_iff_eq,b45,b46,ne_eq]at*
 ·rw[if_pos h]
 ·rw[if_neg (by omega),if_pos h2]
 ·rw[if_neg (by omega),if_neg (by omega),if_pos (by omega)]
 ·rw[if_neg (by omega),if_neg (by omega),if_neg (by omega),if_pos h4]
 ·rw[if_neg (by omega),if_neg (by omega),if_neg (by omega),if_neg h4]
theorem yR{x y x' y':Int}(h1:x<y↔x'<y')(h2:y<x↔y'<x'):G4 x y=G4 x' y':=by
 unfold G4;simp only[h1,h2]
theorem Xt(a b:A0)(hk:a.Kind=b.Kind)(ht:((a.Kind==7)||(a.Kind==8))=false)(ha:AJ a.Bits)(hb:AJ b.Bits):W0 a b=G4 (OC a) (OC b):=by
 unfold W0 OC;rw[if_neg (nt ht),<-hk]
 by_cases h1:a.Kind=2\/a.Kind=3
 ·rw[if_pos (by simpa using h1),if_pos h1,if_pos h1];obtain⟨a1,a2⟩:=ha;obtain⟨b1,b2⟩:=hb
  have key:∀z:Int,0<=z->z<18446744073709551616->(z<9223372036854775808/\wI z=z/\wU (z+9223372036854775808)=z+9223372036854775808)\/(9223372036854775808<=z/\wI z=z - 18446744073709551616/\wU (z+9223372036854775808)=z - 9223372036854775808):=by
   intro z z1 z2;rcases Int.lt_or_le z 9223372036854775808 with h|h
   ·exact .inl ⟨h,by rw[wI,C7 (by omega)],by rw[wU,Y2 (by omega)]⟩
   ·refine .inr ⟨h,?_,?_⟩
    ·simp only[wI,IntKind.wrap,IntKind.bits,IntKind.signed,Bool.true_and,b45];split<;>rename_i hq<;>first|omega|(simp at hq;omega)
    ·simp only[wU,IntKind.wrap,IntKind.bits,IntKind.signed,Bool.false_and,Bool.false_eq_true,if_false];omega
  rcases key a.Bits a1 a2 with⟨p1,p2,p3⟩|⟨p1,p2,p3⟩<;>rcases key b.Bits b1 b2 with⟨q1,q2,q3⟩|⟨q1,q2,q3⟩<;>rw[p2,p3,q2,q3]<;>exact yR (by omega) (by omega)
 ·rw[if_neg (by simpa using h1),if_neg h1,if_neg h1]
  by_cases h2:a.Kind=6
  ·rw[if_pos (by simp[h2]),if_neg (by simp[h2]),if_neg (by simp[h2])]
  ·rw[if_neg (by simp[h2]),if_pos h2,if_pos h2]
theorem JA(x y:Int):Cv x y (G4 x y):=by
 refine a1n _ _ _ ⟨λh=>?_,λh=>⟨λh2=>?_,λh2=>?_⟩⟩
 ·simp at h;simp[G4,h]
 ·simp at h h2;simp[G4,h2];omega
 ·simp at h h2;simp only[G4];rw[if_neg (by omega),if_neg (by omega)]
theorem zl(a b:A0)(hk:a.Kind=b.Kind)(ha:AJ a.Bits)(hb:AJ b.Bits):YD a b (if isS a.Kind=true then W0 a b else 0):=by
 have tx:MK a.Kind ((a.Kind==7)||(a.Kind==8)):=lO _ _ rfl;refine vr _ _ _ ⟨λh=>by simp[hk]at h,λ_=>⟨λh=>by simp[hk]at h,λ_=>⟨isS a.Kind,Wd _ _ rfl,λh=>?_,λh=>?_⟩⟩⟩
 ·rw[if_neg (by simpa using h)]
 have hs:isS a.Kind:=by simpa using h
 rw[if_pos hs];refine⟨_,tx,λh1=>?_,λh1=>⟨_,tx,λh2=>?_,λh2=>⟨_,tx,λh3=>?_,λh3=>⟨_,Wt a ha,_,Wt b hb,λh4=>?_,λh4=>⟨_,Wt a ha,_,Wt b hb,λh5=>?_,λh5=>?_⟩⟩⟩⟩⟩
 ·rw[b47]at h1;unfold W0 Ak;rw[if_pos h1.1,if_pos h1.2]
 ·rw[b47]at h2;rw[h2.1,Bool.true_and]at h1;unfold W0 Ak;rw[if_pos h2.1,if_neg (nt h1),if_pos h2.2]
 ·rw[h3,Bool.true_and]at h1 h2;unfold W0 Ak;rw[if_pos h3,if_neg (nt h1),if_neg (nt h2)]
 ·rw[Xt a b hk h3 ha hb];simp at h4;simp[G4,h4]
 ·rw[Xt a b hk h3 ha hb];simp at h4 h5;simp[G4,h5];omega
 ·rw[Xt a b hk h3 ha hb];simp at h4 h5;simp only[G4];rw[if_neg (by omega),if_neg (by omega)]
theorem Ti{α:Type}{J:Int->b5l α->b5l α->Int->Prop}{C:α->α->Int->Prop}(c:α->α->Int)(step:∀i s t r,(((decide (i<(s.length:Int)))&&(decide (i<(t.length:Int))))=true->∃y6,s[i.toNat]? =some y6/\0<=i/\(∃y7,t[i.toNat]? =some y7/\0<=i/\(∃y8,C y6 y7 y8/\(((y8 !=0)=true->r=y8)/\((y8 !=0)=false->J (wI (i+1)) s t r)))))/\(((decide (i<(s.length:Int)))&&(decide (i<(t.length:Int))))=false->∃y5,Cv (s.length:Int) (t.length:Int) y5/\(r=y5))->J i s t r)(s t:b5l α)(hs:s.length<=140737488351232)(hC:∀x∈s,∀y∈t,C x y (c x y)):J 0 s t (L7 c s t):=by
 have key:∀(d i:Nat),s.length - i<=d->i<=s.length->i<=t.length->J i s t (L7 c (s.drop i) (t.drop i)):=by
  intro d
  induction d with
  |zero=>
   intro i hd hi hj;refine step _ _ _ _ ⟨λh=>by simp at h;omega,λ_=>⟨_,JA _ _,?_⟩⟩;rw[b5d (show s.length<=i by omega)];rcases Nat.lt_or_ge i t.length with h|h
   ·rw[b5c h];simp only[L7,G4];rw[if_pos (by omega)]
   ·rw[b5d h];simp only[L7,G4];rw[if_neg (by omega),if_neg (by omega)]
  |succ d ih=>
   intro i hd hi hj;rcases Nat.lt_or_ge i s.length with hlt|hge
   ·have ds:s.drop i=s[i]::s.drop (i+1):=b5c hlt;rcases Nat.lt_or_ge i t.length with h|h
    ·have e1:wI ((i:Int)+1)=((i+1:Nat):Int):=by rw[wI,C7 (by omega)];omega
     have dt:t.drop i=t[i]::t.drop (i+1):=b5c h;refine step _ _ _ _ ⟨λ_=>⟨s[i],by simp,by omega,t[i],by simp,by omega,c s[i] t[i],hC _ (List.getElem_mem _) _ (List.getElem_mem _),λh2=>?_,λh2=>?_⟩,λh2=>by simp at h2;omega⟩
     ·simp at h2;rw[ds,dt];simp[L7,h2]
     ·simp at h2;rw[ds,dt,e1];have:=ih (i+1) (by omega) (by omega) (by omega);simpa[L7,h2]using this
    ·refine step _ _ _ _ ⟨λh=>by simp at h;omega,λ_=>⟨_,JA _ _,?_⟩⟩;rw[ds,b5d h];simp only[L7,G4];rw[if_neg (by omega),if_pos (by omega)]
   ·refine step _ _ _ _ ⟨λh=>by simp at h;omega,λ_=>⟨_,JA _ _,?_⟩⟩;rw[b5d hge];rcases Nat.lt_or_ge i t.length with h|h
    ·rw[b5c h];simp only[L7,G4];rw[if_pos (by omega)]
    ·rw[b5d h];simp only[L7,G4];rw[if_neg (by omega),if_neg (by omega)]
 simpa using key s.length 0 (by omega) (by omega) (by omega)
theorem Uf{x y:Int}:G4 x y≠0↔x≠y:=by
 rcases Z8 x y with h|h|h<;>rw[h.2]<;>omega
theorem tf(x y:A6):dg x y (ED x y):=by
 unfold ED;refine r9 _ _ _ ⟨λh=>⟨_,JA _ _,?_⟩,λh=>⟨λh2=>⟨_,JA _ _,?_⟩,λh2=>⟨λh3=>?_,λh3=>⟨λh4=>?_,λh4=>⟨λh5=>?_,λh5=>⟨λh6=>?_,λh6=>?_⟩⟩⟩⟩⟩⟩
 ·simp at h;simp only[N7];rw[if_pos (Uf.2 h)]
 all_goals simp only[bne_eq_false_iff_eq]at h
 all_goals have e1:G4 x.Num y.Num=0:=by rcases Z8 x.Num y.Num with g|g|g<;>omega
 ·simp at h2;simp only[N7,e1];rw[if_neg (by simp),if_pos (Uf.2 h2)]
 all_goals simp only[bne_eq_false_iff_eq]at h2
 all_goals have e2:G4 x.L9 y.L9=0:=by rcases Z8 x.L9 y.L9 with g|g|g<;>omega
 ·simp at h3;have e3:G4 x.Bits y.Bits= -1:=by simp[G4,h3]
  simp[N7,e1,e2,e3]
 ·simp at h3 h4;have e3:G4 x.Bits y.Bits=1:=by simp[G4,h4];omega
  simp[N7,e1,e2,e3]
 all_goals simp only[b46]at h3 h4
 all_goals have e3:G4 x.Bits y.Bits=0:=by rcases Z8 x.Bits y.Bits with g|g|g<;>omega
 ·simp[N7,e1,e2,e3,Ak,h5]
 ·have e4:Ak x.Data y.Data=1:=by unfold Ak;rw[if_neg (nt h5),if_pos h6]
  simp[N7,e1,e2,e3,e4]
 ·have e4:Ak x.Data y.Data=0:=by unfold Ak;rw[if_neg (nt h5),if_neg (nt h6)]
  simp[N7,e1,e2,e3,e4]
theorem Qr(u v:Int):N7 [u,v]=if u≠0 then u else v:=by
 simp only[N7]
 by_cases hu:u=0
 ·subst hu;by_cases hv:v=0<;>simp[hv]
 ·simp[hu]
theorem ML:∀(n:Nat) (a b:A0),F1 a->F1 b->SizeOf.sizeOf a<=n->Dl a b (O4 n a b)
 |0,a,b,_,_,h=>by have:=Ky a;omega
 |n+1,a,b,ha,hb,hn=>by
  obtain⟨_,hab,⟨la,pa,sa,ra⟩,hla,hpa,hsa⟩:=ha.inv;obtain⟨_,hbb,_,hlb,hpb,hsb⟩:=hb.inv
  have sc:∀k:Int,k=10\/k=11\/k=12->¬isS k:=by
   intro k hk h;unfold isS at h;rw[b47,b45,b45]at h;omega
  refine a7w _ _ _ ⟨λh=>⟨_,JA _ _,?_⟩,λh=>?_⟩
  ·simp at h;rw[O4,if_pos h]
  have hk:a.Kind=b.Kind:=by simpa using h
  rw[O4,if_neg (by simp[hk])];refine⟨λh1=>?_,λh1=>⟨λh2=>?_,λh2=>⟨λh3=>?_,λh3=>?_⟩⟩⟩
  all_goals simp only[beq_iff_eq,beq_eq_false_iff_ne]at*
  ·rw[if_neg (sc _ (by omega)),if_pos h1];exact⟨_,b31 _ _ _ (Ti (O4 n) (λi s t r hw=>sD _ _ _ _ hw) _ _ la λx hx y hy=>ML n x y (hla x hx) (hlb y hy) (by have:=Kp hx;omega)),rfl⟩
  ·rw[if_neg (sc _ (by omega)),if_neg h1,if_pos h2];refine⟨_,vc _ _ _ (Ti (C:=λx y z=>∃u v,Dl x.1 y.1 u/\Dl x.2 y.2 v/\z=N7 [u,v]) (λx y=>N7 [O4 n x.1 y.1,O4 n x.2 y.2]) (λi s t r hw=>b2h _ _ _ _ ⟨λh=>?_,hw.2⟩) _ _ pa λx hx y hy=>?_),rfl⟩
   ·obtain⟨y6,p1,p2,y7,q1,q2,z,⟨u,v,c1,c2,rfl⟩,r1,r2⟩:=hw.1 h;rw[Qr]at r1 r2;refine⟨y6,p1,p2,y7,q1,q2,u,c1,λhu=>?_,λhu=>⟨y6,p1,p2,y7,q1,q2,v,c2,λhv=>?_,λhv=>?_⟩⟩
    ·have:u≠0:=by simpa using hu
     rw[if_pos this]at r1;exact r1 (by simpa using this)
    ·have:u=0:=by simpa using hu
     rw[if_neg (by simp[this])]at r1;exact r1 hv
    ·have:u=0:=by simpa using hu
     rw[if_neg (by simp[this])]at r2;exact r2 hv
   ·have hz:=Kt hx;exact⟨_,_,ML n _ _ (hpa x hx).1 (hpb y hy).1 (by omega),ML n _ _ (hpa x hx).2 (hpb y hy).2 (by omega),rfl⟩
  ·rw[if_neg (sc _ (by omega)),if_neg h1,if_neg h2,if_pos h3,Qr];refine⟨_,b3u _ _ _ (Ti (C:=λx y z=>∃u v,Cv x.1 y.1 u/\Dl x.2 y.2 v/\z=N7 [u,v]) (λx y=>N7 [G4 x.1 y.1,O4 n x.2 y.2]) (λi s t r hw=>vS _ _ _ _ ⟨λh=>?_,hw.2⟩) _ _ sa λx hx y hy=>?_),λh4=>?_,λh4=>⟨_,a1e _ _ _ (Ti ED (λi s t r hw=>wn _ _ _ _ hw) _ _ ra λx hx y hy=>tf x y),?_⟩⟩
   ·obtain⟨y6,p1,p2,y7,q1,q2,z,⟨u,v,c1,c2,rfl⟩,r1,r2⟩:=hw.1 h;rw[Qr]at r1 r2;refine⟨y6,p1,p2,y7,q1,q2,u,c1,λhu=>?_,λhu=>⟨y6,p1,p2,y7,q1,q2,v,c2,λhv=>?_,λhv=>?_⟩⟩
    ·have:u≠0:=by simpa using hu
     rw[if_pos this]at r1;exact r1 (by simpa using this)
    ·have:u=0:=by simpa using hu
     rw[if_neg (by simp[this])]at r1;exact r1 hv
    ·have:u=0:=by simpa using hu
     rw[if_neg (by simp[this])]at r2;exact r2 hv
   ·have hz:=Kx hx;exact⟨_,_,JA _ _,ML n _ _ (hsa x hx) (hsb y hy) (by omega),rfl⟩
   ·rw[if_pos (by simpa using h4)]
   ·rw[if_neg (by simpa using h4)]
  ·refine⟨_,zl a b hk hab hbb,?_⟩
   by_cases hs:isS a.Kind=true
   ·rw[if_pos hs,if_pos hs]
   ·rw[if_neg hs,if_neg hs,if_neg h1,if_neg h2,if_neg h3]
abbrev Tp{α:Type}(c:α->α->Int):Prop:=Pre c (λ_:α=>True)
section
variable {α:Type}{c c1 c2:α->α->Int}
theorem Tp.s(h:Tp c)(x y:α):c x y<0↔0<c y x:=h.sym x y trivial trivial
theorem Tp.t(h:Tp c)(x y z:α):c x y<=0->c y z<=0->c x z<=0:=h.trans x y z trivial trivial trivial
theorem kY(h:Tp c){x y:α}{p q:Int}(hpq:p<0↔0<q):(if c x y≠0 then c x y else p)<0↔0<(if c y x≠0 then c y x else q):=by
 have h1:=h.s x y;have h2:=h.s y x
 by_cases hx:c x y=0
 ·have hy:c y x=0:=by omega
  rw[if_neg (by simp[hx]),if_neg (by simp[hy])];exact hpq
 ·have hy:c y x≠0:=by omega
  rw[if_pos hx,if_pos hy];exact h1
theorem oc(h:Tp c){x y z:α}{p q r:Int}(hp:p<=0->q<=0->r<=0)(h1:(if c x y≠0 then c x y else p)<=0)(h2:(if c y z≠0 then c y z else q)<=0):(if c x z≠0 then c x z else r)<=0:=by
 have sxy:=h.s x y;have syx:=h.s y x;have syz:=h.s y z;have szy:=h.s z y;have sxz:=h.s x z;have szx:=h.s z x;have t1:=h.t x y z;have t2:=h.t y z x;have t3:=h.t z x y
 by_cases hxz:c x z=0
 ·rw[if_neg (by simp[hxz])]
  have e1:c x y=0:=by
   by_cases e:c x y=0
   ·exact e
   ·rw[if_pos e]at h1
    by_cases e2:c y z=0
    ·have:=t2 (by omega) (by omega);omega
    ·rw[if_pos e2]at h2;have:=t2 (by omega) (by omega);omega
  have e2:c y z=0:=by
   by_cases e:c y z=0
   ·exact e
   ·rw[if_pos e]at h2;have:=t3 (by omega) (by omega);omega
  rw[if_neg (by simp[e1])]at h1;rw[if_neg (by simp[e2])]at h2;exact hp h1 h2
 ·rw[if_pos hxz]
  by_cases e1:c x y=0
  ·by_cases e2:c y z=0
   ·exact t1 (by omega) (by omega)
   ·rw[if_pos e2]at h2;exact t1 (by omega) (by omega)
  ·rw[if_pos e1]at h1
   by_cases e2:c y z=0
   ·exact t1 (by omega) (by omega)
   ·rw[if_pos e2]at h2;exact t1 (by omega) (by omega)
theorem MG(h1:Tp c1)(h2:Tp c2):Tp (λx y=>N7 [c1 x y,c2 x y]):=by
 refine⟨λx y _ _=>?_,λx y z _ _ _=>?_⟩
 ·simp only[Qr];exact kY h1 (h2.s x y)
 ·simp only[Qr];exact oc h1 (h2.t x y z)
theorem NT(h:Tp c):Tp (L7 c):=by
 refine⟨λl m _ _=>?_,λl m k _ _ _=>?_⟩
 ·induction l generalizing m with
  |nil=>cases m<;>simp[L7]
  |cons x l ih=>
   cases m with
   |nil=>simp[L7]
   |cons y m=>simp only[L7];exact kY h (ih m)
 ·induction l generalizing m k with
  |nil=>cases m<;>cases k<;>simp[L7]
  |cons x l ih=>
   cases m with
   |nil=>simp[L7]
   |cons y m=>
    cases k with
    |nil=>simp only[L7];intro _ h2;exact h2
    |cons z k=>simp only[L7];exact oc h (ih m k)
theorem xK(key:α->Int)(f:Int->α->α->Int)(hf:∀k,Tp (f k)):Tp (λa b=>if key a≠key b then G4 (key a) (key b) else f (key a) a b):=by
 refine⟨λx y _ _=>?_,λx y z _ _ _ h1 h2=>?_⟩
 ·by_cases h:key x=key y
  ·simp only[h,ne_eq,not_true_eq_false,if_false];exact(hf _).s x y
  ·simp only[ne_eq,h,not_false_eq_true,if_true,Ne.symm h];rcases Z8 (key x) (key y) with g|g|g<;>rcases Z8 (key y) (key x) with e|e|e<;>rw[g.2,e.2]<;>omega
 ·simp only[ne_eq]at h1 h2 ⊢
  by_cases e1:key x=key y
  ·by_cases e2:key y=key z
   ·rw[if_neg (by simp[e1,e2])];rw[if_neg (by simp[e1])]at h1;rw[if_neg (by simp[e2])]at h2;rw[<-e1]at h2;exact(hf _).t x y z h1 h2
   ·rw[if_pos e2]at h2;rw[if_pos (by rw[e1];exact e2),e1];exact h2
  ·rw[if_pos e1]at h1
   by_cases e2:key y=key z
   ·rw[if_pos (by rw[<-e2];exact e1),<-e2];exact h1
   ·rw[if_pos e2]at h2;rcases Z8 (key x) (key y) with g|g|g<;>rcases Z8 (key y) (key z) with e|e|e<;>rw[g.2]at h1<;>rw[e.2]at h2<;>first|omega|skip
    rw[if_pos (by omega)];rcases Z8 (key x) (key z) with d|d|d<;>rw[d.2]<;>omega
theorem ph:Tp (λ_ _:α=>0):=⟨λx y _ _=>by simp,λx y z _ _ _ _ _=>by simp⟩
theorem W4{β:Type}(h:Tp c)(f:β->α):Tp (λx y=>c (f x) (f y)):=⟨λx y _ _=>h.s _ _,λx y z _ _ _=>h.t _ _ _⟩
theorem Hw(p:b5n)(h1:Tp c1)(h2:Tp c2):Tp (λx y=>if p=true then c1 x y else c2 x y):=by cases p<;>simpa
theorem EP:Tp G4:=bz λx:Int=>x
end
theorem mX:∀l m:b5l UInt8,(if Op.bytesLess l m=true then(-1:Int) else if(!(Op.bytesLess l m||l==m))=true then 1 else 0)=L7 (λa b:UInt8=>G4 a.toNat b.toNat) l m
 |[],[]=>by simp[Op.bytesLess,L7]
 |[],b::m=>by simp[Op.bytesLess,L7]
 |a::l,[]=>by simp[Op.bytesLess,L7]
 |a::l,b::m=>by
  have ih:=mX l m;simp only[L7,Op.bytesLess];rw[<-ih];have hab:a<b↔a.toNat<b.toNat:=UInt8.lt_iff_toNat_lt;have hba:b<a↔b.toNat<a.toNat:=UInt8.lt_iff_toNat_lt;rcases Z8 (a.toNat:Int) (b.toNat:Int) with g|g|g
  ·have h1:a<b:=hab.2 (by omega);simp[h1,g.2]
  ·have h1:a=b:=UInt8.toNat_inj.1 (by omega);subst h1;have h2:¬a<a:=UInt8.lt_irrefl a;simp[h2,g.2]
  ·have h1:¬a<b:=λh=>by have:=hab.1 h;omega
   have h2:¬a=b:=λh=>by subst h;omega
   simp[h1,h2,g.2]
theorem iu:Tp Ak:=by
 have h:=W4 (NT (W4 EP λa:UInt8=>(a.toNat:Int))) λx:b5k=>x.toList
 have e:Ak=λx y=>L7 (λa b:UInt8=>G4 (a.toNat:Int) (b.toNat:Int)) x.toList y.toList:=by
  funext x y
  exact mX x.toList y.toList
 rw[e];exact h
theorem yb:Tp ED:=by
 have h:=MG (W4 EP λx:A6=>x.Num) (MG (W4 EP λx:A6=>x.L9) (MG (W4 EP λx:A6=>x.Bits) (W4 iu λx:A6=>x.Data)))
 have e:ED=λx y:A6=>N7 [G4 x.Num y.Num,N7 [G4 x.L9 y.L9,N7 [G4 x.Bits y.Bits,Ak x.Data y.Data]]]:=by
  funext x y
  simp only[ED,N7];split
  ·rfl
  ·split
   ·simp[*]
   ·split
    ·simp[*]
    ·split<;>simp[*]
 rw[e];exact h
def bO(k:Int)(a b:A0):Int:=
 if((k==7)||(k==8))=true then Ak a.Text b.Text
 else if((k==2)||(k==3))=true then G4 (wI a.Bits) (wI b.Bits)
 else if(k==6)=true then G4 (DA a.Bits) (DA b.Bits)
 else G4 a.Bits b.Bits
theorem xd(k:Int):Tp (bO k):=Hw _ (W4 iu λv:A0=>v.Text) (Hw _ (W4 EP λv:A0=>wI v.Bits) (Hw _ (W4 EP λv:A0=>DA v.Bits) (W4 EP λv:A0=>v.Bits)))
theorem SF:∀n,Tp (O4 n)
 |0=>ph
 |n+1=>by
  have ih:=SF n
  have h:=xK (λv:A0=>v.Kind) (λk a b=>if isS k=true then bO k a b else if decide (k=11)=true then L7 (O4 n) a.B8 b.B8 else if decide (k=12)=true then L7 (λx y=>N7 [O4 n x.1 y.1,O4 n x.2 y.2]) a.Pairs b.Pairs else if decide (k=10)=true then N7 [L7 (λx y=>N7 [G4 x.1 y.1,O4 n x.2 y.2]) a.Slots b.Slots,L7 ED a.C4 b.C4] else 0)
   λk=>Hw _ (xd k) (Hw _ (W4 (NT ih) λv:A0=>v.B8) (Hw _ (W4 (NT (MG (W4 ih λx:A0 × A0=>x.1) (W4 ih λx:A0 × A0=>x.2))) λv:A0=>v.Pairs) (Hw _ (MG (W4 (NT (MG (W4 EP λx:Int × A0=>x.1) (W4 ih λx:Int × A0=>x.2))) λv:A0=>v.Slots) (W4 (NT yb) λv:A0=>v.C4)) ph)))
  have e:O4 (n+1)=λa b:A0=>if a.Kind≠b.Kind then G4 a.Kind b.Kind else(λ(k:Int) (a b:A0)=>if isS k=true then bO k a b else if decide (k=11)=true then L7 (O4 n) a.B8 b.B8 else if decide (k=12)=true then L7 (λx y=>N7 [O4 n x.1 y.1,O4 n x.2 y.2]) a.Pairs b.Pairs else if decide (k=10)=true then N7 [L7 (λx y=>N7 [G4 x.1 y.1,O4 n x.2 y.2]) a.Slots b.Slots,L7 ED a.C4 b.C4] else 0) a.Kind a b:=by
   funext a b
   simp only[O4,b45];rfl
  rw[e];exact h
def R0{α:Type}(c:α->α->Int):b5l α->b5l α
 |[]=>[]
 |[x]=>[x]
 |x::y::l=>if c x y=0 then R0 c (y::l) else x::R0 c (y::l)
abbrev kc(N:Nat)(x y:A0 × A0):Int:=O4 N x.1 y.1
def Cn(N:Nat)(x:A0 × A0):Prop:=F1 x.1/\SizeOf.sizeOf x.1<=N
theorem uB(N:Nat)(S:b5l (A0 × A0))(hl:S.length*256<=140737488355328)(hS:∀x∈S,Cn N x):∀(d i:Nat) (done:b5l (A0 × A0)),S.length - i<=d->i<=S.length->done.length<=i->Oj i S done (done++R0 (kc N) (S.drop i)):=by
 intro d
 induction d with
 |zero=>
  intro i done hd hi hn;have e:i=S.length:=by omega
  subst e;exact Zm _ _ _ _ ⟨λh=>by simp at h,λ_=>by simp[R0]⟩
 |succ d ih=>
  intro i done hd hi hn;rcases Nat.lt_or_ge i S.length with hlt|hge
  ·have e1:wI ((i:Int)+1)=((i+1:Nat):Int):=by rw[wI,C7 (by omega)];omega
   have dr:S.drop i=S[i]::S.drop (i+1):=b5c hlt;refine Zm _ _ _ _ ⟨λ_=>⟨S[i],by simp,by omega,λb=>R0 (kc N) (S.drop i)=if b then S[i]::R0 (kc N) (S.drop (i+1)) else R0 (kc N) (S.drop (i+1)),λb hb=>⟨λh=>?_,λh=>?_⟩,λh=>?_,λh=>?_⟩,λh=>by simp at h;omega⟩
   ·subst h;refine⟨by simp;omega,?_⟩;rw[e1,hb];have:=ih (i+1) (done++[S[i]]) (by omega) (by omega) (by simp;omega);simpa using this
   ·subst h;rw[e1,hb];exact ih (i+1) done (by omega) (by omega) (by omega)
   ·rw[e1]at h;simp at h;have:S.drop (i+1)=[]:=b5d (by omega);rw[dr,this];rfl
   ·rw[e1]at h ⊢;simp at h;have h2:i+1<S.length:=by omega
    have DU:S.drop (i+1)=S[i+1]::S.drop (i+1+1):=b5c h2;have o1:=hS _ (List.getElem_mem hlt);have o2:=hS _ (List.getElem_mem h2);refine⟨S[i+1],by simp,by omega,_,wZ _ _ _ ⟨_,Mr N _ _ o1.1 o2.1 o1.2,rfl⟩,?_⟩;rw[dr,DU];simp only[R0];rcases Classical.em (O4 N S[i].1 S[i+1].1=0) with h3|h3
    ·simp[kc,h3]
    ·simp[kc,h3]
  ·exact Zm _ _ _ _ ⟨λh=>by simp at h;omega,λ_=>by rw[b5d hge];simp[R0]⟩
theorem a78(N:Nat):Pre (kc N) (Cn N):=by
 have h:=W4 (SF N) λx:A0 × A0=>x.1
 exact⟨λx y _ _=>h.s x y,λx y z _ _ _=>h.t x y z⟩
theorem a67(N:Nat)(x y:A0 × A0)(hx:Cn N x)(hy:Cn N y):lA (⟨269,[],[],rfl⟩:B5) x y (kc N x y):=
 ⟨269,[],[],rfl,(show C3 [AV.agg (Q6 x),AV.agg (Q6 y)]=true by simp[C3,plain,X0]),a47 _ _ _ ⟨_,Mr N _ _ hx.1 hy.1 hx.2,rfl⟩⟩
theorem a6z(N:Nat)(l:b5l (A0 × A0))(hl:l.length*256<=140737488355328)(hok:∀x∈l,Cn N x):∃S,Ez (kc N) l S/\Lj l (R0 (kc N) S):=by
 rcases Classical.em (l=[]) with h0|h0
 ·subst h0;refine⟨[],⟨[],.nil,by simp[P5],rfl⟩,gR _ _ ⟨λ_=>⟨?_,tN _,a0y _ _ _ ⟨λh=>by simp at h,λ_=>rfl⟩⟩,λh=>(h rfl).elim⟩⟩
  first|exact gD _ _ ⟨rfl,rfl⟩|exact gD _ _ λb _=>⟨λ_=>rfl,λ_=>⟨by simp,rfl⟩⟩
 ·have hpos:0<l.length:=List.length_pos_iff.2 h0;have hmem:∀x∈P5 l,x.1∈l:=λx hx=>by rw[<-NU l];exact List.mem_map_of_mem hx
  obtain⟨S,h1,h2,h3⟩:=Yl (b3h ⟨269,[],[],rfl⟩) (a78 N) (λx y hx hy=>a67 N x y hx hy) (n0:=l.length) (by omega) hpos (P5 l) (by simp[P5]) (λx hx=>hok _ (hmem x hx)) (Yr l);rw[NU]at h3;have hlen:(fs S).length=l.length:=by simp[h2.length_eq,P5]
  refine⟨fs S,⟨S,h1,h2,rfl⟩,gR _ _ ⟨λh=>(h0 h).elim,λ_=>⟨b0b _ ⟨h0,hl⟩,fs S,h3,⟨h0,λh=>?_⟩,hlen,?_⟩⟩⟩
  ·rw[h]at hlen;simp at hlen;omega
  ·have:=uB N (fs S) (by rw[hlen];exact hl) (λx hx=>by
    obtain⟨y,hy,rfl⟩:=List.mem_map.1 hx;exact hok _ (hmem y (h2.mem_iff.1 hy))) (fs S).length 0 [] (by omega) (by omega) (by simp)
   simpa using this
section
variable {α:Type}(c:α->α->Int)
def I0(x:α):b5l α->b5l α
 |[]=>[x]
 |y::l=>if c y x<0 then y::I0 x l else x::y::l
def lone(x:α)(l:b5l α):b5n:=l.all λy=>c x y !=0
def JK:b5l α->b5l α->b5l α
 |acc,[]=>acc
 |acc,x::l=>JK (if lone c x l=true then I0 c x acc else acc) l
def K1:b5l α->b5l α
 |[]=>[]
 |x::l=>if lone c x l=true then I0 c x (K1 l) else K1 l
theorem Yo(x:α):∀l,(I0 c x l).length=l.length+1
 |[]=>rfl
 |y::l=>by
  simp only[I0];split
  ·simp[Yo x l]
  ·simp
variable {c}
theorem qB(h:Tp c){x y:α}(hxy:c x y≠0):∀l,I0 c x (I0 c y l)=I0 c y (I0 c x l)
 |[]=>by
  have s1:=h.s x y;have s2:=h.s y x;simp only[I0]
  by_cases e:c y x<0
  ·rw[if_pos e,if_neg (by omega)]
  ·rw[if_neg e,if_pos (by omega)]
 |z::l=>by
  have s1:=h.s x y;have s2:=h.s y x;have s3:=h.s z x;have s4:=h.s z y;have s5:=h.s x z;have s6:=h.s y z;have t1:=h.t y x z;have t2:=h.t x y z;have t3:=h.t x z y;have t4:=h.t y z x;have t5:=h.t z x y;have t6:=h.t z y x;simp only[I0]
  by_cases e1:c z x<0<;>by_cases e2:c z y<0<;>simp only[e1,e2,if_true,if_false,I0]
  ·rw[qB h hxy l]
  ·have e3:¬c x y<0:=by omega
   have e4:c y x<0:=by omega
   simp[e4]
  ·have e3:c x y<0:=by omega
   simp[e3]
  ·by_cases e4:c y x<0
   ·simp[e4];omega
   ·have e5:c x y<0:=by omega
    simp[e4,e5]
def FJ:b5l α->b5l α->b5l α
 |acc,[]=>acc
 |acc,x::l=>if lone c x l=true then I0 c x (FJ acc l) else FJ acc l
theorem jO(h:Tp c)(x:α):∀(l acc:b5l α),lone c x l->FJ (c:=c) (I0 c x acc) l=I0 c x (FJ (c:=c) acc l)
 |[],acc,_=>rfl
 |y::l,acc,hl=>by
  simp only[lone,List.all_cons,b47,bne_iff_ne,ne_eq]at hl;have ih:=jO h x l acc hl.2;simp only[FJ,ih];split
  ·exact qB h (by have:=h.s x y;have:=h.s y x;omega) _
  ·rfl
theorem cP(h:Tp c):∀(l acc:b5l α),JK c acc l=FJ (c:=c) acc l
 |[],acc=>rfl
 |x::l,acc=>by
  simp only[JK,FJ]
  by_cases e:lone c x l=true
  ·rw[if_pos e,if_pos e,cP h l,jO h x l acc e]
  ·rw[if_neg e,if_neg e,cP h l]
theorem qH:∀(l:b5l α),FJ (c:=c) [] l=K1 c l
 |[]=>rfl
 |x::l=>by simp only[FJ,K1,qH l]
end
section
variable {N:Nat}{l:b5l (A0 × A0)}(hl:l.length*256<=140737488355328) (hok:∀x∈l,Cn N x)
 include hl hok
theorem a34(i:Nat)(hi:i<l.length)(acc:b5l (A0 × A0))(hacc:acc.length<=i)(hoa:∀x∈acc,Cn N x)(r:b5l (A0 × A0)):∀(d at_:Nat),acc.length - at_<=d->at_<=acc.length->Y0 ((i+1:Nat):Int) (acc.take at_++I0 (kc N) l[i] (acc.drop at_)) l r->Tv at_ i acc l r:=by
 have e1:wI ((i:Int)+1)=((i+1:Nat):Int):=by rw[wI,C7 (by omega)];omega
 have endc:∀at_:Nat,at_<=acc.length->Y0 ((i+1:Nat):Int) (acc.take at_++l[i]::acc.drop at_) l r->∃y59,l[(i:Int).toNat]? =some y59/\0<=(i:Int)/\((0<=(at_:Int)/\(at_:Int)<=(acc.length:Int)/\(acc.length:Int)<=(acc.length:Int))/\((((acc.take (acc.length:Int).toNat).drop (at_:Int).toNat)=[]->([y59]:b5l (A0 × A0)).length*256<=140737488355328/\((0<=(0:Int)/\(0:Int)<=(at_:Int)/\(at_:Int)<=(acc.length:Int))/\((((acc.take (at_:Int).toNat).drop (0:Int).toNat)=[]->([]:b5l (A0 × A0)).length*256<=140737488355328/\((([]:b5l (A0 × A0)).length+([y59]:b5l (A0 × A0)).length)*256<=140737488355328/\([y59]:b5l (A0 × A0))≠[]/\(Y0 (wI ((i:Int)+1)) (([]:b5l (A0 × A0))++([y59]:b5l (A0 × A0))) l r)))/\(((acc.take (at_:Int).toNat).drop (0:Int).toNat)≠[]->(([]:b5l (A0 × A0)).length+((acc.take (at_:Int).toNat).drop (0:Int).toNat).length)*256<=140737488355328/\((acc.take (at_:Int).toNat).drop (0:Int).toNat)≠[]/\(((([]:b5l (A0 × A0))++((acc.take (at_:Int).toNat).drop (0:Int).toNat)).length+([y59]:b5l (A0 × A0)).length)*256<=140737488355328/\(Y0 (wI ((i:Int)+1)) ((([]:b5l (A0 × A0))++((acc.take (at_:Int).toNat).drop (0:Int).toNat))++([y59]:b5l (A0 × A0))) l r))))))/\(((acc.take (acc.length:Int).toNat).drop (at_:Int).toNat)≠[]->([y59].length+((acc.take (acc.length:Int).toNat).drop (at_:Int).toNat).length)*256<=140737488355328/\((acc.take (acc.length:Int).toNat).drop (at_:Int).toNat)≠[]/\((0<=(0:Int)/\(0:Int)<=(at_:Int)/\(at_:Int)<=(acc.length:Int))/\((((acc.take (at_:Int).toNat).drop (0:Int).toNat)=[]->([]:b5l (A0 × A0)).length*256<=140737488355328/\((([]:b5l (A0 × A0)).length+([y59]++((acc.take (acc.length:Int).toNat).drop (at_:Int).toNat)).length)*256<=140737488355328/\([y59]++((acc.take (acc.length:Int).toNat).drop (at_:Int).toNat))≠[]/\(Y0 (wI ((i:Int)+1)) (([]:b5l (A0 × A0))++([y59]++((acc.take (acc.length:Int).toNat).drop (at_:Int).toNat))) l r)))/\(((acc.take (at_:Int).toNat).drop (0:Int).toNat)≠[]->(([]:b5l (A0 × A0)).length+((acc.take (at_:Int).toNat).drop (0:Int).toNat).length)*256<=140737488355328/\((acc.take (at_:Int).toNat).drop (0:Int).toNat)≠[]/\(((([]:b5l (A0 × A0))++((acc.take (at_:Int).toNat).drop (0:Int).toNat)).length+([y59]++((acc.take (acc.length:Int).toNat).drop (at_:Int).toNat)).length)*256<=140737488355328/\(Y0 (wI ((i:Int)+1)) ((([]:b5l (A0 × A0))++((acc.take (at_:Int).toNat).drop (0:Int).toNat))++([y59]++((acc.take (acc.length:Int).toNat).drop (at_:Int).toNat))) l r)))))))):=by
  intro at_ ha hr;have d0:(0:Int)<=0/\(0:Int)<=(at_:Int)/\(at_:Int)<=(acc.length:Int):=⟨by omega,by omega,by omega⟩;refine⟨l[i],by simp,by omega,⟨by omega,by omega,by omega⟩,λhA=>⟨by simp,d0,λhB=>⟨by simp,by simp,by simp,?_⟩,λhB=>⟨by simp;omega,hB,by simp;omega,?_⟩⟩,λhA=>⟨by simp;omega,hA,d0,λhB=>⟨by simp,by simp;omega,by simp,?_⟩,λhB=>⟨by simp;omega,hB,by simp;omega,?_⟩⟩⟩
  all_goals rw[e1]
  all_goals simp only[Int.toNat_natCast,List.take_length,Int.toNat_zero,List.drop_zero]at hA hB ⊢
  ·rw[hA,hB]at hr;simpa using hr
  ·rw[hA]at hr;simpa using hr
  ·rw[hB]at hr;simpa using hr
  ·simpa using hr
 intro d
 induction d with
 |zero=>
  intro at_ hd ha hr;have e:at_=acc.length:=by omega
  subst e;exact ZM _ _ _ _ _ ⟨λh=>by simp at h,λ_=>endc _ (Nat.le_refl _) (by simpa[I0]using hr)⟩
 |succ d ih=>
  intro at_ hd ha hr;rcases Nat.lt_or_ge at_ acc.length with hlt|hge
  ·have e2:wI ((at_:Int)+1)=((at_+1:Nat):Int):=by rw[wI,C7 (by omega)];omega
   have da:acc.drop at_=acc[at_]::acc.drop (at_+1):=b5c hlt;have o1:=hoa _ (List.getElem_mem hlt);have o2:=hok _ (List.getElem_mem hi);rw[da]at hr;simp only[I0]at hr;refine ZM _ _ _ _ _ ⟨λ_=>⟨acc[at_],by simp,by omega,l[i],by simp,by omega,_,ML N _ _ o1.1 o2.1 o1.2,λh=>?_,λh=>?_⟩,λh=>by simp at h;omega⟩
   ·have h':kc N acc[at_] l[i]<0:=by simpa using h
    rw[if_pos h']at hr;rw[e2];refine ih (at_+1) (by omega) (by omega) ?_;rw[List.take_succ_eq_append_getElem hlt,List.append_assoc];exact hr
   ·have h':¬kc N acc[at_] l[i]<0:=by simpa using h
    rw[if_neg h']at hr;have:=endc at_ ha (by rw[da];exact hr);exact this
  ·have e:at_=acc.length:=by omega
   subst e;exact ZM _ _ _ _ _ ⟨λh=>by simp at h,λ_=>endc _ (Nat.le_refl _) (by simpa[I0]using hr)⟩
theorem qv(i:Nat)(hi:i<l.length)(acc:b5l (A0 × A0))(hacc:acc.length<=i)(hoa:∀x∈acc,Cn N x)(r:b5l (A0 × A0)):∀(d j:Nat) (o:b5n),l.length - j<=d->j<=l.length->Y0 ((i+1:Nat):Int) (if(o&&lone (kc N) l[i] (l.drop j))=true then I0 (kc N) l[i] acc else acc) l r->MX j o i acc l r:=by
 have e1:wI ((i:Int)+1)=((i+1:Nat):Int):=by rw[wI,C7 (by omega)];omega
 have fin:∀(o:b5n),Y0 ((i+1:Nat):Int) (if(o&&lone (kc N) l[i] (l.drop l.length))=true then I0 (kc N) l[i] acc else acc) l r->MX (l.length:Nat) o i acc l r:=by
  intro o hr;refine pg _ _ _ _ _ _ ⟨λh=>by simp at h,λ_=>⟨λh=>?_,λh=>?_⟩⟩
  ·subst h;have hr':Y0 ((i+1:Nat):Int) (I0 (kc N) l[i] acc) l r:=by simpa[lone]using hr
   have:=a34 hl hok i hi acc hacc hoa r acc.length 0 (by omega) (by omega) (by simpa using hr');simpa using this
  ·subst h;rw[e1];simpa using hr
 intro d
 induction d with
 |zero=>
  intro j o hd hj hr;have e:j=l.length:=by omega
  subst e;exact fin o hr
 |succ d ih=>
  intro j o hd hj hr;rcases Nat.lt_or_ge j l.length with hlt|hge
  ·have e2:wI ((j:Int)+1)=((j+1:Nat):Int):=by rw[wI,C7 (by omega)];omega
   have dl:l.drop j=l[j]::l.drop (j+1):=b5c hlt;have o1:=hok _ (List.getElem_mem hi);have o2:=hok _ (List.getElem_mem hlt);rw[dl]at hr;refine pg _ _ _ _ _ _ ⟨λ_=>⟨λh=>?_,λh=>?_⟩,λh=>by simp at h;omega⟩
   ·subst h;refine⟨l[i],by simp,by omega,l[j],by simp,by omega,_,ML N _ _ o1.1 o2.1 o1.2,?_⟩;rw[e2];refine ih (j+1) _ (by omega) (by omega) ?_;rw[Bool.true_and,show lone (kc N) l[i] (l[j]::l.drop (j+1))=((kc N l[i] l[j] !=0)&&lone (kc N) l[i] (l.drop (j+1))) from rfl]at hr;exact hr
   ·subst h;rw[e2];exact ih (j+1) _ (by omega) (by omega) (by simpa using hr)
  ·have e:j=l.length:=by omega
   subst e;exact fin o hr
theorem b1q:∀(d i:Nat) (acc:b5l (A0 × A0)),l.length - i<=d->i<=l.length->acc.length<=i->(∀x∈acc,Cn N x)->Y0 i acc l (JK (kc N) acc (l.drop i)):=by
 intro d
 induction d with
 |zero=>
  intro i acc hd hi ha hoa;have e:i=l.length:=by omega
  subst e;exact cu _ _ _ _ ⟨λh=>by simp at h,λ_=>by simp[JK]⟩
 |succ d ih=>
  intro i acc hd hi ha hoa;rcases Nat.lt_or_ge i l.length with hlt|hge
  ·have e1:wI ((i:Int)+1)=((i+1:Nat):Int):=by rw[wI,C7 (by omega)];omega
   have dl:l.drop i=l[i]::l.drop (i+1):=b5c hlt
   have mem_ins:∀(x:A0 × A0) (m:b5l (A0 × A0)),∀y∈I0 (kc N) x m,y=x\/y∈m:=by
    intro x m
    induction m with
    |nil=>intro y hy;simp[I0]at hy;exact .inl hy
    |cons z m ihm=>
     intro y hy;simp only[I0]at hy;split at hy
     ·rcases List.mem_cons.1 hy with h|h
      ·exact .inr (by rw[h];simp)
      ·rcases ihm y h with h|h
       ·exact .inl h
       ·exact .inr (by simp[h])
     ·rcases List.mem_cons.1 hy with h|h
      ·exact .inl h
      ·exact .inr h
   refine cu _ _ _ _ ⟨λ_=>?_,λh=>by simp at h;omega⟩;rw[e1];refine qv hl hok i hlt acc ha hoa _ l.length (i+1) true (by omega) (by omega) ?_;rw[dl];simp only[JK,Bool.true_and];refine ih (i+1) _ (by omega) (by omega) ?_ ?_
   ·split
    ·rw[Yo];omega
    ·omega
   ·intro y hy;split at hy
    ·rcases mem_ins _ _ y hy with h|h
     ·rw[h];exact hok _ (List.getElem_mem hlt)
     ·exact hoa y h
    ·exact hoa y hy
  ·have e:i=l.length:=by omega
   subst e;exact cu _ _ _ _ ⟨λh=>by simp at h,λ_=>by simp[JK]⟩
theorem b3v:GR l (K1 (kc N) l):=by
 have h:=b1q hl hok l.length 0 [] (by omega) (by omega) (by simp) (λx hx=>by cases hx);rw[List.drop_zero,cP (W4 (SF N) λx:A0 × A0=>x.1),qH]at h;exact a4u _ _ h
end
section
variable {α:Type}{c:α->α->Int}
theorem dk:∀(l:b5l α),∀x∈R0 c l,x∈l
 |[],x,h=>h
 |[y],x,h=>h
 |y::z::l,x,h=>by
  simp only[R0]at h;split at h
  ·exact List.mem_cons_of_mem _ (dk (z::l) x h)
  ·rcases List.mem_cons.1 h with h|h
   ·rw[h];simp
   ·exact List.mem_cons_of_mem _ (dk (z::l) x h)
theorem a3o{x:α}:∀{l:b5l α},(∀w∈l,¬c w x<0)->I0 c x l=x::l
 |[],_=>rfl
 |y::l,h=>by simp only[I0];rw[if_neg (h y (by simp))]
theorem fF(h:Tp c)(x:α):∀(S:b5l α),S.Pairwise (λa b=>c a b<=0)->R0 c (I0 c x S)=if lone c x S=true then I0 c x (R0 c S) else R0 c S
 |[],_=>rfl
 |y::l,hs=>by
  obtain⟨hy,hl⟩:=List.pairwise_cons.1 hs;have ih:=fF h x l hl;have s1:=h.s x y;have s2:=h.s y x
  by_cases e:c y x<0
  ·have eI:I0 c x (y::l)=y::I0 c x l:=by simp only[I0];rw[if_pos e]
   have eL:lone c x (y::l)=lone c x l:=by
    have:c x y≠0:=by omega
    simp[lone,this]
   rw[eI,eL];cases l with
   |nil=>
    have:¬c y x=0:=by omega
    simp[I0,R0,lone,this,e]
   |cons z l=>
    have s3:=h.s z x;have s4:=h.s x z;have s5:=h.s y z;have s6:=h.s z y;have t1:=h.t x z y
    by_cases e2:c z x<0
    ·have e3:I0 c x (z::l)=z::I0 c x l:=by simp only[I0];rw[if_pos e2]
     rw[e3]at ih ⊢;simp only[R0]at ih ⊢;rw[ih]
     by_cases e4:c y z=0
     ·rw[if_pos e4,if_pos e4]
     ·rw[if_neg e4,if_neg e4]
      by_cases e5:lone c x (z::l)=true
      ·rw[if_pos e5,if_pos e5];simp only[I0];rw[if_pos e]
      ·rw[if_neg e5,if_neg e5]
    ·have e3:I0 c x (z::l)=x::z::l:=by simp only[I0];rw[if_neg e2]
     rw[e3]at ih ⊢;have e4:¬c y x=0:=by omega
     have e5:¬c y z=0:=by
      intro e6;have:=t1 (by omega) (by omega);omega
     have e7:R0 c (y::x::z::l)=y::R0 c (x::z::l):=by
      rw[R0,if_neg e4]
     have e8:R0 c (y::z::l)=y::R0 c (z::l):=by
      rw[R0,if_neg e5]
     rw[e7,e8,ih]
     by_cases e9:lone c x (z::l)=true
     ·rw[if_pos e9,if_pos e9];simp only[I0];rw[if_pos e]
     ·rw[if_neg e9,if_neg e9]
  ·have eI:I0 c x (y::l)=x::y::l:=by simp only[I0];rw[if_neg e]
   rw[eI]
   by_cases e0:c x y=0
   ·have:lone c x (y::l)=false:=by simp[lone,e0]
    rw[R0,if_pos e0,this];simp
   ·have hlt:c x y<0:=by omega
    have hz:∀z∈y::l,c x z<0:=by
     intro z hz;rcases List.mem_cons.1 hz with hz|hz
     ·rw[hz];exact hlt
     ·have q1:=hy z hz;have s3:=h.s z x;have s4:=h.s x z;have t1:=h.t x y z (by omega) q1;have t2:=h.t y z x q1;omega
    have e1:lone c x (y::l):=by
     rw[lone,b5e];intro z h2;have:=hz z h2;simp;omega
    rw[R0,if_neg e0,if_pos e1,a3o];intro w hw;have:=hz w (dk _ w hw);have:=h.s x w;omega
def sC(c:α->α->Int):b5l α->b5l α
 |[]=>[]
 |x::l=>I0 c x (sC c l)
theorem Oa(x:α):∀l,(I0 c x l).Perm (x::l)
 |[]=>.refl _
 |y::l=>by
  simp only[I0];split
  ·exact((Oa x l).cons y).trans (.swap x y l)
  ·exact .refl _
theorem Jp:∀l:b5l α,(sC c l).Perm l
 |[]=>.refl _
 |x::l=>(Oa x _).trans ((Jp l).cons x)
theorem qC(h:Tp c):∀l:b5l α,(sC c l).Pairwise (λa b=>c a b<=0)
 |[]=>.nil
 |x::l=>by
  have key:∀S:b5l α,S.Pairwise (λa b=>c a b<=0)->(I0 c x S).Pairwise (λa b=>c a b<=0):=by
   intro S
   induction S with
   |nil=>intro _;simp[I0]
   |cons y S ih=>
    intro hs;obtain⟨hy,hS⟩:=List.pairwise_cons.1 hs;simp only[I0];split
    ·rename_i e;refine List.pairwise_cons.2 ⟨λz hz=>?_,ih hS⟩;rcases List.mem_cons.1 ((Oa x S).mem_iff.1 hz) with h2|h2
     ·rw[h2];omega
     ·exact hy z h2
    ·rename_i e;have s1:=h.s y x;have s2:=h.s x y;have e2:c x y<=0:=by omega
     refine List.pairwise_cons.2 ⟨λz hz=>?_,hs⟩;rcases List.mem_cons.1 hz with h2|h2
     ·rw[h2];exact e2
     ·exact h.t x y z e2 (hy z h2)
  exact key _ (qC h l)
theorem a1o{x:α}{l m:b5l α}(hp:l.Perm m):lone c x l=lone c x m:=by
 unfold lone;rw[Bool.eq_iff_iff,b5e,b5e];exact⟨λh y hy=>h y (hp.mem_iff.2 hy),λh y hy=>h y (hp.mem_iff.1 hy)⟩
theorem YG(h:Tp c):∀l:b5l α,R0 c (sC c l)=K1 c l
 |[]=>rfl
 |x::l=>by
  rw[sC,fF h x _ (qC h l),YG h l,a1o (Jp l)];rfl
def Ej(c:α->α->Int)(x:α × Nat):b5l (α × Nat)->b5l (α × Nat)
 |[]=>[x]
 |y::l=>if c y.1 x.1<0 then y::Ej c x l else x::y::l
theorem fA(x:α × Nat):∀l,fs (Ej c x l)=I0 c x.1 (fs l)
 |[]=>rfl
 |y::l=>by
  simp only[Ej,List.map_cons,I0];split
  ·show y.1::fs (Ej c x l)=_;rw[fA x l]
  ·rfl
theorem Zz(x:α × Nat):∀l,(Ej c x l).Perm (x::l)
 |[]=>.refl _
 |y::l=>by
  simp only[Ej];split
  ·exact((Zz x l).cons y).trans (.swap x y l)
  ·exact .refl _
theorem pz(h:Tp c)(x:α × Nat):∀l:b5l (α × Nat),(∀y∈l,x.2<y.2)->J8 c l->J8 c (Ej c x l)
 |[],_,_=>by simp[Ej,J8]
 |y::l,hx,hs=>by
  obtain⟨hy,hl⟩:=List.pairwise_cons.1 hs;simp only[Ej];split
  ·rename_i e;refine List.pairwise_cons.2 ⟨λz hz=>?_,pz h x l (λy hy=>hx y (by simp[hy])) hl⟩;rcases List.mem_cons.1 ((Zz x l).mem_iff.1 hz) with h2|h2
   ·rw[h2];exact .inl e
   ·exact hy z h2
  ·rename_i e;have s1:=h.s y.1 x.1;have s2:=h.s x.1 y.1;have e2:c x.1 y.1<=0:=by omega
   refine List.pairwise_cons.2 ⟨λz hz=>?_,hs⟩;have hxz:=hx z hz
   have:c x.1 z.1<=0:=by
    rcases List.mem_cons.1 hz with h2|h2
    ·rw[h2];exact e2
    ·have:=hy z h2;unfold Rt at this;exact h.t x.1 y.1 z.1 e2 (by omega)
   unfold Rt;omega
theorem OS(h:Tp c):∀l:b5l α,∃T,J8 c T/\T.Perm (P5 l)/\fs T=sC c l
 |[]=>⟨[],.nil,by simp[P5],rfl⟩
 |x::l=>by
  obtain⟨T,h1,h2,h3⟩:=OS h l;have e1:fs (T.map λp=>(p.1,p.2+1))=fs T:=by simp[fs]
  refine⟨Ej c (x,0) (T.map λp=>(p.1,p.2+1)),pz h _ _ (λy hy=>?_) ?_,(Zz _ _).trans ?_,?_⟩
  ·obtain⟨p,_,rfl⟩:=List.mem_map.1 hy;exact Nat.succ_pos _
  ·show List.Pairwise _ _;rw[List.pairwise_map]
   exact h1.imp λ{a b} hab=>by
    unfold Rt at hab ⊢;simp only;omega
  ·have e2:P5 (x::l)=(x,0)::(P5 l).map λp=>(p.1,p.2+1):=by
    simp[P5,List.zipIdx_succ]
   rw[e2];exact(h2.map _).cons _
  ·rw[fA,e1,h3];rfl
end
theorem gV(N:Nat)(l:b5l (A0 × A0))(hl:l.length*256<=140737488355328)(hok:∀x∈l,Cn N x):Lj l (K1 (kc N) l):=by
 have h:Tp (kc N):=W4 (SF N) λx:A0 × A0=>x.1
 obtain⟨S,h1,h2⟩:=a6z N l hl hok;obtain⟨T,q1,q2,q3⟩:=OS h l
 have e:S=sC (kc N) l:=by
  rw[<-q3];exact Ez.one (Dm:=λ_=>True) h (λ_ _=>trivial) h1 ⟨T,q1,q2,rfl⟩
 rw[e,YG h]at h2;exact h2
theorem mq(N:Nat)(l:b5l (A0 × A0))(hl:l.length*256<=140737488355328)(hok:∀x∈l,Cn N x):GR l (K1 (kc N) l):=b3v hl hok
abbrev kn(x y:Int × A0):Int:=G4 x.1 y.1
theorem Qg:Tp kn:=W4 EP λx:Int × A0=>x.1
theorem gA:∀l:b5l (Int × A0),Co l=R0 kn l
 |[]=>rfl
 |[x]=>rfl
 |x::y::l=>by
  simp only[Co,R0];rw[gA (y::l)];have h:=Uf (x:=x.1) (y:=y.1)
  by_cases e:x.1=y.1
  ·rw[if_pos e,if_pos (by simp only[kn];omega)]
  ·rw[if_neg e,if_neg (by simp only[kn];omega)]
theorem a84(l:b5l (Int × A0))(hl:l.length*136<=140737488355328):PO l (K1 kn l):=by
 obtain⟨S,h1,h2⟩:=a97 l hl;obtain⟨T,q1,q2,q3⟩:=OS Qg l
 have e:S=sC kn l:=by
  rw[<-q3];exact Ez.one (Dm:=λ_=>True) Qg (λ_ _=>trivial) h1 ⟨T,q1,q2,rfl⟩
 rw[e,gA,YG Qg]at h2;exact h2
abbrev kr(x y:A6):Int:=G4 x.Num y.Num
theorem RU:Tp kr:=W4 EP λx:A6=>x.Num
theorem b3d(x y:A6):fu (⟨98,[],[],rfl⟩:B5) x y (kr x y):=
 ⟨98,[],[],rfl,(show C3 [AV.agg (C6 x),AV.agg (C6 y)]=true by simp[C3,plain,U2]),a3n _ _ _ ⟨_,Ik _ _,rfl⟩⟩
theorem a37(l:b5l A6)(h0:l≠[])(hl:l.length<=140737488351232):VC l.length l (⟨98,[],[],rfl⟩:B5) (sC kr l)/\sC kr l≠[]/\(sC kr l).length=l.length:=by
 have hpos:0<l.length:=List.length_pos_iff.2 h0;obtain⟨S,h1,h2,h3⟩:=Yl (u6 ⟨98,[],[],rfl⟩) (bz λx:A6=>x.Num) (λx y _ _=>b3d x y) (n0:=l.length) (by omega) hpos (P5 l) (by simp[P5]) (λ_ _=>trivial) (Yr l);rw[NU]at h3;obtain⟨T,q1,q2,q3⟩:=OS RU l
 have e:fs S=sC kr l:=by
  rw[<-q3];exact Ez.one (Dm:=λ_=>True) RU (λ_ _=>trivial) ⟨S,h1,h2,rfl⟩ ⟨T,q1,q2,rfl⟩
 rw[e]at h3;have hlen:(sC kr l).length=l.length:=(Jp l).length_eq;refine⟨h3,λh=>?_,hlen⟩;rw[h]at hlen;simp at hlen;omega
def XB:A7:=⟨0,⟨#[]⟩,⟨#[]⟩,0,0,0,0,0⟩
def J9(num:Int):b5l A7->A7 × b5n
 |[]=>(XB,false)
 |o::l=>if(o.Num==num)=true then(o,true) else J9 num l
def I5(g:B7)(num:Int):A7 × b5n:=J9 num g.Ops
theorem a8z(g:B7)(hg:g.Ops.length<=140737488351232)(num:Int):∀(d i:Nat),g.Ops.length - i<=d->i<=g.Ops.length->∃k:Int,Vf i g.Ops (⟨159,[],[.G6 [.v (.int .i64 num)] 0],by simp[C3,plain]⟩:B5) k/\((k<0/\J9 num (g.Ops.drop i)=(XB,false))\/∃o,0<=k/\g.Ops[k.toNat]? =some o/\J9 num (g.Ops.drop i)=(o,true)):=by
 intro d
 induction d with
 |zero=>
  intro i hd hi;refine⟨-1,Ut _ _ _ _ ⟨λh=>by simp at h;omega,λ_=>rfl⟩,.inl ⟨by omega,?_⟩⟩;rw[b5d (by omega)];rfl
 |succ d ih=>
  intro i hd hi;rcases Nat.lt_or_ge i g.Ops.length with hlt|hge
  ·have e1:wI ((i:Int)+1)=((i+1:Nat):Int):=by rw[wI,C7 (by omega)];omega
   have dl:g.Ops.drop i=g.Ops[i]::g.Ops.drop (i+1):=b5c hlt;have hc:=uN g.Ops[i] num _ (rP _ _ _ rfl)
   by_cases e:(g.Ops[i].Num==num)=true
   ·refine⟨i,Ut _ _ _ _ ⟨λ_=>⟨g.Ops[i],by simp,by omega,_,hc,λ_=>rfl,λh=>?_⟩,λh=>by simp at h;omega⟩,.inr ⟨g.Ops[i],by omega,by simp,?_⟩⟩
    ·rw[h]at e;cases e
    ·rw[dl,J9,if_pos e]
   ·obtain⟨k,h1,h2⟩:=ih (i+1) (by omega) (by omega);refine⟨k,Ut _ _ _ _ ⟨λ_=>⟨g.Ops[i],by simp,by omega,_,hc,λh=>(e h).elim,λ_=>by rw[e1];exact h1⟩,λh=>by simp at h;omega⟩,?_⟩;rw[dl,J9,if_neg e];exact h2
  ·refine⟨-1,Ut _ _ _ _ ⟨λh=>by simp at h;omega,λ_=>rfl⟩,.inl ⟨by omega,?_⟩⟩;rw[b5d hge];rfl
theorem ck(g:B7)(hg:g.Ops.length<=140737488351232)(num:Int):OF g num (I5 g num):=by
 obtain⟨k,h1,h2⟩:=a8z g hg num g.Ops.length 0 (by omega) (by omega);rw[List.drop_zero]at h2;refine a0v _ _ _ ⟨_,a13 _ _ _ ⟨k,a5j _ _ _ h1,λh=>?_,λh=>?_⟩,rfl⟩
 ·rcases h2 with⟨_,e⟩|⟨o,q1,_⟩
  ·exact e
  ·simp at h;omega
 ·rcases h2 with⟨q,_⟩|⟨o,q1,q2,e⟩
  ·simp at h;omega
  ·exact⟨o,q2,q1,e⟩
theorem SH(g:B7)(hg:g.Ops.length<=140737488351232)(num:Int):WV g num (I5 g num):=by
 have key:∀(d i:Nat),g.Ops.length - i<=d->i<=g.Ops.length->Uz i num g (J9 num (g.Ops.drop i)):=by
  intro d
  induction d with
  |zero=>
   intro i hd hi;exact cF _ _ _ _ ⟨λh=>by simp at h;omega,λ_=>by rw[b5d (by omega)];rfl⟩
  |succ d ih=>
   intro i hd hi;rcases Nat.lt_or_ge i g.Ops.length with hlt|hge
   ·have e1:wI ((i:Int)+1)=((i+1:Nat):Int):=by rw[wI,C7 (by omega)];omega
    have dl:g.Ops.drop i=g.Ops[i]::g.Ops.drop (i+1):=b5c hlt;refine cF _ _ _ _ ⟨λ_=>⟨g.Ops[i],by simp,by omega,λh=>⟨g.Ops[i],by simp,by omega,?_⟩,λh=>?_⟩,λh=>by simp at h;omega⟩
    ·rw[dl,J9,if_pos h]
    ·rw[dl,J9,if_neg (nt h),e1];exact ih (i+1) (by omega) (by omega)
   ·exact cF _ _ _ _ ⟨λh=>by simp at h;omega,λ_=>by rw[b5d hge];rfl⟩
 have:=key g.Ops.length 0 (by omega) (by omega);exact b0z _ _ _ (by simpa[I5]using this)
structure Bm(c:A4):Prop where
 sz:c.Data.size<=140737488351232
 a0: -9223372036854775808<=c.At
 a1:c.At<=9223372036854775807
theorem XQ(c:A4):PW c (AY c.Data c.At c.End):=si _ _ (by simp only[AY,Bool.decide_and,Bool.and_assoc])
theorem oN(c:A4):WI c (AY c.Data c.At c.End):=a2d _ _ (by simp only[AY,Bool.decide_and,Bool.and_assoc])
theorem Dd(c:A4)(hc:Bm c):Di c (H7 c.Data c.At c.End):=by
 refine a1z _ _ ⟨_,XQ c,λh=>?_,λh=>?_⟩
 ·rw[H7,if_neg (by simpa using h)]
 ·have h1:AY c.Data c.At c.End:=by simpa using h
  rw[H7,if_pos h1];simp only[AY,b45]at h1;have:=hc.sz;rw[wI,C7 (by omega)]
def O0(c:A4):b5k:=c.Data.extract c.At.toNat (c.At.toNat+(H7 c.Data c.At c.End).toNat)
theorem qW(c:A4):0<=H7 c.Data c.At c.End:=by
 unfold H7;split
 ·rename_i h;simp only[AY,b45]at h;omega
 ·exact Int.le_refl _
theorem DY(c:A4):((O0 c).size:Int)=H7 c.Data c.At c.End:=by
 unfold O0;unfold H7;split
 ·rename_i h;simp only[AY,b45]at h;rw[EB _ (by omega)];omega
 ·rw[show c.At.toNat+(0:Int).toNat=c.At.toNat from rfl,Jb];rfl
theorem PN(c:A4):Jw c (O0 c):=by
 refine vU _ _ ⟨_,oN c,λh=>?_,λh=>?_⟩
 ·rw[O0,H7,if_neg (by simpa using h)];exact Jb _ _
 ·have h1:AY c.Data c.At c.End:=by simpa using h
  rw[O0,H7,if_pos h1];simp only[AY,b45]at h1;exact⟨h1,by congr 1;omega⟩
theorem Dx(c:A4):FV c (H7 c.Data c.At c.End):=b0f _ _ ⟨_,PN c,(DY c).symm⟩
def DH(c:A4)(n:Int):A4:=⟨c.Data,c.At+n,c.End,c.E5,c.Nodes,c.Text⟩
theorem UY(c:A4)(n:Int)(h: -9223372036854775808<=c.At+n/\c.At+n<=9223372036854775807):Ll c n (DH c n):=b04 _ _ _ (by rw[wI,C7 h];rfl)
theorem Wu(c:A4)(n:Int)(h: -9223372036854775808<=c.At+n/\c.At+n<=9223372036854775807):Mn c n (DH c n):=a2u _ _ _ (by rw[wI,C7 h];rfl)
def Ch(c:A4):Int × A4 × Int:=if 0<H7 c.Data c.At c.End then(I9 c.Data c.At.toNat,DH c 1,0) else(0,c,4)
theorem a57(c:A4)(hc:Bm c):cH c (Ch c):=by
 refine yZ _ _ ⟨_,Dd c hc,λh=>?_,λh=>?_⟩
 ·rw[Ch,if_neg (by simp at h;omega)]
 ·have h0:0<H7 c.Data c.At c.End:=by simp at h;omega
  obtain⟨h1,h2,h3,h4⟩:=Ei h0;have:=hc.sz;refine⟨⟨h1,by omega⟩,_,UY c 1 (by omega),?_⟩;rw[Ch,if_pos h0]
theorem d7(c:A4)(hc:Bm c):YJ c (Ch c):=by
 have hs:=DY c;refine a55 _ _ ⟨_,PN c,λh=>?_,λh=>?_⟩
 ·simp only[b45]at h;rw[Ch,if_neg];rw[<-hs,h];decide
 ·have h0:0<H7 c.Data c.At c.End:=by
   have:=qW c
   have:H7 c.Data c.At c.End≠0:=by
    intro h1;rw[h1]at hs
    have:O0 c=⟨#[]⟩:=by
     have:(O0 c).size=0:=by omega
     exact ByteArray.ext (Array.eq_empty_of_size_eq_zero this)
    simp[this]at h
   omega
  obtain⟨h1,h2,h3,h4⟩:=Ei h0;have:=hc.sz;refine⟨⟨Int.le_refl _,by rw[hs];exact h0⟩,_,Wu c 1 (by omega),?_⟩;rw[Ch,if_pos h0]
  congr 1
  have e1:=IY c.Data (l:=c.At.toNat) (u:=c.At.toNat+(H7 c.Data c.At c.End).toNat) (i:=0) (by omega);rw[(Cp c.Data _).1,(Cp (O0 c) _).1];exact congrArg _ e1.symm
def tk(x:Nat × Nat × Nat):Int × Int × Int:=(x.1,x.2.1,x.2.2)
theorem mW{i:Nat}(h:i<=9):(2:Int) ^ min (wI (7*(i:Int))).toNat IntKind.u64.bits=((128 ^ i:Nat):Int)/\0<=wI (7*(i:Int))/\128 ^ i=2 ^ (7*i):=by
 have:i=0\/i=1\/i=2\/i=3\/i=4\/i=5\/i=6\/i=7\/i=8\/i=9:=by omega
 rcases this with rfl|rfl|rfl|rfl|rfl|rfl|rfl|rfl|rfl|rfl<;>decide+kernel
theorem ib{c i u:Nat}(hi:i<=9)(hc:c<256)(h9:i=9->c<=1)(hu:u<128 ^ i):
  I3 .or .u64 (u:Int) (wU ((wU (I3 .and .u8 (c:Int) 127))*2 ^ min (wI (7*(i:Int))).toNat IntKind.u64.bits))=((u+c % 128*128 ^ i:Nat):Int)/\(i<=8->u+c % 128*128 ^ i<128 ^ (i+1)):=by
 obtain⟨hp,_,hq⟩:=mW hi;obtain⟨p1,p2,p3⟩:=Xk hi;have hm:c % 128*128 ^ i<=127*128 ^ i:=Nat.mul_le_mul_right _ (by omega)
 have hb:c % 128*128 ^ i<=9223372036854775808/\(i<=8->u+c % 128*128 ^ i<128 ^ (i+1)):=by
  rcases Nat.lt_or_ge i 9 with h|h
  ·have:=p3 (by omega);rw[Nat.pow_succ]at this ⊢;omega
  ·have h':i=9:=by omega
   have:=h9 h';subst h';have:c % 128<=1:=by omega
   have:c % 128*128 ^ 9<=1*128 ^ 9:=Nat.mul_le_mul_right _ this;exact⟨by omega,by omega⟩
 refine⟨?_,hb.2⟩;have e1:wU ((c % 128:Nat):Int)=((c % 128:Nat):Int):=Y2 (by omega);have e2:wU ((c % 128*128 ^ i:Nat):Int)=((c % 128*128 ^ i:Nat):Int):=Y2 (by omega);rw[b3o c hc,hp,e1,<-Int.natCast_mul,e2,aZ _ _ (by omega) (by omega),hq,UT _ _ _ (by rw[<-hq];exact hu)]
theorem a0t(s:b5k)(hz:s.size<=140737488351232):∀n i u:Nat,10 - i=n->i<=9->i<=s.size->u<128 ^ i->VX i u s (tk (N5 s i u)):=by
 intro n
 induction n with
 |zero=>intro i u h1 h2 h3;omega
 |succ n ih=>
  intro i u h1 h2 h3 hu;have hb:=Cp s i;rw[N5.eq_def,if_neg (by omega)];have hn:((i:Int)).toNat=i:=by omega
  refine ss _ _ _ _ ⟨λh=>?_,λh=>?_⟩
  ·have:(i:Int)=s.size:=by simpa using h
   rw[if_pos (by omega)];rfl
  have hne:¬(i:Int)=s.size:=by simpa using h
  rcases Nat.lt_or_ge i s.size with hlt|hge
  ·rw[if_neg (by omega)];rw[hn,hb.1];refine⟨⟨by omega,by omega⟩,λh=>?_,λh=>?_⟩
   ·simp only[b47,beq_iff_eq,b45]at h;rw[if_pos (by omega)];rfl
   ·have h9:¬(i=9/\1<G5 s i):=by
     simp only[Bool.and_eq_false_iff,beq_eq_false_iff_ne,b46]at h;omega
    rw[if_neg h9];obtain⟨e1,e2⟩:=ib (c:=G5 s i) (u:=u) h2 hb.2 (by omega) hu;refine⟨(mW h2).2.1,λh=>?_,λh=>?_⟩
    ·simp only[b45]at h;rw[if_pos (by omega),e1,wI,C7 (by omega)];have:G5 s i % 128=G5 s i:=by omega
     rw[this];rfl
    ·simp only[b46]at h;rw[if_neg (by omega),e1,wI,C7 (by omega)];have:i<=8:=by omega
     exact ih (i+1) _ (by omega) (by omega) (by omega) (e2 this)
  ·omega
theorem rT(s:b5k)(hz:s.size<=140737488351232):aV s (tk (N5 s 0 0)):=ww _ _ (a0t s hz 10 0 0 rfl (by omega) (by omega) (by decide))
theorem sX{c i u:Nat}(hi:i<=9)(hc:c<256)(h9:i=9->c<=1)(hu:u<128 ^ i):
  wU (c:Int)=c/\wU ((u:Int)+wU ((c:Int).tmod 128*((128 ^ i:Nat):Int)))=((u+c % 128*128 ^ i:Nat):Int)/\(i<=8->u+c % 128*128 ^ i<128 ^ (i+1)/\wU (((128 ^ i:Nat):Int)*128)=((128 ^ (i+1):Nat):Int)):=by
 obtain⟨e1,e2⟩:=ib hi hc h9 hu;obtain⟨p1,p2,p3⟩:=Xk hi;have hm:c % 128*128 ^ i<=127*128 ^ i:=Nat.mul_le_mul_right _ (by omega)
 have hb:c % 128*128 ^ i<=9223372036854775808:=by
  rcases Nat.lt_or_ge i 9 with h|h
  ·have:=p3 (by omega);rw[Nat.pow_succ]at this;omega
  ·have h':i=9:=by omega
   have:=h9 h';subst h';have:c % 128<=1:=by omega
   have:c % 128*128 ^ 9<=1*128 ^ 9:=Nat.mul_le_mul_right _ this;omega
 have e3:(c:Int).tmod 128*((128 ^ i:Nat):Int)=((c % 128*128 ^ i:Nat):Int):=by
  rw[Int.natCast_mul];congr 1
 have e4:wU ((c % 128*128 ^ i:Nat):Int)=((c % 128*128 ^ i:Nat):Int):=Y2 (by omega);refine⟨Y2 (by omega),?_,λh=>⟨e2 h,?_⟩⟩
 ·rw[e3,e4,<-Int.natCast_add];exact Y2 (by omega)
 ·have:=p3 h;have e5:((128 ^ i:Nat):Int)*128=((128 ^ (i+1):Nat):Int):=by rw[Nat.pow_succ,Int.natCast_mul];rfl
  rw[e5];exact Y2 (by omega)
theorem b12(s:b5k)(hz:s.size<=140737488351232):∀n i u:Nat,10 - i=n->i<=10->u<128 ^ i->(i=10->10<=s.size)->SY i (if i=10 then 0 else((128 ^ i:Nat):Int)) u s (tk (N5 s i u)):=by
 intro n
 induction n with
 |zero=>
  intro i u h1 h2 hu _;have:i=10:=by omega
  subst this;rw[N5.eq_def,if_pos (by omega)];exact kT _ _ _ _ _ ⟨λh=>by simp at h,λ_=>rfl⟩
 |succ n ih=>
  intro i u h1 h2 hu _;have hb:=Cp s i;rw[N5.eq_def,if_neg (show ¬i=10 by omega),if_neg (show ¬10<=i by omega)];have hn:((i:Int)).toNat=i:=by omega
  refine kT _ _ _ _ _ ⟨λ_=>⟨λh=>?_,λh=>?_⟩,λh=>?_⟩
  ·simp only[b45]at h;rw[if_pos (by omega)];rfl
  ·simp only[b46]at h;rw[if_neg (by omega),hn,hb.1];have hw:wU ((G5 s i:Nat):Int)=(G5 s i:Int):=Y2 (by omega);rw[hw];refine⟨⟨by omega,by omega⟩,λh=>?_,λh=>?_⟩
   ·simp only[b47,beq_iff_eq,b45]at h;rw[if_pos (by omega)];rfl
   ·have h9:¬(i=9/\1<G5 s i):=by
     simp only[Bool.and_eq_false_iff,beq_eq_false_iff_ne,b46]at h;omega
    rw[if_neg h9];obtain⟨_,e1,e2⟩:=sX (c:=G5 s i) (u:=u) (by omega) hb.2 (by omega) hu;refine⟨λh=>?_,λh=>?_⟩
    ·simp only[b45]at h;rw[if_pos (by omega),e1,wI,C7 (by omega)];have:G5 s i % 128=G5 s i:=by omega
     rw[this];rfl
    ·simp only[b46]at h;rw[if_neg (by omega),e1,wI,C7 (by omega)];have h8:i<=8:=by omega
     obtain⟨e3,e4⟩:=e2 h8;rw[e4];have:=ih (i+1) _ (by omega) (by omega) e3 (by omega);rw[if_neg (by omega)]at this;exact this
  ·simp at h;omega
theorem b0w(s:b5k)(hz:s.size<=140737488351232):aQ s (tk (N5 s 0 0)):=a56 _ _ (b12 s hz 10 0 0 rfl (by omega) (by decide) (by omega))
def By(c:A4)(n:Nat):b5k:=c.Data.extract c.At.toNat (c.At.toNat+min (H7 c.Data c.At c.End).toNat n)
theorem gh(c:A4)(hc:Bm c)(n:Nat)(hn:n<=1000):TU c n (By c n):=by
 refine a9s _ _ _ ⟨_,XQ c,λh=>?_,λh=>?_⟩
 ·rw[By,H7,if_neg (by simpa using h)];rw[show(0:Int).toNat=0 from rfl,Nat.zero_min];exact Jb _ _
 ·have h1:AY c.Data c.At c.End:=by simpa using h
  rw[By,H7,if_pos h1];simp only[AY,b45]at h1;have:=hc.sz;rw[wI,C7 (by omega)];exact⟨by omega,by congr 1;omega⟩
theorem Xr(c:A4)(n:Nat):(By c n).size=min (H7 c.Data c.At c.End).toNat n:=by
 have:=DY c;unfold By;rcases Int.lt_or_le 0 (H7 c.Data c.At c.End) with h|h
 ·obtain⟨h1,h2,h3,h4⟩:=Ei h;rw[EB _ (by omega)];omega
 ·have:H7 c.Data c.At c.End=0:=by have:=qW c;omega
  rw[this,show(0:Int).toNat=0 from rfl,Nat.zero_min];rw[Nat.add_zero,Jb];rfl
theorem mM(c:A4)(n i:Nat)(hi:i<n)(h:i<(O0 c).size):G5 (By c n) i=G5 (O0 c) i:=by
 have:=DY c;unfold By O0;rw[IY _ (by omega),IY _ (by omega)]
theorem a89(c:A4):N5 (By c 10) 0 0=N5 (O0 c) 0 0:=by
 have hs:=DY c;have hh:=Xr c 10;refine sx _ _ (λi hi=>by omega) (λi hi h=>mM c 10 i (by omega) (by omega)) 10 0 0 rfl
theorem Bm.rest{c:A4}(hc:Bm c):(O0 c).size<=140737488351232:=by
 have h1:=DY c;have:=hc.sz;rcases Int.lt_or_le 0 (H7 c.Data c.At c.End) with h|h
 ·obtain⟨h1,h2,h3,h4⟩:=Ei h;omega
 ·omega
def C1(c:A4):Int × A4 × Int:=if(N5 (O0 c) 0 0).2.2=0 then((N5 (O0 c) 0 0).1,DH c (N5 (O0 c) 0 0).2.1,0) else(0,c,(N5 (O0 c) 0 0).2.2)
theorem kA(c:A4)(hc:Bm c): -9223372036854775808<=c.At+(N5 (O0 c) 0 0).2.1/\c.At+(N5 (O0 c) 0 0).2.1<=9223372036854775807:=by
 have h1:=(fw (O0 c) 10 0 0 rfl).1;have h2:=DY c;have:=hc.sz;have:=hc.a0;have:=hc.a1;rcases Int.lt_or_le 0 (H7 c.Data c.At c.End) with h|h
 ·obtain⟨h1,h2,h3,h4⟩:=Ei h;omega
 ·omega
theorem ME(c:A4)(hc:Bm c):Gf c (C1 c):=by
 have hs:=kA c hc;have ht:=rT (By c 10) (by rw[Xr];omega);rw[a89]at ht;refine b0y _ _ ⟨_,gh c hc 10 (by omega),_,ht,λh=>?_,λh=>?_⟩
 ·rw[C1,if_neg]
  ·rfl
  ·intro h0;simp[tk,h0]at h
 ·have h0:(N5 (O0 c) 0 0).2.2=0:=by simpa[tk]using h
  exact⟨_,UY c _ hs,by rw[C1,if_pos h0];rfl⟩
theorem La(c:A4)(hc:Bm c):LB c (C1 c):=by
 have hs:=kA c hc;refine r4 _ _ ⟨_,PN c,_,b0w _ hc.rest,λh=>?_,λh=>?_⟩
 ·rw[C1,if_neg]
  ·rfl
  ·intro h0;simp[tk,h0]at h
 ·have h0:(N5 (O0 c) 0 0).2.2=0:=by simpa[tk]using h
  exact⟨_,Wu c _ hs,by rw[C1,if_pos h0];rfl⟩
theorem x9{i:Nat}(h:i<=7):(2:Int) ^ min (wI (8*(i:Int))).toNat IntKind.u64.bits=((256 ^ i:Nat):Int)/\0<=wI (8*(i:Int)):=by
 have:i=0\/i=1\/i=2\/i=3\/i=4\/i=5\/i=6\/i=7:=by omega
 rcases this with rfl|rfl|rfl|rfl|rfl|rfl|rfl|rfl<;>decide+kernel
theorem a8l(s:b5k)(h8:8<=s.size):∀n i:Nat,8 - i=n->i<=8->Vt i (BE s i) s (BE s 8,0):=by
 intro n
 induction n with
 |zero=>
  intro i h1 h2;have:i=8:=by omega
  subst this;exact nW _ _ _ _ ⟨λh=>by simp at h,λ_=>rfl⟩
 |succ n ih=>
  intro i h1 h2;have hi:i<=7:=by omega
  obtain⟨hp,h0⟩:=x9 hi;obtain⟨p1,p2,p3⟩:=gi hi;have hb:=Cp s i;have hl:=dA s i;have hn:((i:Int)).toNat=i:=by omega
  refine nW _ _ _ _ ⟨λ_=>⟨⟨by omega,by omega⟩,h0,?_⟩,λh=>by simp at h;omega⟩;have hm:G5 s i*256 ^ i<=255*256 ^ i:=Nat.mul_le_mul_right _ (by omega);have e1:wU ((G5 s i:Nat):Int)=(G5 s i:Int):=Y2 (by omega);have e2:wU ((G5 s i*256 ^ i:Nat):Int)=((G5 s i*256 ^ i:Nat):Int):=Y2 (by omega);rw[hn,hb.1,e1,hp,<-Int.natCast_mul,e2,aZ _ _ (by omega) (by omega),p3,UT _ _ _ (by rw[<-p3];exact hl),wI,C7 (by omega)];have:=ih (i+1) (by omega) (by omega);rw[BE,p3]at this;exact this
theorem vA(s:b5k):ZZ s ((GL s).1,(GL s).2):=by
 refine th _ _ ⟨λh=>?_,λh=>?_⟩
 ·simp only[b45]at h;rw[GL,if_pos (by omega)];rfl
 ·simp only[b46]at h;have h8:¬s.size<8:=by omega
  rw[GL,if_neg h8];exact a8l s (by omega) 8 0 rfl (by omega)
def Z1(c:A4):Int × A4 × Int:=if 8<=(O0 c).size then((BE (O0 c) 8:Nat),DH c 8,0) else(0,c,4)
theorem ko(c:A4)(hc:Bm c):TM c (Z1 c):=by
 have hs:=DY c;have hh:=Xr c 8;have:=hc.sz;have:=hc.a0;have:=hc.a1;refine zh _ _ ⟨_,gh c hc 8 (by omega),_,vA _,λh=>?_,λh=>?_⟩
 ·have:(By c 8).size<8:=by
   rcases Nat.lt_or_ge (By c 8).size 8 with h1|h1
   ·exact h1
   ·simp[GL,Nat.not_lt.2 h1]at h
  rw[Z1,if_neg (by omega),GL,if_pos this];rfl
 ·have h1:8<=(By c 8).size:=by
   rcases Nat.lt_or_ge (By c 8).size 8 with h1|h1
   ·simp[GL,h1]at h
   ·exact h1
  have h0:0<H7 c.Data c.At c.End:=by omega
  obtain⟨k1,k2,k3,k4⟩:=Ei h0;refine⟨_,UY c 8 (by omega),?_⟩;rw[Z1,if_pos (by omega),GL,if_neg (by omega),iR (By c 8) (O0 c) 8 λi hi=>mM c 8 i hi (by omega)]
def EI(s:b5k):Nat->Nat
 |0=>0
 |k+1=>EI s k*256+G5 s (7 - k)
theorem TY(s:b5k):∀k,k<=8->EI s k*256 ^ (8 - k)+BE s (8 - k)=BE s 8/\EI s k<256 ^ k
 |0,_=>by simp[EI]
 |k+1,h=>by
  obtain⟨h1,h2⟩:=TY s k (by omega);have hb:=(Cp s (7 - k)).2;refine⟨?_,?_⟩
  ·rw[<-h1];have e:8 - k=(7 - k)+1:=by omega
   have e2:8 - (k+1)=7 - k:=by omega
   rw[e2,e,BE,EI,Nat.pow_succ,Nat.add_mul,Nat.mul_assoc,Nat.mul_comm 256];omega
  ·rw[EI,Nat.pow_succ];omega
theorem yn(c:A4)(hc:Bm c)(s:b5k)(h8:8<=s.size)(hat: -9223372036854775808<=c.At+8/\c.At+8<=9223372036854775807):∀n k:Nat,8 - k=n->k<=8->WL (7 - (k:Int)) (EI s k) s c ((BE s 8:Nat),DH c 8,0):=by
 intro n
 induction n with
 |zero=>
  intro k h1 h2;have:k=8:=by omega
  subst this;refine fK _ _ _ _ _ ⟨λh=>by simp at h,λ_=>⟨_,Wu c 8 hat,?_⟩⟩;have h3:=(TY s 8 (by omega)).1;rw[show 8 - 8=0 from rfl,show BE s 0=0 from rfl,Nat.pow_zero,Nat.mul_one,Nat.add_zero]at h3;rw[h3]
 |succ n ih=>
  intro k h1 h2;have hb:=Cp s (7 - k);have hl:=(TY s k (by omega)).2;have hl2:=(TY s (k+1) (by omega)).2;have hk:k<=7:=by omega
  obtain⟨p1,p2,p3⟩:=gi hk;have hn:(7 - (k:Int)).toNat=7 - k:=by omega
  refine fK _ _ _ _ _ ⟨λ_=>⟨⟨by omega,by omega⟩,?_⟩,λh=>by simp at h;omega⟩;have hp:256 ^ (k+1)<=18446744073709551616:=by rw[Nat.pow_succ];omega
  rw[EI]at hl2;have e1:wU ((G5 s (7 - k):Nat):Int)=(G5 s (7 - k):Int):=Y2 (by omega);have e2:wU ((EI s k:Int)*256)=((EI s k*256:Nat):Int):=by rw[wU,Y2 (by omega)];omega
  rw[hn,hb.1,e1,e2,<-Int.natCast_add,wU,Y2 (by omega),wI,C7 (by omega)];have:=ih (k+1) (by omega) (by omega);rw[EI]at this;have e3:(7:Int) - ((k+1:Nat):Int)=7 - (k:Int) - 1:=by omega
  rw[e3]at this;exact this
theorem qF(c:A4)(hc:Bm c):TK c (Z1 c):=by
 have hs:=DY c;have:=hc.sz;have:=hc.a0;have:=hc.a1;refine b1b _ _ ⟨_,PN c,λh=>?_,λh=>?_⟩
 ·simp only[b45]at h;rw[Z1,if_neg (by omega)]
 ·simp only[b46]at h;have h0:0<H7 c.Data c.At c.End:=by omega
  obtain⟨k1,k2,k3,k4⟩:=Ei h0;rw[Z1,if_pos (by omega)];exact yn c hc (O0 c) (by omega) (by omega) 8 0 rfl (by omega)
theorem a6w(s:b5k):(bI s).length=s.size:=by simp[bI]
def BW(c:A4)(n:Int):b5k × A4 × Int:=if n<0 then(⟨#[]⟩,c,1) else if H7 c.Data c.At c.End<n then(⟨#[]⟩,c,4) else if c.Text<n then(⟨#[]⟩,c,3) else(c.Data.extract c.At.toNat (c.At.toNat+n.toNat),DH c n,0)
theorem tF(c:A4):DH c 0=c:=by cases c;simp[DH]
theorem b3s(c:A4)(hc:Bm c)(n:Int):XO c n (BW c n):=by
 have:=hc.sz;refine a96 _ _ _ ⟨λh=>?_,λh=>⟨_,Dd c hc,λh2=>?_,λh2=>⟨λh3=>?_,λh3=>⟨λh4=>?_,λh4=>?_⟩⟩⟩⟩
 ·rw[BW,if_pos (by simpa using h)]
 all_goals simp only[b46,b45,beq_iff_eq,beq_eq_false_iff_ne]at*
 ·rw[BW,if_neg h,if_pos h2]
 ·rw[BW,if_neg h,if_neg h2,if_pos h3]
 ·subst h4;rw[BW,if_neg h,if_neg h2,if_neg h3,tF,show(0:Int).toNat=0 from rfl,Nat.add_zero,Jb]
 ·have h0:0<H7 c.Data c.At c.End:=by omega
  obtain⟨k1,k2,k3,k4⟩:=Ei h0;have hw:wI (c.At+n)=c.At+n:=C7 (by omega);have hx:(wI (c.At+n)).toNat=c.At.toNat+n.toNat:=by rw[hw];omega
  have hl:(bI (c.Data.extract c.At.toNat (wI (c.At+n)).toNat)).length=n.toNat:=by rw[a6w,hx,EB _ (by omega)];omega
  refine⟨_,zQ _ _ _ ⟨⟨k1,by rw[hw];omega,by rw[hw];omega⟩,⟨Int.le_refl _,by omega,by rw[hl];omega⟩,rfl⟩,c.Data.extract c.At.toNat (c.At.toNat+n.toNat),?_,_,UY c n (by omega),?_⟩
  ·rw[show(0:Int).toNat=0 from rfl,List.drop_zero,List.take_of_length_le (by omega),hx]
  ·rw[BW,if_neg h,if_neg h2,if_neg h3]
theorem xI(c:A4)(hc:Bm c)(n:Int):ai c n (BW c n):=by
 have:=hc.sz;have:=hc.a0;have:=hc.a1;have hs:=DY c;refine uZ _ _ _ ⟨_,PN c,λh=>?_,λh=>⟨λh2=>?_,λh2=>⟨λh3=>?_,λh3=>?_⟩⟩⟩
 ·rw[BW,if_pos (by simpa using h)]
 all_goals simp only[b46,b45,beq_iff_eq,beq_eq_false_iff_ne]at*
 ·rw[BW,if_neg h,if_pos (by omega)]
 ·rw[BW,if_neg h,if_neg (by omega),if_pos h3]
 ·have hle:c.At+n<=9223372036854775807:=by
   rcases Int.lt_or_le 0 (H7 c.Data c.At c.End) with h0|h0
   ·obtain⟨k1,k2,k3,k4⟩:=Ei h0;omega
   ·omega
  refine⟨⟨Int.le_refl _,by omega,by omega⟩,_,Wu c n (by omega),?_⟩;rw[BW,if_neg h,if_neg (by omega),if_neg h3]
  congr 1
  rw[O0,show(0:Int).toNat=0 from rfl];rcases Int.lt_or_le 0 (H7 c.Data c.At c.End) with h0|h0
  ·obtain⟨k1,k2,k3,k4⟩:=Ei h0;rw[Mw,Mw,Mw]
   congr 2
   simp only[Nat.zero_add,List.drop_zero,List.take_drop];rw[List.take_take]
   congr 2
   omega
  ·have:n.toNat=0:=by omega
   rw[this,Nat.add_zero,Jb,Jb]
def DD(u:Nat):Int:=if u % 2=0 then(u / 2:Nat) else -((u / 2:Nat):Int) - 1
theorem b0l{n:Int}(h: -9223372036854775808<=n/\n<0):wU n=n+18446744073709551616:=by simp[wU,IntKind.wrap,IntKind.signed,IntKind.bits];omega
theorem a1s(u:Nat)(h:u<18446744073709551616):db u (DD u):=by
 refine vB _ _ ?_
 have e0:(u:Int).fdiv (2 ^ min (1:Int).toNat IntKind.u64.bits)=((u / 2:Nat):Int):=by
  rw[show(2:Int) ^ min (1:Int).toNat IntKind.u64.bits=((2:Nat):Int) by decide+kernel,Int.fdiv_eq_ediv_of_nonneg _ (by omega)];rfl
 have e1:I3 .and .u64 (u:Int) 1=((u % 2:Nat):Int):=by
  have:=Sd u 1 h (by omega);rw[Nat.and_one_is_mod]at this;exact this
 have e2:wI ((u / 2:Nat):Int)=((u / 2:Nat):Int):=C7 (by omega);rw[e0,e1,e2];have e3:wI ((u % 2:Nat):Int)=((u % 2:Nat):Int):=C7 (by omega);rw[e3];unfold DD;rcases Nat.mod_two_eq_zero_or_one u with h2|h2
 ·rw[h2,if_pos rfl,show wI (0 - ((0:Nat):Int))=0 by decide+kernel,a92 _ (by omega)]
 ·rw[h2,if_neg (by omega),show wI (0 - ((1:Nat):Int))= -1 by decide+kernel,yK _ (by omega)]
theorem yl(u:Nat)(h:u<18446744073709551616):ZW u (DD u):=by
 have e1:(u:Int).tdiv 2=((u / 2:Nat):Int):=rfl;have e2:(u:Int).tmod 2=((u % 2:Nat):Int):=rfl;have e3:wU ((u / 2:Nat):Int)=((u / 2:Nat):Int):=Y2 (by omega);have e4:wI ((u / 2:Nat):Int)=((u / 2:Nat):Int):=C7 (by omega);refine sr _ _ ⟨λhh=>?_,λhh=>?_⟩
 ·rw[e2]at hh;simp only[beq_iff_eq]at hh;rw[e1,e3,e4,DD,if_pos (by omega)]
 ·rw[e2]at hh;simp only[beq_eq_false_iff_ne]at hh;have e5:wI (0 - ((u / 2:Nat):Int))=0 - ((u / 2:Nat):Int):=C7 (by omega);rw[e1,e3,e4,e5,DD,if_neg (by omega),wI,C7 (by omega)];omega
theorem uH(s:b5k):∀n i u:Nat,10 - i=n->i<=9->u<128 ^ i->(N5 s i u).1<18446744073709551616:=by
 intro n
 induction n with
 |zero=>intro i u h1 h2;omega
 |succ n ih=>
  intro i u h1 h2 hu;have hb:=Cp s i;rw[N5.eq_def,if_neg (by omega)];split
  ·decide
  split
  ·decide
  rename_i h9;obtain⟨p1,p2,p3⟩:=Xk h2;split
  ·rename_i hlt;rcases Nat.lt_or_ge i 9 with h|h
   ·have:=p3 (by omega);have hm:G5 s i*128 ^ i<=127*128 ^ i:=Nat.mul_le_mul_right _ (by omega);rw[Nat.pow_succ]at this;simp only;omega
   ·have h':i=9:=by omega
    subst h';have:G5 s 9<=1:=by omega
    have hm:G5 s 9*128 ^ 9<=1*128 ^ 9:=Nat.mul_le_mul_right _ this;simp only;omega
  ·rename_i hge
   have h8:i<=8:=by
    rcases Nat.lt_or_ge i 9 with h|h
    ·omega
    ·exact(h9 ⟨by omega,by omega⟩).elim
   have hm:G5 s i % 128*128 ^ i<=127*128 ^ i:=Nat.mul_le_mul_right _ (by omega);exact ih (i+1) _ (by omega) (by omega) (by rw[Nat.pow_succ];omega)
def Z9(v:A0):A0:=if v.Kind=6/\GT v.Bits.toNat=0 then⟨v.Kind,9221120237041090560,v.Text,v.B8,v.Pairs,v.Slots,v.C4⟩ else v
theorem cG(v:A0)(hb:0<=v.Bits/\v.Bits<18446744073709551616):Nk v (Z9 v):=by
 have hz:v.Bits=(v.Bits.toNat:Int):=by omega
 have hc:=jQ v.Bits.toNat (by omega);rw[<-hz]at hc;refine a15 _ _ ⟨λh=>⟨_,hc,λh2=>?_,λh2=>?_⟩,λh=>?_⟩
 all_goals simp only[beq_iff_eq,beq_eq_false_iff_ne]at*
 ·rw[Z9,if_pos ⟨h,by omega⟩]
 ·rw[Z9,if_neg (by omega)]
 ·rw[Z9,if_neg (by omega)]
theorem ak(v:A0)(hb:0<=v.Bits/\v.Bits<18446744073709551616):PY v (Z9 v):=by
 have hz:v.Bits=(v.Bits.toNat:Int):=by omega
 have hc:=oC v.Bits.toNat (by omega);rw[<-hz]at hc;refine a4a _ _ ⟨λh=>⟨_,hc,λh2=>?_,λh2=>?_⟩,λh=>?_⟩
 all_goals simp only[beq_iff_eq,beq_eq_false_iff_ne]at*
 ·rw[Z9,if_pos ⟨h,by omega⟩]
 ·rw[Z9,if_neg (by omega)]
 ·rw[Z9,if_neg (by omega)]
def M1(n b0 b1 b2 b3:Nat):Nat:=
 if b0<128 then 1
 else if(194<=b0/\b0<=223)/\(1<n/\128<=b1/\b1<=191) then 2
 else if b0=224/\(1<n/\160<=b1/\b1<=191)/\(2<n/\128<=b2/\b2<=191) then 3
 else if b0=237/\(1<n/\128<=b1/\b1<=159)/\(2<n/\128<=b2/\b2<=191) then 3
 else if(225<=b0/\b0<=239/\b0≠237)/\(1<n/\128<=b1/\b1<=191)/\(2<n/\128<=b2/\b2<=191) then 3
 else if b0=240/\(1<n/\144<=b1/\b1<=191)/\(2<n/\128<=b2/\b2<=191)/\(3<n/\128<=b3/\b3<=191) then 4
 else if(241<=b0/\b0<=243)/\(1<n/\128<=b1/\b1<=191)/\(2<n/\128<=b2/\b2<=191)/\(3<n/\128<=b3/\b3<=191) then 4
 else if b0=244/\(1<n/\128<=b1/\b1<=143)/\(2<n/\128<=b2/\b2<=191)/\(3<n/\128<=b3/\b3<=191) then 4
 else 0
theorem b0m(n b0 b1 b2 b3:Nat)(hn:1<=n):M1 n b0 b1 b2 b3<=n:=by
 unfold M1
 repeat' split
 all_goals omega
def Fy(n b0 b1 b2:Nat)(x:Nat × Nat):Nat:=if x.1=65533/\¬(2<n/\b0=239/\b1=191/\b2=189) then 0 else x.2
theorem Gl{n b0 b1 b2 k:Nat}(h:¬(2<n/\b0=239/\b1=191/\b2=189)):Fy n b0 b1 b2 (65533,k)=0:=by unfold Fy;rw[if_pos ⟨rfl,h⟩]
theorem Gm{n b0 b1 b2 c k:Nat}(h:c≠65533\/(2<n/\b0=239/\b1=191/\b2=189)):Fy n b0 b1 b2 (c,k)=k:=by
 unfold Fy;rw[if_neg];intro ⟨h1,h2⟩;rcases h with h|h
 ·exact h h1
 ·exact h2 h
theorem rM(n b0 b1 b2 b3:Nat)(hb:194<=b0/\b0<=223)(h1:b1<256):M1 n b0 b1 b2 b3=Fy n b0 b1 b2 (Lib.decodeN n b0 b1 b2 b3):=by
 by_cases h:1<n/\128<=b1/\b1<=191
 ·have e1:M1 n b0 b1 b2 b3=2:=by unfold M1;rw[if_neg (by omega),if_pos (by omega)]
  have e2:Lib.decodeN n b0 b1 b2 b3=(b0 % 32*64+b1 % 64,2):=by unfold Lib.decodeN;rw[if_neg (by omega),if_pos (by omega),if_pos (by omega)]
  rw[e1,e2,Gm (by omega)]
 ·have e1:M1 n b0 b1 b2 b3=0:=by unfold M1;rw[if_neg (by omega),if_neg (by omega),if_neg (by omega),if_neg (by omega),if_neg (by omega),if_neg (by omega),if_neg (by omega),if_neg (by omega)]
  have e2:Lib.decodeN n b0 b1 b2 b3=(65533,1):=by unfold Lib.decodeN;rw[if_neg (by omega),if_neg (by omega),if_neg (by omega),if_neg (by omega)]
  rw[e1,e2,Gl (by omega)]
theorem lL(n b0 b1 b2 b3:Nat)(hb:(128<=b0/\b0<194)\/245<=b0)(h0:b0<256):M1 n b0 b1 b2 b3=Fy n b0 b1 b2 (Lib.decodeN n b0 b1 b2 b3):=by
 have e:Lib.decodeN n b0 b1 b2 b3=(65533,1):=by
  unfold Lib.decodeN;rw[if_neg (by omega)]
  by_cases c1:b0 / 32=6/\(1<n/\b1 / 64=2)
  ·rw[if_pos c1,if_neg (by omega)]
  ·rw[if_neg c1,if_neg (by omega)]
   by_cases c2:b0 / 8=30/\(1<n/\b1 / 64=2)/\(2<n/\b2 / 64=2)/\(3<n/\b3 / 64=2)
   ·rw[if_pos c2,if_neg (by omega)]
   ·rw[if_neg c2]
 rw[e,Gl (by omega)];unfold M1;rw[if_neg (by omega),if_neg (by omega),if_neg (by omega),if_neg (by omega),if_neg (by omega),if_neg (by omega),if_neg (by omega),if_neg (by omega)]
theorem rK(n b0 b1 b2 b3:Nat)(hb:224<=b0/\b0<=239)(h1:b1<256)(h2:b2<256):M1 n b0 b1 b2 b3=Fy n b0 b1 b2 (Lib.decodeN n b0 b1 b2 b3):=by
 by_cases c:(1<n/\b1 / 64=2)/\(2<n/\b2 / 64=2)
 ·by_cases d0:b0=224
  ·by_cases d1:160<=b1
   ·have e1:M1 n b0 b1 b2 b3=3:=by unfold M1;rw[if_neg (by omega),if_neg (by omega),if_pos (by omega)]
    have e2:Lib.decodeN n b0 b1 b2 b3=(b0 % 16*4096+b1 % 64*64+b2 % 64,3):=by unfold Lib.decodeN;rw[if_neg (by omega),if_neg (by omega),if_pos (by omega),if_pos (by omega)]
    rw[e1,e2,Gm (by omega)]
   ·have e1:M1 n b0 b1 b2 b3=0:=by unfold M1;rw[if_neg (by omega),if_neg (by omega),if_neg (by omega),if_neg (by omega),if_neg (by omega),if_neg (by omega),if_neg (by omega),if_neg (by omega)]
    have e2:Lib.decodeN n b0 b1 b2 b3=(65533,1):=by unfold Lib.decodeN;rw[if_neg (by omega),if_neg (by omega),if_pos (by omega),if_neg (by omega)]
    rw[e1,e2,Gl (by omega)]
  ·by_cases d2:b0=237
   ·by_cases d3:b1<=159
    ·have e1:M1 n b0 b1 b2 b3=3:=by unfold M1;rw[if_neg (by omega),if_neg (by omega),if_neg (by omega),if_pos (by omega)]
     have e2:Lib.decodeN n b0 b1 b2 b3=(b0 % 16*4096+b1 % 64*64+b2 % 64,3):=by unfold Lib.decodeN;rw[if_neg (by omega),if_neg (by omega),if_pos (by omega),if_pos (by omega)]
     rw[e1,e2,Gm (by omega)]
    ·have e1:M1 n b0 b1 b2 b3=0:=by unfold M1;rw[if_neg (by omega),if_neg (by omega),if_neg (by omega),if_neg (by omega),if_neg (by omega),if_neg (by omega),if_neg (by omega),if_neg (by omega)]
     have e2:Lib.decodeN n b0 b1 b2 b3=(65533,1):=by unfold Lib.decodeN;rw[if_neg (by omega),if_neg (by omega),if_pos (by omega),if_neg (by omega)]
     rw[e1,e2,Gl (by omega)]
   ·have e1:M1 n b0 b1 b2 b3=3:=by unfold M1;rw[if_neg (by omega),if_neg (by omega),if_neg (by omega),if_neg (by omega),if_pos (by omega)]
    have e2:Lib.decodeN n b0 b1 b2 b3=(b0 % 16*4096+b1 % 64*64+b2 % 64,3):=by unfold Lib.decodeN;rw[if_neg (by omega),if_neg (by omega),if_pos (by omega),if_pos (by omega)]
    rw[e1,e2,Gm (by omega)]
 ·have e1:M1 n b0 b1 b2 b3=0:=by unfold M1;rw[if_neg (by omega),if_neg (by omega),if_neg (by omega),if_neg (by omega),if_neg (by omega),if_neg (by omega),if_neg (by omega),if_neg (by omega)]
  have e2:Lib.decodeN n b0 b1 b2 b3=(65533,1):=by unfold Lib.decodeN;rw[if_neg (by omega),if_neg (by omega),if_neg (by omega),if_neg (by omega)]
  rw[e1,e2,Gl (by omega)]
theorem tt(n b0 b1 b2 b3:Nat)(hb:240<=b0/\b0<=244)(h1:b1<256)(h2:b2<256)(h3:b3<256):M1 n b0 b1 b2 b3=Fy n b0 b1 b2 (Lib.decodeN n b0 b1 b2 b3):=by
 by_cases c:(1<n/\b1 / 64=2)/\(2<n/\b2 / 64=2)/\(3<n/\b3 / 64=2)
 ·by_cases d0:b0=240
  ·by_cases d1:144<=b1
   ·have e1:M1 n b0 b1 b2 b3=4:=by unfold M1;rw[if_neg (by omega),if_neg (by omega),if_neg (by omega),if_neg (by omega),if_neg (by omega),if_pos (by omega)]
    have e2:Lib.decodeN n b0 b1 b2 b3=(b0 % 8*262144+b1 % 64*4096+b2 % 64*64+b3 % 64,4):=by unfold Lib.decodeN;rw[if_neg (by omega),if_neg (by omega),if_neg (by omega),if_pos (by omega),if_pos (by omega)]
    rw[e1,e2,Gm (by omega)]
   ·have e1:M1 n b0 b1 b2 b3=0:=by unfold M1;rw[if_neg (by omega),if_neg (by omega),if_neg (by omega),if_neg (by omega),if_neg (by omega),if_neg (by omega),if_neg (by omega),if_neg (by omega)]
    have e2:Lib.decodeN n b0 b1 b2 b3=(65533,1):=by unfold Lib.decodeN;rw[if_neg (by omega),if_neg (by omega),if_neg (by omega),if_pos (by omega),if_neg (by omega)]
    rw[e1,e2,Gl (by omega)]
  ·by_cases d2:b0=244
   ·by_cases d3:b1<=143
    ·have e1:M1 n b0 b1 b2 b3=4:=by unfold M1;rw[if_neg (by omega),if_neg (by omega),if_neg (by omega),if_neg (by omega),if_neg (by omega),if_neg (by omega),if_neg (by omega),if_pos (by omega)]
     have e2:Lib.decodeN n b0 b1 b2 b3=(b0 % 8*262144+b1 % 64*4096+b2 % 64*64+b3 % 64,4):=by unfold Lib.decodeN;rw[if_neg (by omega),if_neg (by omega),if_neg (by omega),if_pos (by omega),if_pos (by omega)]
     rw[e1,e2,Gm (by omega)]
    ·have e1:M1 n b0 b1 b2 b3=0:=by unfold M1;rw[if_neg (by omega),if_neg (by omega),if_neg (by omega),if_neg (by omega),if_neg (by omega),if_neg (by omega),if_neg (by omega),if_neg (by omega)]
     have e2:Lib.decodeN n b0 b1 b2 b3=(65533,1):=by unfold Lib.decodeN;rw[if_neg (by omega),if_neg (by omega),if_neg (by omega),if_pos (by omega),if_neg (by omega)]
     rw[e1,e2,Gl (by omega)]
   ·have e1:M1 n b0 b1 b2 b3=4:=by unfold M1;rw[if_neg (by omega),if_neg (by omega),if_neg (by omega),if_neg (by omega),if_neg (by omega),if_neg (by omega),if_pos (by omega)]
    have e2:Lib.decodeN n b0 b1 b2 b3=(b0 % 8*262144+b1 % 64*4096+b2 % 64*64+b3 % 64,4):=by unfold Lib.decodeN;rw[if_neg (by omega),if_neg (by omega),if_neg (by omega),if_pos (by omega),if_pos (by omega)]
    rw[e1,e2,Gm (by omega)]
 ·have e1:M1 n b0 b1 b2 b3=0:=by unfold M1;rw[if_neg (by omega),if_neg (by omega),if_neg (by omega),if_neg (by omega),if_neg (by omega),if_neg (by omega),if_neg (by omega),if_neg (by omega)]
  have e2:Lib.decodeN n b0 b1 b2 b3=(65533,1):=by unfold Lib.decodeN;rw[if_neg (by omega),if_neg (by omega),if_neg (by omega),if_neg (by omega)]
  rw[e1,e2,Gl (by omega)]
theorem wH(n b0 b1 b2 b3:Nat)(h0:b0<256)(h1:b1<256)(h2:b2<256)(h3:b3<256):
  M1 n b0 b1 b2 b3=if(Lib.decodeN n b0 b1 b2 b3).1=65533/\¬(2<n/\b0=239/\b1=191/\b2=189) then 0 else(Lib.decodeN n b0 b1 b2 b3).2:=by
 show _=Fy n b0 b1 b2 _
 by_cases c0:b0<128
 ·unfold M1 Lib.decodeN;rw[if_pos c0,if_pos c0,Gm (by omega)]
 by_cases c1:b0<194
 ·exact lL n b0 b1 b2 b3 (by omega) h0
 by_cases c2:b0<224
 ·exact rM n b0 b1 b2 b3 (by omega) h1
 by_cases c3:b0<240
 ·exact rK n b0 b1 b2 b3 (by omega) h1 h2
 by_cases c4:b0<245
 ·exact tt n b0 b1 b2 b3 (by omega) h1 h2 h3
 ·exact lL n b0 b1 b2 b3 (by omega) h0
def CO(s:b5k)(i:Nat):Nat:=M1 (s.size - i) (s.get! i).toNat (s.get! (i+1)).toNat (s.get! (i+2)).toNat (s.get! (i+3)).toNat
theorem kE(s:b5k)(i:Nat)(h:i<s.size):i+CO s i<=s.size:=by
 have:=b0m (s.size - i) (s.get! i).toNat (s.get! (i+1)).toNat (s.get! (i+2)).toNat (s.get! (i+3)).toNat (by omega);unfold CO;omega
theorem mS(s:b5k)(i:Nat):CO s i=if(Utf8.decode s i).1=65533/\¬(2<s.size - i/\(s.get! i).toNat=239/\(s.get! (i+1)).toNat=191/\(s.get! (i+2)).toNat=189) then 0 else(Utf8.decode s i).2:=by
 rw[Lib.decode_at];exact wH _ _ _ _ _ (UInt8.toNat_lt _) (UInt8.toNat_lt _) (UInt8.toNat_lt _) (UInt8.toNat_lt _)
def EQ(s:b5k):Nat->Nat->Int
 |0,_=> -1
 |f+1,p=>if p<s.size then(if CO s p=0 then p else EQ s f (p+CO s p)) else -1
def uO(s:b5k):Int:=EQ s s.size 0
theorem jk(s:b5k):∀(f g p:Nat),s.size - p<=f->s.size - p<=g->EQ s f p=EQ s g p
 |0,0,_,_,_=>rfl
 |0,g+1,p,h,_=>by
  simp only[EQ];rw[if_neg (by omega)]
 |f+1,0,p,_,h=>by
  simp only[EQ];rw[if_neg (by omega)]
 |f+1,g+1,p,h,h'=>by
  simp only[EQ]
  by_cases hp:p<s.size
  ·rw[if_pos hp,if_pos hp]
   by_cases h0:CO s p=0
   ·rw[if_pos h0,if_pos h0]
   ·rw[if_neg h0,if_neg h0];exact jk s f g _ (by omega) (by omega)
  ·rw[if_neg hp,if_neg hp]
def FZ(s:b5k)(p:Nat):Int:=EQ s (s.size - p) p
theorem Uc(s:b5k)(p:Nat)(h:s.size<=p):FZ s p= -1:=by
 unfold FZ;rw[show s.size - p=0 by omega];rfl
theorem pN(s:b5k)(p:Nat)(h:p<s.size)(h0:CO s p=0):FZ s p=p:=by
 unfold FZ;rw[show s.size - p=(s.size - p - 1)+1 by omega];simp only[EQ];rw[if_pos h,if_pos h0]
theorem lZ(s:b5k)(p:Nat)(h:p<s.size)(h0:CO s p≠0):FZ s p=FZ s (p+CO s p):=by
 unfold FZ;rw[show s.size - p=(s.size - p - 1)+1 by omega];simp only[EQ];rw[if_pos h,if_neg h0];exact jk s _ _ _ (by omega) (by omega)
def Eu(s:b5k):b5n:=decide (uO s<0)
theorem Og(s:b5k)(i:Nat):G5 s i=(s.get! i).toNat:=by
 unfold G5 I9
 have:s.data.toList.getD i 0=s.get! i:=by
  rw[List.getD_eq_getElem?_getD];show _=s.data[i]!;rw[getElem!_def,Array.getElem?_toList];cases s.data[i]? <;>rfl
 rw[this];omega
def CD(s:b5k)(i lo hi:Nat):b5n:=decide (i<s.size/\lo<=G5 s i/\G5 s i<=hi)
theorem fI(s:b5k)(i lo hi:Nat):Jx s i lo hi (CD s i lo hi):=by
 have hb:=Cp s i;have hn:((i:Int)).toNat=i:=by omega
 refine zA _ _ _ _ _ ⟨λb=>b=decide (i<s.size/\lo<=G5 s i),λb hR=>⟨λh=>?_,λh=>?_⟩,λh=>?_,λh=>?_⟩
 ·rw[h]at hR;have h2:=of_decide_eq_true hR.symm;refine⟨⟨by omega,by omega⟩,?_⟩;rw[hn,hb.1];unfold CD
  congr 1
  simp only[eq_iff_iff];omega
 ·rw[h]at hR;have h2:=of_decide_eq_false hR.symm;exact decide_eq_false (by omega)
 ·simp only[b45]at h;refine⟨⟨by omega,h⟩,?_⟩;rw[hn,hb.1]
  congr 1
  simp only[eq_iff_iff];omega
 ·simp only[b46]at h;exact(decide_eq_false (by omega)).symm
def AR(s:b5k)(i:Nat):Nat->b5n
 |0=>true
 |n+1=>CD s i 128 191&&AR s (i+1) n
theorem b2d(s:b5k)(hz:s.size<=140737488351232)(i:Nat)(hi:i<=140737488351300):∀m j:Nat,j<=4->j+m<=4->Vg j s i ((j+m:Nat):Int) (AR s (i+j) m):=by
 intro m
 induction m with
 |zero=>
  intro j h1 h2;exact nR _ _ _ _ _ ⟨λh=>by simp at h,λ_=>rfl⟩
 |succ m ih=>
  intro j h1 h2;refine nR _ _ _ _ _ ⟨λ_=>?_,λh=>by simp at h;omega⟩;have e:wI ((i:Int)+j)=((i+j:Nat):Int):=by rw[wI,C7 (by omega)];omega
  rw[e];refine⟨_,fI s (i+j) 128 191,λh=>?_,λh=>?_⟩
  ·have:CD s (i+j) 128 191=false:=by simpa using h
   simp[AR,this]
  ·have:CD s (i+j) 128 191:=by simpa using h
   rw[wI,C7 (by omega)];have h3:=ih (j+1) (by omega) (by omega);rw[AR,this,Bool.true_and];have e2:i+j+1=i+(j+1):=by omega
   have e3:j+(m+1)=j+1+m:=by omega
   rw[e2,e3];exact h3
theorem a5b(s:b5k)(hz:s.size<=140737488351232)(i n:Nat)(hi:i<=140737488351300)(hn:n<=4):FT s i n (AR s i n):=by
 have:=b2d s hz i hi n 0 (by omega) (by omega);simp only[Nat.zero_add,Nat.add_zero]at this;exact a48 _ _ _ _ this
def XC(s:b5k)(i:Nat):Nat:=
 if G5 s i<128 then 1
 else if(decide (194<=G5 s i/\G5 s i<=223)&&AR s (i+1) 1)=true then 2
 else if(decide (G5 s i=224)&&CD s (i+1) 160 191&&AR s (i+2) 1)=true then 3
 else if(decide (G5 s i=237)&&CD s (i+1) 128 159&&AR s (i+2) 1)=true then 3
 else if(decide (225<=G5 s i/\G5 s i<=239/\G5 s i≠237)&&AR s (i+1) 2)=true then 3
 else if(decide (G5 s i=240)&&CD s (i+1) 144 191&&AR s (i+2) 2)=true then 4
 else if(decide (241<=G5 s i/\G5 s i<=243)&&AR s (i+1) 3)=true then 4
 else if(decide (G5 s i=244)&&CD s (i+1) 128 143&&AR s (i+2) 2)=true then 4
 else 0
theorem te(s:b5k)(hz:s.size<=140737488351232)(i:Nat)(hi:i<s.size):cp s i (XC s i):=by
 have hb:=Cp s i;have hn:((i:Int)).toNat=i:=by omega
 have w1:wI ((i:Int)+1)=((i+1:Nat):Int):=by rw[wI,C7 (by omega)];omega
 have w2:wI ((i:Int)+2)=((i+2:Nat):Int):=by rw[wI,C7 (by omega)];omega
 have tl:=λk n (hk:k<=4) (hn:n<=4)=>a5b s hz (i+k) n (by omega) hn
 have bt:=λk lo hi=>fI s (i+k) lo hi
 refine rp _ _ _ ?_;rw[hn,hb.1,w1,w2];unfold XC;generalize hx:G5 s i=x at*;refine⟨⟨by omega,by omega⟩,λh=>?_,λh=>?_⟩
 ·rw[if_pos (by simp only[b45]at h;omega)];rfl
 rw[if_neg (by simp only[b46]at h;omega)];refine⟨λb=>b=(decide (194<=x/\x<=223)&&AR s (i+1) 1),λb hR=>?_,λh=>⟨_,tl 1 1 (by omega) (by omega),?_⟩,λh=>?_⟩
 rotate_left
 ·have:(194<=x/\x<=223):=by simp only[b47,b45]at h;omega
  simp[this]
 ·have:¬(194<=x/\x<=223):=by simp only[Bool.and_eq_false_iff,b46]at h;omega
  simp[this]
 subst hR;refine⟨λh=>by rw[if_pos h];rfl,λh=>?_⟩;rw[if_neg (by rw[h];decide)];refine⟨λb=>b=(decide (x=224)&&CD s (i+1) 160 191),λb hR=>?_,λh=>⟨_,bt 1 160 191,?_⟩,λh=>?_⟩
 rotate_left
 ·have:x=224:=by simp only[beq_iff_eq]at h;omega
  simp[this]
 ·have:¬x=224:=by simp only[beq_eq_false_iff_ne]at h;omega
  simp[this]
 refine⟨λb2=>b2=(b&&AR s (i+2) 1),λb2 hR2=>?_,λh=>⟨_,tl 2 1 (by omega) (by omega),by rw[h];rfl⟩,λh=>by rw[h];rfl⟩;subst hR2;subst hR;refine⟨λh=>by rw[if_pos h];rfl,λh=>?_⟩;rw[if_neg (by rw[h];decide)];refine⟨λb=>b=(decide (x=237)&&CD s (i+1) 128 159),λb hR=>?_,λh=>⟨_,bt 1 128 159,?_⟩,λh=>?_⟩
 rotate_left
 ·have:x=237:=by simp only[beq_iff_eq]at h;omega
  simp[this]
 ·have:¬x=237:=by simp only[beq_eq_false_iff_ne]at h;omega
  simp[this]
 refine⟨λb2=>b2=(b&&AR s (i+2) 1),λb2 hR2=>?_,λh=>⟨_,tl 2 1 (by omega) (by omega),by rw[h];rfl⟩,λh=>by rw[h];rfl⟩;subst hR2;subst hR;refine⟨λh=>by rw[if_pos h];rfl,λh=>?_⟩;rw[if_neg (by rw[h];decide)];refine⟨λb=>b=(decide (225<=x/\x<=239/\x≠237)&&AR s (i+1) 2),λb hR=>?_,λh=>⟨_,tl 1 2 (by omega) (by omega),?_⟩,λh=>?_⟩
 rotate_left
 ·have:(225<=x/\x<=239/\x≠237):=by simp only[b47,b45,bne_iff_ne]at h;omega
  simp[this]
 ·have:¬(225<=x/\x<=239/\x≠237):=by simp only[Bool.and_eq_false_iff,b46,bne_eq_false_iff_eq]at h;omega
  have h3:decide (225<=x/\x<=239/\x≠237)=false:=decide_eq_false this;rw[h3];rfl
 subst hR;refine⟨λh=>by rw[if_pos h];rfl,λh=>?_⟩;rw[if_neg (by rw[h];decide)];refine⟨λb=>b=(decide (x=240)&&CD s (i+1) 144 191),λb hR=>?_,λh=>⟨_,bt 1 144 191,?_⟩,λh=>?_⟩
 rotate_left
 ·have:x=240:=by simp only[beq_iff_eq]at h;omega
  simp[this]
 ·have:¬x=240:=by simp only[beq_eq_false_iff_ne]at h;omega
  simp[this]
 refine⟨λb2=>b2=(b&&AR s (i+2) 2),λb2 hR2=>?_,λh=>⟨_,tl 2 2 (by omega) (by omega),by rw[h];rfl⟩,λh=>by rw[h];rfl⟩;subst hR2;subst hR;refine⟨λh=>by rw[if_pos h];rfl,λh=>?_⟩;rw[if_neg (by rw[h];decide)];refine⟨λb=>b=(decide (241<=x/\x<=243)&&AR s (i+1) 3),λb hR=>?_,λh=>⟨_,tl 1 3 (by omega) (by omega),?_⟩,λh=>?_⟩
 rotate_left
 ·have:(241<=x/\x<=243):=by simp only[b47,b45]at h;omega
  simp[this]
 ·have:¬(241<=x/\x<=243):=by simp only[Bool.and_eq_false_iff,b46]at h;omega
  simp[this]
 subst hR;refine⟨λh=>by rw[if_pos h];rfl,λh=>?_⟩;rw[if_neg (by rw[h];decide)];refine⟨λb=>b=(decide (x=244)&&CD s (i+1) 128 143),λb hR=>?_,λh=>⟨_,bt 1 128 143,?_⟩,λh=>?_⟩
 rotate_left
 ·have:x=244:=by simp only[beq_iff_eq]at h;omega
  simp[this]
 ·have:¬x=244:=by simp only[beq_eq_false_iff_ne]at h;omega
  simp[this]
 refine⟨λh=>⟨_,tl 2 2 (by omega) (by omega),λh2=>?_,λh2=>?_⟩,λh=>?_⟩
 ·rw[if_pos (by rw[<-hR,h,h2];rfl)];rfl
 ·rw[if_neg (by rw[<-hR,h,h2];decide)];rfl
 ·rw[if_neg (by rw[<-hR,h];simp)];rfl
theorem jJ(s:b5k)(i:Nat):XC s i=CO s i:=by
 unfold XC CO M1;simp only[<-Og,CD,AR,b47,b45,Bool.and_true];have e1:i+1+1=i+2:=rfl;have e2:i+1+1+1=i+3:=rfl;have e3:i+2+1=i+3:=rfl;simp only[e1,e2,e3];generalize G5 s i=a;generalize G5 s (i+1)=b;generalize G5 s (i+2)=c;generalize G5 s (i+3)=d;generalize s.size=n
 by_cases h0:a<128
 ·rw[if_pos h0,if_pos h0]
 rw[if_neg h0,if_neg h0]
 have key:∀(p q:Prop) [Decidable p] [Decidable q] (x y z:Nat),(p↔q)->y=z->(if p then x else y)=(if q then x else z):=by
  intro p q _ _ x y z h1 h2;subst h2
  by_cases hp:p
  ·rw[if_pos hp,if_pos (h1.1 hp)]
  ·rw[if_neg hp,if_neg (λh=>hp (h1.2 h))]
 refine key _ _ _ _ _ (by omega) (key _ _ _ _ _ (by omega) (key _ _ _ _ _ (by omega) (key _ _ _ _ _ (by omega) (key _ _ _ _ _ (by omega) (key _ _ _ _ _ (by omega) (key _ _ _ _ _ (by omega) rfl))))))
theorem rj(s:b5k)(hz:s.size<=140737488351232):∀n p:Nat,s.size - p<=n->p<=s.size->TB p s (FZ s p):=by
 intro n
 induction n with
 |zero=>
  intro p h1 h2;refine nH _ _ _ ⟨λh=>by simp only[b45]at h;omega,λh=>Uc s p (by omega)⟩
 |succ n ih=>
  intro p h1 h2;refine nH _ _ _ ⟨λh=>?_,λh=>?_⟩
  ·simp only[b45]at h;have hp:p<s.size:=by omega
   have hle:=kE s p hp;refine⟨_,te s hz p hp,λh2=>?_,λh2=>?_⟩
   ·simp only[beq_iff_eq]at h2;exact pN s p hp (by rw[<-jJ];omega)
   ·simp only[beq_eq_false_iff_ne]at h2;rw[jJ]at h2 ⊢;have h3:CO s p≠0:=by omega
    rw[lZ s p hp h3,wI,C7 (by omega)];exact ih _ (by omega) hle
  ·simp only[b46]at h;exact Uc s p (by omega)
theorem bQ(s:b5k)(hz:s.size<=140737488351232):Nu s (Eu s):=
 r5 _ _ ⟨_,a7e _ _ (rj s hz s.size 0 (by omega) (by omega)),rfl⟩
def JD(s:b5k)(i:Nat):b5n:=decide (2<s.size - i/\G5 s i=239/\G5 s (i+1)=191/\G5 s (i+2)=189)
theorem zw{a b:b5k}(h:a.size=b.size)(hb:∀i,i<a.size->G5 a i=G5 b i):a=b:=by
 apply ByteArray.ext;refine Array.ext h λi h1 h2=>?_
 have:=hb i h1;rw[Og,Og]at this;have e1:a.get! i=a.data[i]:=by show a.data[i]! =_;exact getElem!_pos a.data i h1
 have e2:b.get! i=b.data[i]:=by show b.data[i]! =_;exact getElem!_pos b.data i h2
 rw[e1,e2]at this;exact UInt8.toNat_inj.1 this
theorem a2v(s:b5k)(i:Nat)(hi:i<=s.size)(hz:s.size<=140737488351232):cz (s.extract i s.size) ⟨#[239,191,189]⟩ (JD s i):=by
 refine a9r _ _ _ ⟨_,a38 _ _ _ ⟨λh=>⟨⟨by omega,by omega,by simpa using h⟩,?_⟩,λh=>?_⟩,rfl⟩
 ·have hs:(s.extract i s.size).size=s.size - i:=EB s (Nat.le_refl _);simp only[b45,hs]at h;have h3:(⟨#[239,191,189]⟩:b5k).size=3:=rfl;rw[h3]at h ⊢;show JD s i=decide ((s.extract i s.size).extract 0 3=_);unfold JD
  congr 1
  simp only[eq_iff_iff];have e0:=IY (s.extract i s.size) (l:=0) (u:=3) (i:=0) (by omega);have e1:=IY (s.extract i s.size) (l:=0) (u:=3) (i:=1) (by omega);have e2:=IY (s.extract i s.size) (l:=0) (u:=3) (i:=2) (by omega);rw[IY s (by omega)]at e0 e1 e2;constructor
  ·rintro⟨k1,k2,k3,k4⟩;refine zw (by rw[EB _ (by omega)];rfl) λj hj=>?_
   rw[EB _ (by omega)]at hj;have:j=0\/j=1\/j=2:=by omega
   rcases this with rfl|rfl|rfl
   ·rw[e0];exact k2
   ·rw[e1];exact k3
   ·rw[e2];exact k4
  ·intro he;rw[he]at e0 e1 e2;refine⟨by omega,e0.symm,e1.symm,e2.symm⟩
 ·have hs:(s.extract i s.size).size=s.size - i:=EB s (Nat.le_refl _);simp only[b46,hs]at h;have h3:(⟨#[239,191,189]⟩:b5k).size=3:=rfl;rw[h3]at h;exact decide_eq_false (by omega)
theorem b3f(s:b5k)(i:Nat)(hi:i<=s.size)(hz:s.size<=140737488351232)(c:Int):eP s i c (decide (c=65533)&& !JD s i):=by
 refine yy _ _ _ _ ⟨λh=>⟨⟨by omega,by omega,by omega⟩,?_⟩,λh=>?_⟩
 ·simp only[beq_iff_eq]at h;have e:((s.size:Nat):Int).toNat=s.size:=by omega
  have e2:((i:Nat):Int).toNat=i:=by omega
  rw[e,e2];exact⟨_,a2v s i hi hz,by simp[h]⟩
 ·simp only[beq_eq_false_iff_ne]at h;simp[h]
theorem a21(s:b5k)(p:Nat):1<=(Utf8.decode s p).2:=by
 rw[Lib.decode_at];unfold Lib.decodeN
 (repeat' split)<;>simp
theorem a77(s:b5k)(hz:s.size<=140737488351232):∀n p:Nat,s.size - p<=n->p<=s.size->Tn s p (FZ s p):=by
 intro n
 induction n with
 |zero=>
  intro p h1 h2;exact pL _ _ _ ⟨λh=>by omega,λh=>Uc s p (by omega)⟩
 |succ n ih=>
  intro p h1 h2;refine pL _ _ _ ⟨λhp=>⟨_,b3f s p h2 hz _,λh=>?_,λh=>?_⟩,λh=>Uc s p (by omega)⟩
  ·have hd:=mS s p;simp only[<-Og]at hd;rw[b47]at h;have k1:=of_decide_eq_true h.1
   have k2:JD s p=false:=by cases hf:JD s p with
    |true=>rw[hf]at h;exact absurd h.2 (by decide)
    |false=>rfl
   have k3:=of_decide_eq_false k2;rw[if_pos ⟨by omega,k3⟩]at hd;exact pN s p hp hd
  ·have hd:=mS s p;simp only[<-Og]at hd;have hle:=kE s p hp;rw[if_neg]at hd
   ·have h3:CO s p≠0:=by
     have:=a21 s p;omega
    rw[lZ s p hp h3,<-hd];exact ih _ (by omega) hle
   ·intro hc;have k2:JD s p=false:=decide_eq_false hc.2;have k1:decide (((Utf8.decode s p).1:Int)=65533):=decide_eq_true (by omega);rw[k1,k2]at h;cases h
theorem fM(s:b5k)(hz:s.size<=140737488351232):UD s (Eu s):=
 tS _ _ ⟨_,b08 _ _ (a77 s hz s.size 0 (by omega) (by omega)),rfl⟩
structure GB(v:A0):Prop where
 l:v.B8.length<=140737488351232
 p:v.Pairs.length<=140737488351232
 s:v.Slots.length<=140737488351232
 r:v.C4.length<=140737488351232
 t:v.Text.size<=140737488351232
 b0:0<=v.Bits
 b1:v.Bits<18446744073709551616
def DC(v:A0):b5n:=decide (v.B8.length=0/\v.Pairs.length=0/\v.Slots.length=0/\v.C4.length=0)
def BY(k bits:Int):b5n:=if k=1 then decide (bits<=1) else if k=2 then decide (-2147483648<=wI bits/\wI bits<=2147483647) else if k=9 then decide (bits<=2147483647) else if k=4 then decide (bits<=4294967295) else true
def FH(k:Int)(v:A0):b5n:=
 decide (1<=k/\k<=9/\v.Kind=k)&&DC v&&
  (if k=7\/k=8 then decide (v.Bits=0/\v.Text.size<=4096)&&(!decide (k=7)||Eu v.Text) else decide (v.Text=⟨#[]⟩)&&BY k v.Bits)
theorem a2h(k bits:Int):be k bits (BY k bits):=by
 refine vT _ _ _ ⟨λh=>?_,λh=>⟨λh2=>?_,λh2=>⟨λh3=>?_,λh3=>⟨λh4=>?_,λh4=>?_⟩⟩⟩⟩
 all_goals simp only[beq_iff_eq,beq_eq_false_iff_ne]at*
 ·rw[BY,if_pos h]
 ·rw[BY,if_neg h,if_pos h2,Bool.decide_and]
 ·rw[BY,if_neg h,if_neg h2,if_pos h3]
 ·rw[BY,if_neg h,if_neg h2,if_neg h3,if_pos h4]
 ·rw[BY,if_neg h,if_neg h2,if_neg h3,if_neg h4]
def Dz(v:A0):b5n:=DC v&&(if v.Kind=7\/v.Kind=8 then decide (v.Bits=0) else decide (v.Text=⟨#[]⟩))
theorem qG(v:A0)(hv:GB v):VK v (Dz v):=by
 have h1:=hv.l;have h2:=hv.p;have h3:=hv.s;have h4:=hv.r;have e1:wI ((v.B8.length:Int)+v.Pairs.length)=(v.B8.length:Int)+v.Pairs.length:=C7 (by omega);have e2:wI ((v.B8.length:Int)+v.Pairs.length+v.Slots.length)=(v.B8.length:Int)+v.Pairs.length+v.Slots.length:=C7 (by omega);have e3:wI ((v.B8.length:Int)+v.Pairs.length+v.Slots.length+v.C4.length)=(v.B8.length:Int)+v.Pairs.length+v.Slots.length+v.C4.length:=C7 (by omega);refine a9x _ _ ?_;rw[e1,e2,e3];refine⟨λh=>?_,λh=>⟨_,fT _ _ rfl,λh5=>?_,λh5=>?_⟩⟩
 ·simp only[b45]at h;have:DC v=false:=decide_eq_false (by omega);rw[Dz,this];rfl
 all_goals
  simp only[b46]at h;have:DC v:=decide_eq_true (by omega);rw[Dz,this,Bool.true_and]
 ·rw[if_pos (by simpa using h5)];rfl
 ·rw[if_neg (by simpa using h5)]
theorem tJ(k:Int)(v:A0)(hv:GB v):dI k v (FH k v):=by
 refine a2j _ _ _ ⟨_,PR _ _ rfl,λb=>b= !(decide (1<=k/\k<=9/\v.Kind=k)&&Dz v),λb hR=>?_,λh=>?_,λh=>⟨_,qG v hv,?_⟩⟩
 rotate_left
 ·have:decide (1<=k/\k<=9/\v.Kind=k)=false:=by
   refine decide_eq_false λhn=>?_
   simp[hn.1,hn.2.1,hn.2.2]at h
  rw[this];rfl
 ·have:decide (1<=k/\k<=9/\v.Kind=k):=by
   refine decide_eq_true ?_;simp at h;omega
  rw[this];rfl
 subst hR;refine⟨λb=>b= !(decide (1<=k/\k<=9/\v.Kind=k)&&Dz v&&BY k v.Bits),λb hR=>?_,λh=>?_,λh=>⟨_,a2h k v.Bits,?_⟩⟩
 rotate_left
 ·have:(decide (1<=k/\k<=9/\v.Kind=k)&&Dz v)=false:=by rw[<-b5f];exact h
  rw[this];rfl
 ·have:(decide (1<=k/\k<=9/\v.Kind=k)&&Dz v):=by rw[<-Bool.not_eq_false'];exact h
  rw[this];rfl
 subst hR;have main:∀A B C D:b5n,True:=λ_ _ _ _=>trivial
 by_cases hk:1<=k/\k<=9/\v.Kind=k
 ·have hkd:decide (1<=k/\k<=9/\v.Kind=k):=decide_eq_true hk;unfold FH Dz;rw[hkd,hk.2.2,Bool.true_and,Bool.true_and];cases hl:DC v with
  |false=>simp[ID,IF]
  |true=>
   simp only[Bool.true_and]
   by_cases h78:k=7\/k=8
   ·rw[if_pos h78,if_pos h78];have hw:BY k v.Bits:=by rw[BY,if_neg (by omega),if_neg (by omega),if_neg (by omega),if_neg (by omega)]
    rw[hw,Bool.and_true];refine⟨λh=>?_,λh=>⟨λh2=>?_,λh2=>⟨_,fM _ hv.t,?_⟩⟩⟩
    ·have:¬(v.Bits=0/\v.Text.size<=4096):=by
      simp only[Bool.or_eq_true,b5f,b46,b45]at h;omega
     rw[decide_eq_false this];rfl
    ·have:v.Bits=0/\v.Text.size<=4096:=by
      simp only[Bool.or_eq_false_iff,Bool.not_eq_false',b46,b45]at h;omega
     rw[decide_eq_true this];have:¬k=7:=by simpa using h2
     rw[decide_eq_false this];rfl
    ·have:v.Bits=0/\v.Text.size<=4096:=by
      simp only[Bool.or_eq_false_iff,Bool.not_eq_false',b46,b45]at h;omega
     rw[decide_eq_true this];have:k=7:=by simpa using h2
     rw[decide_eq_true this];simp
   ·rw[if_neg h78,if_neg h78];refine⟨λh=>?_,λh=>⟨λh2=>?_,λh2=>?_⟩⟩
    ·simp only[Bool.or_eq_true,b5f,b45]at h;rcases h with h|h
     ·rw[h]
     ·have:¬v.Text=⟨#[]⟩:=by
       intro he;rw[he]at h;have:((⟨#[]⟩:b5k).size:Int)=0:=rfl;omega
      rw[decide_eq_false this];rfl
    ·simp only[Bool.or_eq_false_iff,Bool.not_eq_false']at h;rw[h.1]
    ·have:k=7:=by simpa using h2
     omega
 ·have hkd:decide (1<=k/\k<=9/\v.Kind=k)=false:=decide_eq_false hk;unfold FH;rw[hkd];simp[ID,IF]
theorem jV(v:A0):RG v (DC v):=by
 refine yD _ _ ?_;unfold DC;rw[Bool.eq_iff_iff];simp only[b45,b47,beq_iff_eq];omega
theorem oH(k:Int)(v:A0)(hv:GB v):WR k v (FH k v):=by
 refine f7 _ _ _ ⟨_,Wd _ _ rfl,λb=>b= !(decide (1<=k/\k<=9/\v.Kind=k)&&DC v),λb hR=>⟨λh=>?_,λh=>⟨_,lO _ _ rfl,λh2=>?_,λh2=>?_⟩⟩,λh=>?_,λh=>⟨_,jV v,?_⟩⟩
 ·have:(decide (1<=k/\k<=9/\v.Kind=k)&&DC v)=false:=by rw[<-b5f,<-hR];exact h
  unfold FH;rw[this];rfl
 ·have hb:(decide (1<=k/\k<=9/\v.Kind=k)&&DC v):=by rw[<-Bool.not_eq_false',<-hR];exact h
  have h78:k=7\/k=8:=by simpa using h2
  unfold FH;rw[hb,Bool.true_and,if_pos h78];refine⟨λc=>c=(decide (v.Bits=0/\v.Text.size<=4096)&&(!decide (k=7)||Eu v.Text)),λc hc=>hc.symm,λh3=>?_,λh3=>?_⟩
  ·have h4:v.Bits=0/\v.Text.size<=4096:=by
    simp only[b47,beq_iff_eq,b45]at h3;omega
   rw[decide_eq_true h4,Bool.true_and];refine⟨λc=>c=(!decide (k=7)||Eu v.Text),λc hc=>hc,λh5=>?_,λh5=>⟨_,bQ _ hv.t,?_⟩⟩
   ·have:¬k=7:=by simp only[beq_iff_eq]at h5;omega
    rw[decide_eq_false this];rfl
   ·have:k=7:=by simp only[beq_eq_false_iff_ne]at h5;omega
    rw[decide_eq_true this];rfl
  ·have h4:¬(v.Bits=0/\v.Text.size<=4096):=by
    simp only[Bool.and_eq_false_iff,beq_eq_false_iff_ne,b46]at h3;omega
   rw[decide_eq_false h4];rfl
 ·have hb:(decide (1<=k/\k<=9/\v.Kind=k)&&DC v):=by rw[<-Bool.not_eq_false',<-hR];exact h
  have h78:¬(k=7\/k=8):=by simpa using h2
  unfold FH;rw[hb,Bool.true_and,if_neg h78];refine⟨λh3=>?_,λh3=>?_⟩
  ·have:decide (v.Text=⟨#[]⟩)=false:=by rw[<-b5f];exact h3
   rw[this];rfl
  ·have:decide (v.Text=⟨#[]⟩):=by rw[<-Bool.not_eq_false'];exact h3
   rw[this,Bool.true_and];refine⟨λh4=>?_,λh4=>⟨λh5=>?_,λh5=>⟨λh6=>?_,λh6=>⟨λh7=>?_,λh7=>?_⟩⟩⟩⟩
   all_goals simp only[beq_iff_eq,beq_eq_false_iff_ne]at*
   ·rw[BY,if_pos h4]
   ·rw[BY,if_neg h4,if_pos h5,Bool.decide_and]
   ·rw[BY,if_neg h4,if_neg h5,if_neg (by omega),if_pos h6]
    congr 1;simp only[eq_iff_iff];omega
   ·rw[BY,if_neg h4,if_neg h5,if_pos h7]
    congr 1;simp only[eq_iff_iff];omega
   ·rw[BY,if_neg h4,if_neg h5,if_neg h7,if_neg h6]
 ·have:decide (1<=k/\k<=9/\v.Kind=k)=false:=by
   refine decide_eq_false λhn=>?_
   simp[hn.1,hn.2.1,hn.2.2]at h
  rw[this];rfl
 ·have:decide (1<=k/\k<=9/\v.Kind=k):=by
   refine decide_eq_true ?_;simp at h;omega
  rw[this];rfl
def Fl(v:A0):b5n:=isS v.Kind&&(v.Bits==0)&&decide (v.Text=(⟨#[]⟩:b5k))&&DC v
def Dj(v:A0):b5n:=if v.Kind=11 then v.B8.isEmpty else if v.Kind=12 then v.Pairs.isEmpty else Fl v
theorem a7o(v:A0):YF v (Fl v):=by
 refine b0c _ _ ⟨_,Wd _ _ rfl,λh=>⟨_,jV v,?_⟩,λh=>?_⟩
 ·unfold Fl isS;rw[h,Bool.true_and]
 ·unfold Fl isS;rw[h,Bool.false_and]
theorem b14(v:A0):ca v (Dj v):=by
 refine a7q _ _ ⟨λh=>?_,λh=>⟨λh2=>?_,λh2=>⟨_,a7o v,?_⟩⟩⟩
 all_goals simp only[beq_iff_eq,beq_eq_false_iff_ne]at*
 ·unfold Dj;rw[if_pos h];cases v.B8<;>simp
  omega
 ·unfold Dj;rw[if_neg h,if_pos h2];cases v.Pairs<;>simp
  omega
 ·unfold Dj;rw[if_neg h,if_neg h2]
theorem a35(v:A0)(hv:GB v):bT v (Fl v):=by
 have key:Fl v=(((isS v.Kind&&Dz v)&&(v.Bits==0))&&decide (v.Text=(⟨#[]⟩:b5k))):=by
  unfold Fl Dz
  by_cases h1:v.Bits=0
  ·by_cases h2:v.Text=(⟨#[]⟩:b5k)
   ·simp[h1,h2]
   ·simp[h2]
  ·have hb:(v.Bits==0)=false:=by simpa using h1
   rw[hb];simp
 refine a4d _ _ ⟨_,PR _ _ rfl,λz=>z=(isS v.Kind&&Dz v),λz hz=>?_,λh=>⟨_,qG v hv,?_⟩,λh=>?_⟩
 ·rw[hz];exact key
 ·unfold isS;rw[h,Bool.true_and]
 ·unfold isS;rw[h,Bool.false_and]
theorem nh(v:A0)(hv:GB v):VJ v (Dj v):=by
 have ns:∀k:Int,k=11\/k=12->isS k=false:=by
  intro k hk;unfold isS;rcases hk with h|h<;>subst h<;>decide
 refine b24 _ _ ⟨λh=>?_,λh=>⟨_,a35 v hv,?_⟩⟩
 ·simp only[Bool.or_eq_true,b47,beq_iff_eq]at h;unfold Dj;rcases h with⟨h1,h2⟩|⟨h1,h2⟩
  ·rw[if_pos h1,List.isEmpty_iff,<-List.length_eq_zero_iff];omega
  ·rw[if_neg (by omega),if_pos h1,List.isEmpty_iff,<-List.length_eq_zero_iff];omega
 ·simp only[Bool.or_eq_false_iff,Bool.and_eq_false_iff,beq_eq_false_iff_ne]at h;unfold Dj
  by_cases h1:v.Kind=11
  ·rw[if_pos h1]
   have:v.B8.isEmpty=false:=by
    cases hl:v.B8 with
    |nil=>rw[hl]at h;simp at h;omega
    |cons x l=>rfl
   rw[this,Fl,ns _ (.inl h1)];rfl
  ·by_cases h2:v.Kind=12
   ·rw[if_neg h1,if_pos h2]
    have:v.Pairs.isEmpty=false:=by
     cases hl:v.Pairs with
     |nil=>rw[hl]at h;simp at h;omega
     |cons x l=>rfl
    rw[this,Fl,ns _ (.inr h2)];rfl
   ·rw[if_neg h1,if_neg h2]
section
variable {l:b5l A6}(hl:l.length*40<=140737488355328)
 include hl
theorem xD(i:Nat)(hi:i<l.length)(acc:b5l A6)(hacc:acc.length<=i):∀(k:Nat),k<=acc.length->(∀y∈acc.drop k,l[i].Num<y.Num)->
  ∃k',k'<=acc.length/\(∀y∈acc.drop k',l[i].Num<y.Num)/\(k'=0\/∃y,acc[k' - 1]? =some y/\y.Num<=l[i].Num)/\∀r,Az ((i+1:Nat):Int) (acc.take k'++l[i]::acc.drop k') l r->Vv k i acc l r:=by
 have e1:wI ((i:Int)+1)=((i+1:Nat):Int):=by rw[wI,C7 (by omega)];omega
 have endc:∀k:Nat,k<=acc.length->∀r,Az ((i+1:Nat):Int) (acc.take k++l[i]::acc.drop k) l r->∃y21,l[(i:Int).toNat]? =some y21/\0<=(i:Int)/\((0<=(k:Int)/\(k:Int)<=(acc.length:Int)/\(acc.length:Int)<=(acc.length:Int))/\((((acc.take (acc.length:Int).toNat).drop (k:Int).toNat)=[]->([y21]:b5l A6).length*40<=140737488355328/\((0<=(0:Int)/\(0:Int)<=(k:Int)/\(k:Int)<=(acc.length:Int))/\((((acc.take (k:Int).toNat).drop (0:Int).toNat)=[]->([]:b5l A6).length*40<=140737488355328/\((([]:b5l A6).length+([y21]:b5l A6).length)*40<=140737488355328/\([y21]:b5l A6)≠[]/\(Az (wI ((i:Int)+1)) (([]:b5l A6)++([y21]:b5l A6)) l r)))/\(((acc.take (k:Int).toNat).drop (0:Int).toNat)≠[]->(([]:b5l A6).length+((acc.take (k:Int).toNat).drop (0:Int).toNat).length)*40<=140737488355328/\((acc.take (k:Int).toNat).drop (0:Int).toNat)≠[]/\(((([]:b5l A6)++((acc.take (k:Int).toNat).drop (0:Int).toNat)).length+([y21]:b5l A6).length)*40<=140737488355328/\(Az (wI ((i:Int)+1)) ((([]:b5l A6)++((acc.take (k:Int).toNat).drop (0:Int).toNat))++([y21]:b5l A6)) l r))))))/\(((acc.take (acc.length:Int).toNat).drop (k:Int).toNat)≠[]->([y21].length+((acc.take (acc.length:Int).toNat).drop (k:Int).toNat).length)*40<=140737488355328/\((acc.take (acc.length:Int).toNat).drop (k:Int).toNat)≠[]/\((0<=(0:Int)/\(0:Int)<=(k:Int)/\(k:Int)<=(acc.length:Int))/\((((acc.take (k:Int).toNat).drop (0:Int).toNat)=[]->([]:b5l A6).length*40<=140737488355328/\((([]:b5l A6).length+([y21]++((acc.take (acc.length:Int).toNat).drop (k:Int).toNat)).length)*40<=140737488355328/\([y21]++((acc.take (acc.length:Int).toNat).drop (k:Int).toNat))≠[]/\(Az (wI ((i:Int)+1)) (([]:b5l A6)++([y21]++((acc.take (acc.length:Int).toNat).drop (k:Int).toNat))) l r)))/\(((acc.take (k:Int).toNat).drop (0:Int).toNat)≠[]->(([]:b5l A6).length+((acc.take (k:Int).toNat).drop (0:Int).toNat).length)*40<=140737488355328/\((acc.take (k:Int).toNat).drop (0:Int).toNat)≠[]/\(((([]:b5l A6)++((acc.take (k:Int).toNat).drop (0:Int).toNat)).length+([y21]++((acc.take (acc.length:Int).toNat).drop (k:Int).toNat)).length)*40<=140737488355328/\(Az (wI ((i:Int)+1)) ((([]:b5l A6)++((acc.take (k:Int).toNat).drop (0:Int).toNat))++([y21]++((acc.take (acc.length:Int).toNat).drop (k:Int).toNat))) l r)))))))):=by
  intro k hk r hr;have d0:(0:Int)<=0/\(0:Int)<=(k:Int)/\(k:Int)<=(acc.length:Int):=⟨by omega,by omega,by omega⟩;refine⟨l[i],by simp,by omega,⟨by omega,by omega,by omega⟩,λhA=>⟨by simp,d0,λhB=>⟨by simp,by simp,by simp,?_⟩,λhB=>⟨by simp;omega,hB,by simp;omega,?_⟩⟩,λhA=>⟨by simp;omega,hA,d0,λhB=>⟨by simp,by simp;omega,by simp,?_⟩,λhB=>⟨by simp;omega,hB,by simp;omega,?_⟩⟩⟩
  all_goals rw[e1]
  all_goals simp only[Int.toNat_natCast,List.take_length,Int.toNat_zero,List.drop_zero]at hA hB ⊢
  ·rw[hA,hB]at hr;simpa using hr
  ·rw[hA]at hr;simpa using hr
  ·rw[hB]at hr;simpa using hr
  ·simpa using hr
 intro k
 induction k with
 |zero=>
  intro hk hd;exact⟨0,hk,hd,.inl rfl,λr hr=>aq _ _ _ _ _ ⟨λh=>by simp at h,λ_=>endc 0 hk r hr⟩⟩
 |succ k ih=>
  intro hk hd;have e2:wI (((k+1:Nat):Int) - 1)=(k:Int):=by rw[wI,C7 (by omega)];omega
  have hlt:k<acc.length:=by omega
  have da:acc.drop k=acc[k]::acc.drop (k+1):=b5c hlt
  by_cases e:l[i].Num<acc[k].Num
  ·obtain⟨k',q1,q2,q3,q4⟩:=ih (by omega) (by rw[da];intro y hy;exact(List.mem_cons.1 hy).elim (λh=>by rw[h];exact e) (λh=>hd y h));refine⟨k',q1,q2,q3,λr hr=>aq _ _ _ _ _ ⟨λ_=>?_,λh=>by simp at h⟩⟩;rw[e2];exact⟨acc[k],by simp,by omega,l[i],by simp,by omega,λ_=>q4 r hr,λh=>by rw[decide_eq_true e]at h;cases h⟩
  ·refine⟨k+1,hk,hd,.inr ⟨acc[k],by simp,by omega⟩,λr hr=>aq _ _ _ _ _ ⟨λ_=>?_,λh=>by simp at h⟩⟩;rw[e2];exact⟨acc[k],by simp,by omega,l[i],by simp,by omega,λh=>(by rw[decide_eq_false e]at h;cases h),λ_=>endc (k+1) hk r hr⟩
theorem a6q:∀(d i:Nat) (T:b5l (A6 × Nat)),l.length - i<=d->i<=l.length->J8 kr T->T.Perm ((P5 l).take i)->∃T',J8 kr T'/\T'.Perm (P5 l)/\Az i (fs T) l (fs T'):=by
 have plen:(P5 l).length=l.length:=by simp[P5]
 have HE:∀i (h:i<l.length),(P5 l)[i]'(by omega)=(l[i],i):=by intro i h;simp[P5]
 intro d
 induction d with
 |zero=>
  intro i T hd hi hs hp;have e:i=l.length:=by omega
  subst e;rw[List.take_of_length_le (by omega)]at hp;exact⟨T,hs,hp,Xn _ _ _ _ ⟨λh=>by simp at h,λ_=>rfl⟩⟩
 |succ d ih=>
  intro i T hd hi hs hp;rcases Nat.lt_or_ge i l.length with hlt|hge
  ·have tl:T.length=i:=by rw[hp.length_eq];simp;omega
   have hlow:∀y∈T,y.2<i:=by
    intro y hy;have:=hp.mem_iff.1 hy;obtain⟨j,hj,rfl⟩:=List.mem_iff_getElem.1 this;rw[List.getElem_take];rw[HE j (by simp at hj;omega)];simp at hj;show j<i;omega
   obtain⟨k,q1,q2,q3,q4⟩:=xD hl i hlt (fs T) (by simp[tl]) (fs T).length (Nat.le_refl _) (by rw[List.drop_length];intro y hy;cases hy);have hk:k<=T.length:=by simpa using q1
   have hsp:T.Pairwise (Rt kr):=hs;rw[<-List.take_append_drop k T]at hsp;obtain⟨s1,s2,s3⟩:=List.pairwise_append.1 hsp
   have big:∀y∈T.drop k,Rt kr (l[i],i) y:=by
    intro y hy;have h1:=q2 y.1 (by rw[<-List.map_drop];exact List.mem_map_of_mem hy);left;show G4 l[i].Num y.1.Num<0;rcases Z8 l[i].Num y.1.Num with g|g|g<;>omega
   have small:∀y∈T.take k,Rt kr y (l[i],i):=by
    intro y hy;rcases q3 with h0|⟨z,hz,hzn⟩
    ·subst h0;simp at hy
    ·have hy2:y.1.Num<=z.Num:=by
      rcases Nat.eq_zero_or_pos k with h0|h0
      ·subst h0;simp at hy
      obtain⟨j,hj,rfl⟩:=List.mem_iff_getElem.1 hy;simp at hj;rw[List.getElem_take];have hk1:k - 1<T.length:=by omega
      have hz2:z=(T[k - 1]).1:=by
       rw[b5b,b48 hk1]at hz;simpa using hz.symm
      rcases Nat.lt_or_ge j (k - 1) with h1|h1
      ·have:=List.pairwise_iff_getElem.1 hs j (k - 1) (by omega) hk1 h1;unfold Rt at this;simp only[kr]at this;rw[hz2];rcases Z8 (T[j]).1.Num (T[k - 1]).1.Num with g|g|g<;>omega
      ·have:j=k - 1:=by omega
       subst this;rw[hz2];exact Int.le_refl _
     have:=hlow y (List.mem_of_mem_take hy);unfold Rt;show G4 y.1.Num l[i].Num<0\/(G4 y.1.Num l[i].Num=0/\y.2<i);rcases Z8 y.1.Num l[i].Num with g|g|g<;>omega
   obtain⟨T',p1,p2,p3⟩:=ih (i+1) (T.take k++(l[i],i)::T.drop k) (by omega) (by omega) (by
    show List.Pairwise _ _;refine List.pairwise_append.2 ⟨s1,List.pairwise_cons.2 ⟨big,s2⟩,λa ha b hb=>?_⟩;rcases List.mem_cons.1 hb with h|h
    ·rw[h];exact small a ha
    ·exact s3 a ha b h) (by
    rw[List.take_succ_eq_append_getElem (by omega),HE i hlt]
    have e5:(T.take k++(l[i],i)::T.drop k).Perm ((l[i],i)::T):=by
     have:=List.perm_middle (a:=(l[i],i)) (l₁:=T.take k) (l₂:=T.drop k)
     rwa [List.take_append_drop]at this
    exact(e5.trans (hp.cons _)).trans (List.perm_append_singleton _ _).symm)
   refine⟨T',p1,p2,Xn _ _ _ _ ⟨λ_=>?_,λh=>by simp at h;omega⟩⟩;refine q4 _ ?_
   have e6:(fs T).take k++l[i]::(fs T).drop k=fs (T.take k++(l[i],i)::T.drop k):=by
    simp[fs,List.map_take,List.map_drop]
   rw[e6];exact p3
  ·have e:i=l.length:=by omega
   subst e;rw[List.take_of_length_le (by omega)]at hp;exact⟨T,hs,hp,Xn _ _ _ _ ⟨λh=>by simp at h,λ_=>rfl⟩⟩
theorem zU:Yd l (sC kr l):=by
 obtain⟨T,h1,h2,h3⟩:=a6q hl l.length 0 [] (by omega) (by omega) .nil (by simp);obtain⟨S,q1,q2,q3⟩:=OS RU l
 have e:fs T=sC kr l:=by
  rw[<-q3];exact Ez.one (Dm:=λ_=>True) RU (λ_ _=>trivial) ⟨T,h1,h2,rfl⟩ ⟨S,q1,q2,rfl⟩
 rw[e]at h3;exact sI _ _ h3
end
def Bp{α:Type}(f:α->b5n):b5l α->Int->Int
 |[],_=> -1
 |x::l,i=>if f x=true then i else Bp f l (i+1)
theorem s9{α:Type}{J:Int->b5l α->Int->Prop}{C:α->b5n->Prop}(f:α->b5n)(step:∀i s r,((decide (i<(s.length:Int)))=true->∃y3,s[i.toNat]? =some y3/\0<=i/\(∃y4,C y3 y4/\((y4=true->r=i)/\(y4=false->J (wI (i+1)) s r))))/\((decide (i<(s.length:Int)))=false->r=(-1))->J i s r)(s:b5l α)(hs:s.length<=140737488351232)(hC:∀x∈s,C x (f x)):J 0 s (Bp f s 0):=by
 have key:∀(d i:Nat),s.length - i<=d->i<=s.length->J i s (Bp f (s.drop i) i):=by
  intro d
  induction d with
  |zero=>
   intro i hd hi;exact step _ _ _ ⟨λh=>by simp at h;omega,λ_=>by rw[b5d (by omega)];rfl⟩
  |succ d ih=>
   intro i hd hi;rcases Nat.lt_or_ge i s.length with hlt|hge
   ·have e1:wI ((i:Int)+1)=((i+1:Nat):Int):=by rw[wI,C7 (by omega)];omega
    have dl:s.drop i=s[i]::s.drop (i+1):=b5c hlt;refine step _ _ _ ⟨λ_=>⟨s[i],by simp,by omega,_,hC _ (List.getElem_mem _),λh=>?_,λh=>?_⟩,λh=>by simp at h;omega⟩
    ·rw[dl,Bp,if_pos h]
    ·rw[dl,Bp,if_neg (nt h),e1];exact ih (i+1) (by omega) (by omega)
   ·exact step _ _ _ ⟨λh=>by simp at h;omega,λ_=>by rw[b5d hge];rfl⟩
 simpa using key s.length 0 (by omega) (by omega)
def FK(p:A8)(name:b5k):Int × b5n:=(max (Bp (λg:B7=>decide (g.Name=name)) p.B3 0) 0,decide (0<=Bp (λg:B7=>decide (g.Name=name)) p.B3 0))
theorem lD(p:A8)(hp:p.B3.length<=140737488351232)(name:b5k):UR p name (FK p name):=by
 refine a1h _ _ _ ⟨_,xj _ _ _ (s9 (J:=λi s r=>SV i s _ r) (λg:B7=>decide (g.Name=name)) (λi s r hw=>xJ _ _ _ _ hw) _ hp λx hx=>?_),rfl⟩;exact a3i x name _ (yT _ _ _ rfl)
theorem kW(p:A8)(hp:p.B3.length<=140737488351232)(name:b5k):WG p name (FK p name):=by
 have key:∀(d i:Nat),p.B3.length - i<=d->i<=p.B3.length->VI i name p (max (Bp (λg:B7=>decide (g.Name=name)) (p.B3.drop i) i) 0,decide (0<=Bp (λg:B7=>decide (g.Name=name)) (p.B3.drop i) i)):=by
  intro d
  induction d with
  |zero=>
   intro i hd hi;exact bj _ _ _ _ ⟨λh=>by simp at h;omega,λ_=>by rw[b5d (by omega)];rfl⟩
  |succ d ih=>
   intro i hd hi;rcases Nat.lt_or_ge i p.B3.length with hlt|hge
   ·have e1:wI ((i:Int)+1)=((i+1:Nat):Int):=by rw[wI,C7 (by omega)];omega
    have dl:p.B3.drop i=p.B3[i]::p.B3.drop (i+1):=b5c hlt;refine bj _ _ _ _ ⟨λ_=>⟨p.B3[i],by simp,by omega,λh=>?_,λh=>?_⟩,λh=>by simp at h;omega⟩
    ·rw[dl,Bp,if_pos h];have h1:max (i:Int) 0=i:=by omega
     have h2:decide (0<=(i:Int)):=by simp
     rw[h1,h2]
    ·rw[dl,Bp,if_neg (nt h),e1];exact ih (i+1) (by omega) (by omega)
   ·exact bj _ _ _ _ ⟨λh=>by simp at h;omega,λ_=>by rw[b5d hge];rfl⟩
 have:=key p.B3.length 0 (by omega) (by omega);exact yB _ _ _ (by simpa[FK]using this)
def ER(p:A8)(enum num:Int):b5n:=
 if enum<0\/(p.D8.length:Int)<=enum\/2147483647<num then false else(p.D8[enum.toNat]?).any λy=>y.Open||y.Items.any λit=>decide (it.Num=num)
structure HR(p:A8):Prop where
 n:p.D8.length<=140737488351232
 i:∀y∈p.D8,y.Items.length<=140737488351232/\∀it∈y.Items, -9223372036854775808<=it.Num/\it.Num<=9223372036854775807
def uR(num:Int):B5:=⟨305,[],[.G6 [.v (.int .u64 num)] 0],by simp[C3,plain]⟩
theorem b21(num:Int)(hn:0<=num/\num<=2147483647)(l:b5l AU)(hl:l.length<=140737488351232)(hi:∀it∈l, -9223372036854775808<=it.Num/\it.Num<=9223372036854775807):∀n i:Nat,l.length - i<=n->i<=l.length->
  ∃r,Wa i l (uR num) r/\(0<=r↔∃it∈l.drop i,it.Num=num):=by
 intro n
 induction n with
 |zero=>
  intro i h1 h2;refine⟨-1,WB _ _ _ _ ⟨λh=>by simp only[b45]at h;omega,λ_=>rfl⟩,?_⟩;have:l.drop i=[]:=b5d (by omega);simp[this]
 |succ n ih=>
  intro i h1 h2;rcases Nat.lt_or_ge i l.length with hlt|hge
  ·have hy:l[i]? =some l[i]:=b48 hlt;have hmem:l[i]∈l:=List.getElem_mem hlt;have hr:=hi _ hmem;have hd:l.drop i=l[i]::l.drop (i+1):=b5c hlt;have ht:((i:Int)).toNat=i:=by omega
   have hw:(wU (l[i]).Num==num)=decide ((l[i]).Num=num):=by
    rw[Bool.eq_iff_iff];simp only[beq_iff_eq,b45];rcases Int.lt_or_le (l[i]).Num 0 with h0|h0
    ·rw[b0l ⟨hr.1,h0⟩];omega
    ·have:wU (l[i]).Num=(l[i]).Num:=Y2 (by omega);rw[this]
   have hc:=r6 l[i] num _ (a7i l[i] num _ rfl)
   by_cases he:(l[i]).Num=num
   ·refine⟨i,WB _ _ _ _ ⟨λ_=>⟨l[i],by rw[ht];exact hy,by omega,_,hc,λ_=>rfl,λh=>?_⟩,λh=>by simp only[b46]at h;omega⟩,?_⟩
    ·rw[hw,decide_eq_true he]at h;cases h
    ·rw[hd];exact⟨λ_=>⟨_,List.mem_cons_self,he⟩,λ_=>by omega⟩
   ·obtain⟨r,hr1,hr2⟩:=ih (i+1) (by omega) (by omega);refine⟨r,WB _ _ _ _ ⟨λ_=>⟨l[i],by rw[ht];exact hy,by omega,_,hc,λh=>?_,λ_=>?_⟩,λh=>by simp only[b46]at h;omega⟩,?_⟩
    ·rw[hw,decide_eq_false he]at h;cases h
    ·rw[wI,C7 (by omega)];exact hr1
    ·rw[hr2,hd];exact⟨λ⟨it,k1,k2⟩=>⟨it,List.mem_cons_of_mem _ k1,k2⟩,λ⟨it,k1,k2⟩=>(List.mem_cons.1 k1).elim (λe=>(he (by rw[<-e];exact k2)).elim) λk1=>⟨it,k1,k2⟩⟩
  ·refine⟨-1,WB _ _ _ _ ⟨λh=>by simp only[b45]at h;omega,λ_=>rfl⟩,?_⟩;have:l.drop i=[]:=b5d (by omega);simp[this]
theorem b1f(p:A8)(hp:HR p)(enum num:Int)(hn:0<=num):ZF p enum num (ER p enum num):=by
 refine yE _ _ _ _ ⟨λh=>?_,λh=>?_⟩
 ·rw[ER,if_pos];simp only[Bool.or_eq_true,b45]at h;omega
 ·simp only[Bool.or_eq_false_iff,b46]at h;have hlt:enum.toNat<p.D8.length:=by omega
  have hy:p.D8[enum.toNat]? =some p.D8[enum.toNat]:=b48 hlt;obtain⟨hl,hi⟩:=hp.i _ (List.getElem_mem hlt);rw[ER,if_neg (by omega),hy];generalize p.D8[enum.toNat]=y at*;refine⟨y,hy,by omega,λh2=>by simp[h2],λh2=>?_⟩;obtain⟨r,hr1,hr2⟩:=b21 num ⟨hn,by omega⟩ y.Items hl hi y.Items.length 0 (by omega) (by omega);refine⟨_,a87 _ _ _ ⟨r,sG _ _ _ hr1,rfl⟩,?_⟩;simp only[h2,Option.any_some,Bool.false_or];rw[Bool.eq_iff_iff,b45,hr2,List.drop_zero,List.any_eq_true];simp
theorem a9b(p:A8)(enum num:Int)(y:N4)(hy:p.D8[enum.toNat]? =some y)(he:0<=enum)(hn:0<=num/\num<=2147483647)(hl:y.Items.length<=140737488351232):∀n i:Nat,∀b:b5n,y.Items.length - i<=n->i<=y.Items.length->Pa i b enum num p (b||(y.Items.drop i).any λit=>decide (it.Num=num)):=by
 intro n
 induction n with
 |zero=>
  intro i b h1 h2;refine mN _ _ _ _ _ _ ⟨y,hy,he,λh=>by simp only[b45]at h;omega,λ_=>?_⟩;rw[b5d (by omega)];simp
 |succ n ih=>
  intro i b h1 h2;refine mN _ _ _ _ _ _ ⟨y,hy,he,λh=>?_,λh=>?_⟩
  ·simp only[b45]at h;have hlt:i<y.Items.length:=by omega
   have hd:=b5c hlt;have ht:((i:Int)).toNat=i:=by omega
   have ei:wI ((i:Int)+1)=((i+1:Nat):Int):=by rw[wI,C7 (by omega)];omega
   rw[ei];refine⟨λhb=>?_,λhb=>⟨y,hy,he,y.Items[i],by rw[ht];exact b48 hlt,by omega,?_⟩⟩
   ·have:=ih (i+1) true (by omega) (by omega);rw[hb];exact this
   ·have:=ih (i+1) (y.Items[i].Num==wI num) (by omega) (by omega);have ew:wI num=num:=C7 (by omega);rw[ew]at this ⊢;rw[hb,hd];simp only[List.any_cons,Bool.false_or];exact this
  ·simp only[b46]at h;rw[b5d (by omega)];simp
theorem qw(p:A8)(hp:HR p)(enum num:Int)(hn:0<=num):YX p enum num (ER p enum num):=by
 refine b0u _ _ _ _ ⟨λh=>?_,λh=>?_⟩
 ·rw[ER,if_pos];simp only[Bool.or_eq_true,b45]at h;omega
 ·simp only[Bool.or_eq_false_iff,b46]at h;have hlt:enum.toNat<p.D8.length:=by omega
  have hy:p.D8[enum.toNat]? =some p.D8[enum.toNat]:=b48 hlt;obtain⟨hl,hi⟩:=hp.i _ (List.getElem_mem hlt);rw[ER,if_neg (by omega),hy];generalize p.D8[enum.toNat]=y at*;have:=a9b p enum num y hy (by omega) ⟨hn,by omega⟩ hl y.Items.length 0 y.Open (by omega) (by omega);exact⟨y,hy,by omega,this⟩
theorem b1j(a b:b5k):(a++b).size=a.size+b.size:=ByteArray.size_append
def Ex{α:Type}(Q p:α->Prop):Prop:=∃r,p r/\Q r
section
variable {α β:Type}{Q:α->Prop}
theorem E7{e:α}(h:Q e):Ex Q (λr=>r=e):=⟨e,rfl,h⟩
theorem E6{c:Prop}[Decidable c]{p q:α->Prop}(h1:c->Ex Q p)(h2:¬c->Ex Q q):Ex Q (λr=>(decide c=true->p r)/\(decide c=false->q r)):=by
 by_cases h:c
 ·obtain⟨r,a,b⟩:=h1 h;exact⟨r,⟨λ_=>a,λh'=>absurd h (of_decide_eq_false h')⟩,b⟩
 ·obtain⟨r,a,b⟩:=h2 h;exact⟨r,⟨λh'=>absurd (of_decide_eq_true h') h,λ_=>a⟩,b⟩
theorem G9{c:Prop}[Decidable c]{p q:α->Prop}(h1:¬c->Ex Q p)(h2:c->Ex Q q):Ex Q (λr=>((!decide c)=true->p r)/\((!decide c)=false->q r)):=by
 by_cases h:c
 ·obtain⟨r,a,b⟩:=h2 h;exact⟨r,⟨λh'=>by simp[h]at h',λ_=>a⟩,b⟩
 ·obtain⟨r,a,b⟩:=h1 h;exact⟨r,⟨λ_=>a,λh'=>by simp[h]at h'⟩,b⟩
theorem E4(B:b5n){p q:α->Prop}(h1:B=true->Ex Q p)(h2:B=false->Ex Q q):Ex Q (λr=>(B=true->p r)/\(B=false->q r)):=by
 cases hB:B with
 |true=>obtain⟨r,a,b⟩:=h1 hB;exact⟨r,⟨λ_=>a,λh=>by cases h⟩,b⟩
 |false=>obtain⟨r,a,b⟩:=h2 hB;exact⟨r,⟨λh=>(by cases h),λ_=>a⟩,b⟩
theorem L0{F:β->Prop}{G:β->α->Prop}{S:β->Prop}(h:Ex S F)(k:∀y,S y->Ex Q (G y)):Ex Q (λr=>∃y,F y/\G y r):=by
 obtain⟨y,hy,hs⟩:=h;obtain⟨r,a,b⟩:=k y hs;exact⟨r,⟨y,hy,a⟩,b⟩
theorem ap{F:β->Prop}{G:β->α->Prop}{v:β}(h:F v)(k:Ex Q (G v)):Ex Q (λr=>∃y,F y/\G y r):=by
 obtain⟨r,a,b⟩:=k;exact⟨r,⟨v,h,a⟩,b⟩
theorem F4{l:b5l β}{i:Int}{G:β->α->Prop}(h:0<=i/\i<l.length)(k:∀y,l[i.toNat]? =some y->y∈l->Ex Q (G y)):Ex Q (λr=>∃y,l[i.toNat]? =some y/\0<=i/\G y r):=by
 have hlt:i.toNat<l.length:=by omega
 have he:=b48 hlt;obtain⟨r,a,b⟩:=k _ he (List.getElem_mem hlt);exact⟨r,⟨_,he,h.1,a⟩,b⟩
theorem Q7{l:b5l β}{i:Int}{G:β->α->Prop}(y:β)(hy:l[i.toNat]? =some y)(h:0<=i)(k:Ex Q (G y)):Ex Q (λr=>∃y,l[i.toNat]? =some y/\0<=i/\G y r):=by
 obtain⟨r,a,b⟩:=k;exact⟨r,⟨y,hy,h,a⟩,b⟩
theorem F6{A:Prop}{G:α->Prop}(h:A)(k:Ex Q G):Ex Q (λr=>A/\G r):=by
 obtain⟨r,a,b⟩:=k;exact⟨r,⟨h,a⟩,b⟩
theorem G2{G:β->α->Prop}{H:(β->Prop)->α->Prop}(k:Ex Q (λr=>H (λz=>G z r) r)):Ex Q (λr=>∃R:β->Prop,(∀z,R z->G z r)/\H R r):=by
 obtain⟨r,a,b⟩:=k;exact⟨r,⟨λz=>G z r,λz h=>h,a⟩,b⟩
theorem D5{p F:α->Prop}(h:∀r,p r->F r)(k:Ex Q p):Ex Q F:=by
 obtain⟨r,a,b⟩:=k;exact⟨r,h r a,b⟩
theorem nB{p S:α->Prop}(h:Ex S p)(k:∀r,S r->Q r):Ex Q p:=by
 obtain⟨r,a,b⟩:=h;exact⟨r,a,k r b⟩
theorem Ex.to{p:α->Prop}(h:Ex Q p):∃r,p r/\Q r:=h
end
theorem N8{T:Nat->Prop}(n:Nat)(step:∀i,i<n->T (i+1)->T i)(fin:∀i,n<=i->T i):∀i,T i:=by
 have:∀k i,n - i<=k->T i:=by
  intro k
  induction k with
  |zero=>exact λi h=>fin i (by omega)
  |succ k ih=>
   intro i h;rcases Nat.lt_or_ge i n with h1|h1
   ·exact step i h1 (ih (i+1) (by omega))
   ·exact fin i h1
 exact λi=>this (n - i) i (Nat.le_refl _)
theorem H8{i:Nat}(h:i<=4611686018427387904):wI ((i:Int)+1)=((i+1:Nat):Int):=by rw[wI,C7 (by omega)];omega
theorem Ds{i:Nat}(h:0<i/\i<=4611686018427387904):wI ((i:Int) - 1)=((i - 1:Nat):Int):=by rw[wI,C7 (by omega)];omega
def yes{α:Type}:α->Prop:=λ_=>True
def H0{α β:Type}(R:α->β->Prop)(F:α->Prop)(G:β->Prop):Prop:=∃y z,F y/\G z/\R y z
section
variable {α β γ δ:Type}{R:α->β->Prop}
theorem I1{a:α}{b:β}(h:R a b):H0 R (λr=>r=a) (λr=>r=b):=⟨a,b,rfl,rfl,h⟩
theorem V9{F p:α->Prop}{G q:β->Prop}(hF:∀r,p r->F r)(hG:∀r,q r->G r)(h:H0 R p q):H0 R F G:=by
 obtain⟨y,z,h1,h2,h3⟩:=h;exact⟨y,z,hF y h1,hG z h2,h3⟩
theorem Gb{F p:α->Prop}{G:β->Prop}(hF:∀r,p r->F r)(h:H0 R p G):H0 R F G:=V9 hF (λ_ h=>h) h
theorem CN{F:α->Prop}{G q:β->Prop}(hG:∀r,q r->G r)(h:H0 R F q):H0 R F G:=V9 (λ_ h=>h) hG h
theorem Ni{S:γ->δ->Prop}{F:γ->Prop}{G:δ->Prop}{F':γ->α->Prop}{G':δ->β->Prop}(h:H0 S F G)(k:∀y z,S y z->H0 R (F' y) (G' z)):H0 R (λr=>∃y,F y/\F' y r) (λr=>∃z,G z/\G' z r):=by
 obtain⟨y,z,h1,h2,h3⟩:=h;obtain⟨a,b,k1,k2,k3⟩:=k y z h3;exact⟨a,b,⟨y,h1,k1⟩,⟨z,h2,k2⟩,k3⟩
theorem Cs{F:γ->Prop}{F':γ->α->Prop}{G:β->Prop}{v:γ}(h:F v)(k:H0 R (F' v) G):H0 R (λr=>∃y,F y/\F' y r) G:=Gb (λr hr=>⟨v,h,hr⟩) k
theorem AX{F:γ->Prop}{F':α->Prop}{G:γ->β->Prop}{v:γ}(h:F v)(k:H0 R F' (G v)):H0 R F' (λr=>∃y,F y/\G y r):=CN (λr hr=>⟨v,h,hr⟩) k
theorem I8{ε:Type}{F:γ->Prop}{F':γ->α->Prop}{G:ε->Prop}{G':ε->β->Prop}{v:γ}{w:ε}(h:F v)(h2:G w)(k:H0 R (F' v) (G' w)):H0 R (λr=>∃y,F y/\F' y r) (λr=>∃y,G y/\G' y r):=Cs h (AX h2 k)
theorem M7{B B':b5n}{p q:α->Prop}{p' q':β->Prop}(hB:B=B')(h1:B=true->H0 R p p')(h2:B=false->H0 R q q'):H0 R (λr=>IF B (p r) (q r)) (λr=>IF B' (p' r) (q' r)):=by
 subst hB;cases B with
 |true=>obtain⟨y,z,k1,k2,k3⟩:=h1 rfl;exact⟨y,z,⟨λ_=>k1,λh=>by cases h⟩,⟨λ_=>k2,λh=>by cases h⟩,k3⟩
 |false=>obtain⟨y,z,k1,k2,k3⟩:=h2 rfl;exact⟨y,z,⟨λh=>(by cases h),λ_=>k1⟩,⟨λh=>(by cases h),λ_=>k2⟩,k3⟩
theorem N3(B:b5n){p q:α->Prop}{G:β->Prop}(h1:B=true->H0 R p G)(h2:B=false->H0 R q G):H0 R (λr=>IF B (p r) (q r)) G:=by
 cases B with
 |true=>exact Gb (λr hr=>⟨λ_=>hr,λh=>by cases h⟩) (h1 rfl)
 |false=>exact Gb (λr hr=>⟨λh=>(by cases h),λ_=>hr⟩) (h2 rfl)
theorem M3(B:b5n){F:α->Prop}{p q:β->Prop}(h1:B=true->H0 R F p)(h2:B=false->H0 R F q):H0 R F (λr=>IF B (p r) (q r)):=by
 cases B with
 |true=>exact CN (λr hr=>⟨λ_=>hr,λh=>by cases h⟩) (h1 rfl)
 |false=>exact CN (λr hr=>⟨λh=>(by cases h),λ_=>hr⟩) (h2 rfl)
theorem cr{A:Prop}{F:α->Prop}{G:β->Prop}(h:A)(k:H0 R F G):H0 R (λr=>A/\F r) G:=Gb (λr hr=>⟨h,hr⟩) k
theorem Ct{A:Prop}{F:α->Prop}{G:β->Prop}(h:A)(k:H0 R F G):H0 R F (λr=>A/\G r):=CN (λr hr=>⟨h,hr⟩) k
theorem tm{G:γ->α->Prop}{H:(γ->Prop)->α->Prop}{G':β->Prop}(k:H0 R (λr=>H (λz=>G z r) r) G'):H0 R (λr=>JN (λz=>G z r) λR=>H R r) G':=Gb (λr hr=>⟨λz=>G z r,λz h=>h,hr⟩) k
theorem kN{G:γ->β->Prop}{H:(γ->Prop)->β->Prop}{F:α->Prop}(k:H0 R F (λr=>H (λz=>G z r) r)):H0 R F (λr=>JN (λz=>G z r) λR=>H R r):=CN (λr hr=>⟨λz=>G z r,λz h=>h,hr⟩) k
end
theorem U0{B:b5n}{p q:Prop}(h:B=true)(hp:p):IF B p q:=⟨λ_=>hp,λh'=>by rw[h]at h';cases h'⟩
theorem J6{B:b5n}{p q:Prop}(h:B=false)(hq:q):IF B p q:=⟨λh'=>(by rw[h]at h';cases h'),λ_=>hq⟩
def CI(c:A4)(k n:Int):A4:=⟨c.Data,c.At+k,c.End,c.E5,c.Nodes - n,c.Text⟩
structure F8(c:A4):Prop where
 sz:c.Data.size<=65536
 a0:0<=c.At
 a1:c.At<=c.End
 a2:c.End<=(c.Data.size:Int)
 d0:0<=c.E5
 d1:c.E5<=1000
 n0:0<=c.Nodes
 n1:c.Nodes<=1000000
structure Fw(s:Int)(c c':A4):Prop where
 snd:F8 c'
 en:c'.End=c.End
 dp:c'.E5=c.E5
 dt:c'.Data=c.Data
 at_:c.At+s<=c'.At
 nd:c'.Nodes<=c.Nodes
theorem Fw.trans{s t:Int}{a b c:A4}(h:Fw s a b)(k:Fw t b c):Fw (s+t) a c:=⟨k.snd,k.en.trans h.en,k.dp.trans h.dp,k.dt.trans h.dt,by have:=h.at_;have:=k.at_;omega,Int.le_trans k.nd h.nd⟩
theorem Fw.less{s t:Int}{a b:A4}(h:Fw s a b)(hs:t<=s):Fw t a b:=⟨h.snd,h.en,h.dp,h.dt,by have:=h.at_;omega,h.nd⟩
theorem Fw.refl{c:A4}(h:F8 c):Fw 0 c c:=⟨h,rfl,rfl,rfl,by omega,Int.le_refl _⟩
theorem F8.okc{c:A4}(h:F8 c):Bm c:=⟨by have:=h.sz;omega,by have:=h.a0;omega,by have:=h.a1;have:=h.a2;have:=h.sz;omega⟩
theorem F8.left{c:A4}(h:F8 c):H7 c.Data c.At c.End=c.End - c.At:=by
 have:AY c.Data c.At c.End:=by
  have:=h.a0;have:=h.a1;have:=h.a2;simp[AY];omega
 rw[H7,if_pos this]
theorem F8.size{c:A4}(h:F8 c):((O0 c).size:Int)=c.End - c.At:=by rw[DY,h.left]
theorem F8.CI{c:A4}(h:F8 c){k n:Int}(hk:0<=k/\k<=c.End - c.At)(hn:0<=n/\n<=c.Nodes):Fw k c (CI c k n):=by
 have a0:=h.a0;have a1:=h.a1;have a2:=h.a2;have n0:=h.n0;have n1:=h.n1;refine⟨⟨h.sz,?_,?_,a2,h.d0,h.d1,?_,?_⟩,rfl,rfl,rfl,?_,?_⟩<;>simp only[Lift.CI]<;>omega
theorem a7b(c:A4)(n:Int):DH c n=CI c n 0:=by simp[DH,CI]
theorem F8.beh{c:A4}(h:F8 c){k:Int}(hk:0<=k/\k<=c.End - c.At):Fw k c (DH c k):=by rw[a7b];exact h.CI hk ⟨Int.le_refl _,h.n0⟩
theorem EF{c:A4}(hc:F8 c)(h:(C1 c).2.2=0):Fw 1 c (C1 c).2.1/\0<=(C1 c).1/\(C1 c).1<18446744073709551616:=by
 have hr:=fw (O0 c) 10 0 0 rfl;have hs:=hc.size;have hl:=uH (O0 c) 10 0 0 rfl (by omega) (by decide);unfold C1 at h ⊢
 by_cases h0:(N5 (O0 c) 0 0).2.2=0
 ·rw[if_pos h0];have h3:=hr.2.2 h0;exact⟨(hc.beh ⟨by omega,by omega⟩).less (by omega),by simp only;omega,by simp only;omega⟩
 ·rw[if_neg h0]at h;simp only at h;omega
theorem ou{c:A4}(hc:F8 c)(h:(Z1 c).2.2=0):Fw 1 c (Z1 c).2.1:=by
 have hs:=hc.size;unfold Z1 at h ⊢
 by_cases h1:8<=(O0 c).size
 ·rw[if_pos h1];exact(hc.beh ⟨by omega,by omega⟩).less (by decide)
 ·rw[if_neg h1]at h;exact(by simp at h)
theorem jw(c:A4):0<=(Z1 c).1/\(Z1 c).1<18446744073709551616:=by
 have h:=dA (O0 c) 8;unfold Z1;split
 ·simp only;omega
 ·simp
theorem l7{c:A4}(hc:F8 c)(h:(Ch c).2.2=0):Fw 1 c (Ch c).2.1/\0<=(Ch c).1/\(Ch c).1<256:=by
 have hs:=hc.left;unfold Ch at h ⊢
 by_cases h1:0<H7 c.Data c.At c.End
 ·rw[if_pos h1];have:=Cp c.Data c.At.toNat;exact⟨hc.beh ⟨by decide,by omega⟩,by simp only;omega,by simp only;omega⟩
 ·rw[if_neg h1]at h;exact(by simp at h)
theorem a99{c:A4}(hc:F8 c)(n:Int)(h:(BW c n).2.2=0):Fw 0 c (BW c n).2.1/\(BW c n).1.size<=65536:=by
 have hs:=hc.left;have a2:=hc.a2;have a0:=hc.a0;have sz:=hc.sz;unfold BW at h ⊢
 by_cases h1:n<0
 ·rw[if_pos h1]at h;exact(by simp at h)
 rw[if_neg h1]at h ⊢
 by_cases h2:H7 c.Data c.At c.End<n
 ·rw[if_pos h2]at h;exact(by simp at h)
 rw[if_neg h2]at h ⊢
 by_cases h3:c.Text<n
 ·rw[if_pos h3]at h;exact(by simp at h)
 rw[if_neg h3];refine⟨(hc.beh ⟨by omega,by omega⟩).less (by omega),?_⟩;simp only;rw[EB _ (by omega)];omega
def Rl{α:Type}(p:A8)(S:α->A4->Prop)(y:B6 × (α × Int))(z:α × A4 × Int):Prop:=(y.2.2≠0/\z.2.2=y.2.2)\/∃x c',y=(⟨p,c'⟩,x,0)/\z=(x,c',0)/\S x c'
theorem Ki{e:Int}(h:e≠0):(e !=0):=by simpa using h
theorem Fc{α γ δ:Type}{p:A8}{S:α->A4->Prop}{R:γ->δ->Prop}{F:B6 × (α × Int)->Prop}{G:α × A4 × Int->Prop}{E:B6 × (α × Int)->γ}{E':α × A4 × Int->δ}{F':B6 × (α × Int)->γ->Prop}{G':α × A4 × Int->δ->Prop}(h:H0 (Rl p S) F G)(he:∀y z,y.2.2≠0->z.2.2=y.2.2->R (E y) (E' z))(k:∀x c',S x c'->H0 R (F' (⟨p,c'⟩,x,0)) (G' (x,c',0))):H0 R (λr=>∃y,F y/\IF (y.2.2 !=0) (r=E y) (F' y r)) (λr=>∃z,G z/\IF (z.2.2 !=0) (r=E' z) (G' z r)):=by
 refine Ni h λy z hyz=>?_
 rcases hyz with⟨h1,h2⟩|⟨x,c',rfl,rfl,h3⟩
 ·exact N3 _ (λ_=>M3 _ (λ_=>I1 (he y z h1 h2)) λh=>by rw[h2,Ki h1]at h;cases h) λh=>by rw[Ki h1]at h;cases h
 ·exact N3 _ (λh=>by cases h) λ_=>M3 _ (λh=>by cases h) λ_=>k x c' h3
def O9(n:Int)(c:A4):A4 × Int:=if c.Nodes<n then(c,3) else(CI c 0 n,0)
theorem qj(n:Int){c:A4}(hc:F8 c)(hn:0<=n/\n<=10):ID (n<0) (O9 n c=(c,1)) (ID (c.Nodes<n) (O9 n c=(c,3)) (O9 n c=((⟨c.Data,c.At,c.End,c.E5,(wI (c.Nodes - n)),c.Text⟩:A4),0))):=by
 have n0:=hc.n0;have n1:=hc.n1;refine J6 (decide_eq_false (by omega)) ⟨λh=>?_,λh=>?_⟩
 ·rw[O9,if_pos (of_decide_eq_true h)]
 ·have h:=of_decide_eq_false h;rw[O9,if_neg h,wI,C7 (by omega)];simp only[CI,Int.add_zero]
theorem mJ(n:Int){c:A4}(hc:F8 c)(hn:0<=n/\n<=10):Sn c n (O9 n c):=a9j _ _ _ (qj n hc hn)
theorem JI(n:Int){c:A4}(hc:F8 c)(hn:0<=n/\n<=10):FG c n (O9 n c):=wa _ _ _ (qj n hc hn)
theorem FR(n:Int){c:A4}(hc:F8 c)(hn:0<=n)(h:(O9 n c).2=0):Fw 0 c (O9 n c).1:=by
 have a1:=hc.a1;unfold O9 at h ⊢
 by_cases h1:c.Nodes<n
 ·rw[if_pos h1]at h;exact(by simp at h)
 ·rw[if_neg h1];exact hc.CI ⟨Int.le_refl _,by omega⟩ ⟨hn,by omega⟩
theorem Lh(p:A8)(n:Int){c:A4}(hc:F8 c)(hn:0<=n/\n<=10):GS ⟨p,c⟩ n (⟨p,(O9 n c).1⟩,(O9 n c).2):=a8v _ _ _ ⟨_,mJ n hc hn,rfl⟩
def G3(c:A4):Int × Int × A4 × Int:=
 if(C1 c).2.2≠0 then(0,0,c,(C1 c).2.2) else if(C1 c).1 % 8=7 then(0,0,c,5) else if(C1 c).1 / 8<1\/65535<(C1 c).1 / 8 then(0,0,c,6) else((C1 c).1 / 8,(C1 c).1 % 8,(C1 c).2.1,0)
theorem qc{c:A4}(hc:F8 c):IF ((C1 c).2.2 !=0) (G3 c=(0,0,c,(C1 c).2.2)) (IF (((C1 c).1.tmod 8)==7) (G3 c=(0,0,c,5)) (IF ((decide ((wU ((C1 c).1.tdiv 8))<1))||(decide (65535<(wU ((C1 c).1.tdiv 8))))) (G3 c=(0,0,c,6)) (G3 c=((wI (wU ((C1 c).1.tdiv 8))),(wI ((C1 c).1.tmod 8)),(C1 c).2.1,0)))):=by
 refine⟨λh=>?_,λh=>?_⟩
 ·rw[G3,if_pos (by simpa using h)]
 have h0:(C1 c).2.2=0:=by simpa using h
 obtain⟨_,u0,u1⟩:=EF hc h0;have e1:(C1 c).1.tdiv 8=(C1 c).1 / 8:=Int.tdiv_eq_ediv_of_nonneg u0;have e2:(C1 c).1.tmod 8=(C1 c).1 % 8:=Int.tmod_eq_emod_of_nonneg u0;rw[e1,e2,wU,Y2 (by omega)];refine⟨λh1=>?_,λh1=>⟨λh2=>?_,λh2=>?_⟩⟩
 ·rw[G3,if_neg (by omega),if_pos (by simpa using h1)]
 all_goals have h1:¬(C1 c).1 % 8=7:=by simpa using h1
 ·rw[G3,if_neg (by omega),if_neg h1,if_pos (by simpa using h2)]
 ·rw[G3,if_neg (by omega),if_neg h1,if_neg (by simpa using h2),wI,wI,C7 (by omega),C7 (by omega)]
theorem bC{c:A4}(hc:F8 c):Pl c (G3 c):=wz _ _ ⟨_,ME c hc.okc,qc hc⟩
theorem MN{c:A4}(hc:F8 c):QO c (G3 c):=z5 _ _ ⟨_,La c hc.okc,qc hc⟩
theorem Oe{c:A4}(hc:F8 c)(h:(G3 c).2.2.2=0):Fw 1 c (G3 c).2.2.1/\(1<=(G3 c).1/\(G3 c).1<=65535)/\0<=(G3 c).2.1/\(G3 c).2.1<=6:=by
 unfold G3 at h ⊢
 by_cases h0:(C1 c).2.2≠0
 ·rw[if_pos h0]at h;exact absurd h h0
 rw[if_neg h0]at h ⊢
 by_cases h1:(C1 c).1 % 8=7
 ·rw[if_pos h1]at h;exact(by simp at h)
 rw[if_neg h1]at h ⊢
 by_cases h2:(C1 c).1 / 8<1\/65535<(C1 c).1 / 8
 ·rw[if_pos h2]at h;exact(by simp at h)
 rw[if_neg h2];obtain⟨k,u0,u1⟩:=EF hc (Classical.not_not.1 h0);exact⟨k,by simp only;omega,by simp only;omega,by simp only;omega⟩
def F2(c:A4):Int × A4 × Int:=if(C1 c).2.2≠0 then(0,c,(C1 c).2.2) else if H7 (C1 c).2.1.Data (C1 c).2.1.At (C1 c).2.1.End<(C1 c).1 then(0,c,4) else((C1 c).1,(C1 c).2.1,0)
theorem cM{c:A4}(hc:F8 c):wU (H7 c.Data c.At c.End)=H7 c.Data c.At c.End/\0<=H7 c.Data c.At c.End/\H7 c.Data c.At c.End<=65536:=by
 have:=hc.a0;have:=hc.a1;have:=hc.a2;have:=hc.sz;rw[hc.left,wU,Y2 (by omega)];exact⟨rfl,by omega,by omega⟩
theorem qr{c:A4}(hc:F8 c){T:Type}(f:Int × A4 × Int->T):IF ((C1 c).2.2 !=0) (f (F2 c)=f (0,c,(C1 c).2.2)) (∀u,u=H7 (C1 c).2.1.Data (C1 c).2.1.At (C1 c).2.1.End->ID ((wU u)<(C1 c).1) (f (F2 c)=f (0,c,4)) (f (F2 c)=f ((wI (C1 c).1),(C1 c).2.1,0))):=by
 refine⟨λh=>?_,λh u hu=>?_⟩
 ·rw[F2,if_pos (by simpa using h)]
 have h0:(C1 c).2.2=0:=by simpa using h
 obtain⟨k,u0,u1⟩:=EF hc h0;obtain⟨e1,e2,e3⟩:=cM k.snd;subst hu;rw[e1];refine⟨λh1=>?_,λh1=>?_⟩
 ·rw[F2,if_neg (by omega),if_pos (of_decide_eq_true h1)]
 ·have h1:=of_decide_eq_false h1;rw[F2,if_neg (by omega),if_neg h1,wI,C7 (by omega)]
theorem a9f{c:A4}(hc:F8 c)(h:(C1 c).2.2=0):Di (C1 c).2.1 (H7 (C1 c).2.1.Data (C1 c).2.1.At (C1 c).2.1.End):=Dd _ (EF hc h).1.snd.okc
theorem TV(p:A8){c:A4}(hc:F8 c):LK ⟨p,c⟩ (⟨p,(F2 c).2.1⟩,(F2 c).1,(F2 c).2.2):=by
 have w:=qr hc (λq=>((⟨p,q.2.1⟩:B6),(q.1,q.2.2)));exact xk _ _ ⟨_,ME c hc.okc,λh=>w.1 h,λh=>⟨_,a9f hc (by simpa using h),w.2 h _ rfl⟩⟩
theorem WE{c:A4}(hc:F8 c):MO c (F2 c):=by
 have w:=qr hc (λq=>q);exact a3g _ _ ⟨_,La c hc.okc,λh=>w.1 h,λh=>⟨_,Dx _,w.2 h _ rfl⟩⟩
theorem VR{c:A4}(hc:F8 c)(h:(F2 c).2.2=0):Fw 1 c (F2 c).2.1/\0<=(F2 c).1/\(F2 c).1<=(F2 c).2.1.End - (F2 c).2.1.At:=by
 unfold F2 at h ⊢
 by_cases h0:(C1 c).2.2≠0
 ·rw[if_pos h0]at h;exact absurd h h0
 rw[if_neg h0]at h ⊢;obtain⟨k,u0,u1⟩:=EF hc (Classical.not_not.1 h0)
 by_cases h1:H7 (C1 c).2.1.Data (C1 c).2.1.At (C1 c).2.1.End<(C1 c).1
 ·rw[if_pos h1]at h;exact(by simp at h)
 rw[if_neg h1];rw[k.snd.left]at h1;exact⟨k,u0,by simp only;omega⟩
def De(k:Int):Int:=if k=1\/k=4\/k=5\/k=9 then 0 else if k=2\/k=3 then 1 else if k=6 then 2 else if k=7\/k=8 then 3 else if k=10 then 4 else -1
def CL(o:A7):b5n:=(o.C8==4)&&(((decide (1<=o.Kind))&&(decide (o.Kind<=6)))||(o.Kind==9))
def BJ{α:Type}(f:α->Int):Int->b5l α->Int
 |a,[]=>a
 |a,x::l=>BJ f (max a (f x)) l
theorem VP{α:Type}{J:Int->Int->Prop}{C:α->Int->Prop}{E:Int->Prop}(f:α->Int)(s:b5l α)(step:∀i a:Int,((decide (i<(s.length:Int)))=true->∃y3,s[i.toNat]? =some y3/\0<=i/\(∃y4,C y3 y4/\J (wI (i+1)) (max a y4)))/\((decide (i<(s.length:Int)))=false->E a)->J i a)(hs:s.length<=140737488351232)(hC:∀x∈s,C x (f x))(a:Int)(h:E (BJ f a s)):J 0 a:=by
 have key:∀(d i:Nat) (a:Int),s.length - i<=d->i<=s.length->E (BJ f a (s.drop i))->J i a:=by
  intro d
  induction d with
  |zero=>
   intro i a hd hi hE;refine step _ _ ⟨λh=>by simp at h;omega,λ_=>?_⟩;rw[b5d (by omega)]at hE;exact hE
  |succ d ih=>
   intro i a hd hi hE;rcases Nat.lt_or_ge i s.length with hlt|hge
   ·have e1:wI ((i:Int)+1)=((i+1:Nat):Int):=by rw[wI,C7 (by omega)];omega
    have dl:s.drop i=s[i]::s.drop (i+1):=b5c hlt;rw[dl]at hE;refine step _ _ ⟨λ_=>⟨s[i],by simp,by omega,_,hC _ (List.getElem_mem _),?_⟩,λh=>by simp at h;omega⟩;rw[e1];exact ih (i+1) _ (by omega) (by omega) hE
   ·refine step _ _ ⟨λh=>by simp at h;omega,λ_=>?_⟩;rw[b5d hge]at hE;exact hE
 exact key s.length 0 a (by omega) (by omega) (by simpa using h)
def UQ(f:A0->Int)(a:Int)(v:A0):Int:=BJ (λx:Int × A0=>f x.2) (BJ (λx:A0 × A0=>max (f x.1) (f x.2)) (BJ f a v.B8) v.Pairs) v.Slots
def Y5:Nat->A0->Int
 |0,_=>0
 |n+1,v=>if(v.Kind==10)=true then wI (UQ (Y5 n) 0 v+1) else UQ (Y5 n) 0 v
theorem Oi:∀(n:Nat) (v:A0),F1 v->SizeOf.sizeOf v<=n->EA v (Y5 n v)
 |0,v,_,h=>by have:=Ky v;omega
 |n+1,v,hv,hn=>by
  obtain⟨_,_,⟨la,pa,sa,ra⟩,hl,hp,hs⟩:=hv.inv;refine b2y _ _ ?_;refine VP (J:=λi a=>TR i a v (Y5 (n+1) v)) (C:=λ(x:A0) b=>EA x b) (Y5 n) v.B8 (λi a hw=>z9 i a v _ hw) la (λx hx=>Oi n x (hl x hx) (by have:=Kp hx;omega)) _ ?_;refine VP (J:=λi a=>Uv i a v (Y5 (n+1) v)) (C:=λ(x:A0 × A0) b=>∃u w,EA x.1 u/\EA x.2 w/\b=max u w) (λx:A0 × A0=>max (Y5 n x.1) (Y5 n x.2)) v.Pairs (λi a hw=>tT i a v _ ⟨λh=>?_,hw.2⟩) pa (λx hx=>?_) _ ?_
  ·obtain⟨y,h1,h2,b,⟨u,w,c1,c2,rfl⟩,h3⟩:=hw.1 h;exact⟨y,h1,h2,u,c1,y,h1,h2,w,c2,by rw[show max (max a u) w=max a (max u w) by omega];exact h3⟩
  ·have hz:=Kt hx;exact⟨_,_,Oi n _ (hp x hx).1 (by omega),Oi n _ (hp x hx).2 (by omega),rfl⟩
  refine VP (J:=λi a=>TF i a v (Y5 (n+1) v)) (C:=λ(x:Int × A0) b=>EA x.2 b) (λx:Int × A0=>Y5 n x.2) v.Slots (E:=λa=>((v.Kind==10)=true->Y5 (n+1) v=wI (a+1))/\((v.Kind==10)=false->Y5 (n+1) v=a)) (λi a hw=>xc i a v _ hw) sa (λx hx=>Oi n _ (hs x hx) (by have:=Kx hx;omega)) _ ?_;exact⟨λh=>by rw[Y5,if_pos h];rfl,λh=>by rw[Y5,if_neg (nt h)];rfl⟩
theorem dB(b:Int):Ex yes (US b):=D5 (a52 _) (E7 trivial)
theorem cQ(b:Int):Ex yes (Up b):=D5 (vJ _) (E7 trivial)
theorem a8q(s:b5k)(hs:s.size<=140737488351232):∀i:Nat,Ex yes (Nt (i:Int) s):=by
 refine N8 (s.size) (λi hi ih=>?_) (λi hi=>?_)
 ·refine D5 (nw _ _) ?_;rw[H8 (by omega)]
  repeat' first|exact E7 trivial|exact ih|assumption|refine G2 ?_|refine E6 (λh=>?_) (λh=>?_)|refine G9 (λh=>?_) (λh=>?_)|refine E4 _ (λh=>?_) (λh=>?_)|refine F4 (by omega) (λy hy hm=>?_)|refine F6 (by omega) ?_|refine L0 (dB _) (λy hq=>?_)|refine L0 (cQ _) (λy hq=>?_)
 ·refine D5 (nw _ _) ?_
  repeat' first|exact E7 trivial|exact ih|assumption|exact absurd ‹_› (by omega)|(exfalso;omega)|refine G2 ?_|refine E6 (λh=>?_) (λh=>?_)|refine G9 (λh=>?_) (λh=>?_)|refine E4 _ (λh=>?_) (λh=>?_)|refine F4 (by omega) (λy hy hm=>?_)|refine F6 (by omega) ?_|refine L0 (dB _) (λy hq=>?_)|refine L0 (cQ _) (λy hq=>?_)
theorem aY(s:b5k)(hs:s.size<=140737488351232):Ex yes (QC s):=by
 refine D5 (b10 _) ?_
 repeat' first|exact E7 trivial|exact ih|assumption|exact a8q s hs 1|refine G2 ?_|refine E6 (λh=>?_) (λh=>?_)|refine G9 (λh=>?_) (λh=>?_)|refine E4 _ (λh=>?_) (λh=>?_)|refine F4 (by first|omega|(simp only[Bool.or_eq_false_iff,Bool.or_eq_true,b47,Bool.and_eq_false_iff,beq_iff_eq,beq_eq_false_iff_ne,b46,b45,ne_eq]at*;omega)) (λy hy hm=>?_)|refine F6 (by first|omega|(simp only[Bool.or_eq_false_iff,Bool.or_eq_true,b47,Bool.and_eq_false_iff,beq_iff_eq,beq_eq_false_iff_ne,b46,b45,ne_eq]at*;omega)) ?_|refine L0 (dB _) (λy hq=>?_)|refine L0 (cQ _) (λy hq=>?_)
theorem fG(s:b5k):Ex yes (UE s):=by
 refine D5 (yA _) ?_
 repeat' first|exact E7 trivial|exact ih|assumption|refine G2 ?_|refine E6 (λh=>?_) (λh=>?_)|refine G9 (λh=>?_) (λh=>?_)|refine E4 _ (λh=>?_) (λh=>?_)|refine F4 (by omega) (λy hy hm=>?_)|refine F6 (by omega) ?_
theorem a7n(s:b5k)(hs:s.size<=140737488351232):∀i:Nat,∀w:b5k,w.size<=i/\i<=140737488351232->Ex yes (PS (i:Int) w s):=by
 refine N8 s.size (λi hi ih w hw=>?_) (λi hi w hw=>?_)
 ·have hz:(s.extract ((i:Int)).toNat (((i+1:Nat):Int)).toNat).size<=1:=by rw[EB _ (by omega)];omega
  refine D5 (pf _ _ _) ?_;rw[H8 (by omega)]
  repeat' first|exact E7 trivial|exact ih|assumption|exact ih _ (by rw[b1j];omega)|exact ih ⟨#[]⟩ ⟨Nat.zero_le _,by omega⟩|refine G2 ?_|refine E6 (λh=>?_) (λh=>?_)|refine G9 (λh=>?_) (λh=>?_)|refine E4 _ (λh=>?_) (λh=>?_)|refine F4 (by omega) (λy hy hm=>?_)|refine F6 (by omega) ?_|refine L0 (aY _ (by omega)) (λy hq=>?_)
 ·refine D5 (pf _ _ _) ?_
  repeat' first|exact E7 trivial|exact ih|assumption|exact absurd ‹_› (by omega)|refine G2 ?_|refine E6 (λh=>?_) (λh=>?_)|refine G9 (λh=>?_) (λh=>?_)|refine E4 _ (λh=>?_) (λh=>?_)|refine F4 (by omega) (λy hy hm=>?_)|refine F6 (by omega) ?_|refine L0 (aY _ (by omega)) (λy hq=>?_)
theorem a4j(s:b5k)(hs:s.size<=140737488351232):Ex yes (dq s):=by
 refine D5 (a3k _) ?_
 repeat' first|exact E7 trivial|exact ih|assumption|exact a7n s hs 0 ⟨#[]⟩ ⟨Nat.zero_le _,by omega⟩|refine G2 ?_|refine E6 (λh=>?_) (λh=>?_)|refine G9 (λh=>?_) (λh=>?_)|refine E4 _ (λh=>?_) (λh=>?_)|refine F4 (by omega) (λy hy hm=>?_)|refine F6 (by omega) ?_
def RP(s:b5k)(r:b5k × b5k):Prop:=r.1.size<=s.size - 1
theorem yH(s:b5k)(hs:s.size<=140737488351232):∀k:Nat,k<=s.size->Ex (RP s) (Uo ((k:Int) - 1) s):=by
 intro k
 induction k with
 |zero=>exact λ_=>D5 (oj _ _) (E6 (λh=>absurd h (by omega)) λ_=>E7 (Nat.zero_le _))
 |succ k ih=>
  intro hk;have e:wI (((k+1:Nat):Int) - 1 - 1)=(k:Int) - 1:=by rw[wI,C7 (by omega)];omega
  refine D5 (oj _ _) ?_;rw[e];refine E6 (λh=>F6 (by omega) (E4 _ (λ_=>F6 (by omega) (F6 ?_ (E7 ?_))) λ_=>ih (by omega))) λh=>absurd (show(0:Int)<=((k+1:Nat):Int) - 1 by omega) h
  ·rw[wI,C7 (by omega)];omega
  ·unfold RP;simp only;rw[EB _ (by omega)];omega
theorem a19(s:b5k)(hs:s.size<=140737488351232):Ex (RP s) (bY s):=by
 refine D5 (b1m _) ?_;rw[wI,C7 (by omega)];exact yH s hs s.size (Nat.le_refl _)
theorem a79{s:b5k}(h:s.size=0):s=⟨#[]⟩:=ByteArray.ext (Array.eq_empty_of_size_eq_zero h)
theorem a02:∀n:Nat,∀s:b5k,s.size<=n->n<=140737488351232->Ex yes (RY s):=by
 intro n
 induction n with
 |zero=>
  intro s h _;refine D5 (gQ _) (G9 (λh0=>?_) λ_=>E7 trivial);exact absurd (a79 (by omega)) h0
 |succ n ih=>
  intro s h hn;refine D5 (gQ _) (G9 (λh0=>?_) λ_=>E7 trivial);refine L0 (a19 s (by omega)) λy hy=>L0 (fG _) λy2 _=>E4 _ (λ_=>E7 trivial) λ_=>?_
  unfold RP at hy;exact ih _ (by omega) (by omega)
theorem TO(s:b5k)(hs:s.size<=140737488351232):Ex yes (SA s):=by
 refine D5 (a33 _) ?_
 repeat' first|exact E7 trivial|exact ih|assumption|exact a02 _ s (Nat.le_refl _) hs|refine G2 ?_|refine E6 (λh=>?_) (λh=>?_)|refine G9 (λh=>?_) (λh=>?_)|refine E4 _ (λh=>?_) (λh=>?_)|refine F4 (by omega) (λy hy hm=>?_)|refine F6 (by omega) ?_|refine L0 (a4j s hs) (λy hq=>?_)
theorem Rh(s:b5k)(hs:s.size<=140737488351232):Ex yes (Ux s):=by
 refine D5 (b9 _) ?_
 repeat' first|exact E7 trivial|exact ih|assumption|refine G2 ?_|refine E6 (λh=>?_) (λh=>?_)|refine G9 (λh=>?_) (λh=>?_)|refine E4 _ (λh=>?_) (λh=>?_)|refine F4 (by omega) (λy hy hm=>?_)|refine F6 (by omega) ?_|refine L0 (aY s hs) (λy hq=>?_)|refine L0 (fG s) (λy hq=>?_)
structure TH(o:A7):Prop where
 num:I64 o.Num
 name:Sz o.Name.size
 b4x:Sz o.Alias.size
 card:I64 o.C8
 key:I64 o.Key
 kind:I64 o.Kind
 target:I64 o.Target
 union:I64 o.Union
structure Dg(g:B7):Prop where
 name:Sz g.Name.size
 n:Sz g.Ops.length
 ops:∀o∈g.Ops,TH o
 b41:I64 g.eh
structure JQ(n:AB):Prop where
 name:Sz n.Name.size
 val:F1 n.Val
structure eQ(x:AU):Prop where
 name:Sz x.Name.size
 num:I64 x.Num
 nn:Sz x.Notes.length
 notes:∀n∈x.Notes,JQ n
structure di(x:Be):Prop where
 from_:I64 x.From
 to_:I64 x.To
structure Eb(e:N4):Prop where
 name:Sz e.Name.size
 ni:Sz e.Items.length
 items:∀x∈e.Items,eQ x
 nr:Sz e.Reserved.length
 reserved:∀x∈e.Reserved,di x
 nn:Sz e.Notes.length
 notes:∀x∈e.Notes,JQ x
structure FO(p:A8):Prop where
 np:Sz p.B3.length
 CE:∀g∈p.B3,Dg g
 ne:Sz p.D8.length
 enums:∀e∈p.D8,Eb e
section
variable {n:Nat}{avs:b5l AV}{av:AV}
theorem b3q(h:Ty Tryz.prog n 74 avs):∃x,avs=BG x/\JQ x:=by
 obtain⟨m,rfl,a1,b1,rfl,h1,a2,b2,rfl,h2,rfl⟩:=Dt (ts:=[9,42]) (by kernel_rfl) h;obtain⟨x1,rfl,k1⟩:=Fp (by kernel_rfl) h1;obtain⟨x2,rfl,k2⟩:=a16 _ _ h2;exact⟨⟨x1,x2⟩,by rw[EM];rfl,⟨k1,k2⟩⟩
theorem ic{t:TypeId}(hu:Tryz.prog.underlying t=some (.slice 74))(h:Ty Tryz.prog n t avs):∃l:b5l AB,avs=[.sl (l.map BG) .no]/\Sz l.length/\∀x∈l,JQ x:=Lo hu (of_decide_eq_true (by kernel_rfl)) (λk a hk ha=>b3q ha) h
theorem zO(h:Ty Tryz.prog n 69 avs):∃x,avs=Z0 x/\eQ x:=by
 obtain⟨m,rfl,a1,b1,rfl,h1,a2,b2,rfl,h2,a3,b3,rfl,h3,rfl⟩:=Dt (ts:=[9,3,64]) (by kernel_rfl) h;obtain⟨x1,rfl,k1⟩:=Fp (by kernel_rfl) h1;obtain⟨x2,rfl,k2⟩:=Bx (by kernel_rfl) h2;obtain⟨x3,rfl,n3,k3⟩:=ic (by kernel_rfl) h3;exact⟨⟨x1,x2,x3⟩,rfl,⟨k1,k2,n3,k3⟩⟩
theorem b2a(h:Ty Tryz.prog n 72 avs):∃x,avs=Bn x/\di x:=by
 obtain⟨m,rfl,a1,b1,rfl,h1,a2,b2,rfl,h2,rfl⟩:=Dt (ts:=[3,3]) (by kernel_rfl) h;obtain⟨x1,rfl,k1⟩:=Bx (by kernel_rfl) h1;obtain⟨x2,rfl,k2⟩:=Bx (by kernel_rfl) h2;exact⟨⟨x1,x2⟩,rfl,⟨k1,k2⟩⟩
theorem a9t(h:Ty Tryz.prog n 66 avs):∃x,avs=U1 x/\Eb x:=by
 obtain⟨m,rfl,a1,b1,rfl,h1,a2,b2,rfl,h2,a3,b3,rfl,h3,a4,b4,rfl,h4,a5,b5,rfl,h5,rfl⟩:=Dt (ts:=[9,4,62,63,64]) (by kernel_rfl) h;obtain⟨x1,rfl,k1⟩:=Fp (by kernel_rfl) h1;obtain⟨x2,rfl⟩:=a4c (by kernel_rfl) h2;obtain⟨x3,rfl,n3,k3⟩:=Lo (e:=69) (enc:=Z0) (Ok:=eQ) (by kernel_rfl) (of_decide_eq_true (by kernel_rfl)) (λk a hk ha=>zO ha) h3;obtain⟨x4,rfl,n4,k4⟩:=Lo (e:=72) (enc:=Bn) (Ok:=di) (by kernel_rfl) (of_decide_eq_true (by kernel_rfl)) (λk a hk ha=>b2a ha) h4;obtain⟨x5,rfl,n5,k5⟩:=ic (by kernel_rfl) h5;exact⟨⟨x1,x2,x3,x4,x5⟩,rfl,⟨k1,n3,k3,n4,k4,n5,k5⟩⟩
theorem a8d(h:Ty Tryz.prog n 49 avs):∃x,avs=E2 x/\TH x:=by
 obtain⟨m,rfl,a1,b1,rfl,h1,a2,b2,rfl,h2,a3,b3,rfl,h3,a4,b4,rfl,h4,a5,b5,rfl,h5,a6,b6,rfl,h6,a7,b7,rfl,h7,a8,b8,rfl,h8,rfl⟩:=Dt (ts:=[3,9,9,3,3,3,3,3]) (by kernel_rfl) h;obtain⟨x1,rfl,k1⟩:=Bx (by kernel_rfl) h1;obtain⟨x2,rfl,k2⟩:=Fp (by kernel_rfl) h2;obtain⟨x3,rfl,k3⟩:=Fp (by kernel_rfl) h3;obtain⟨x4,rfl,k4⟩:=Bx (by kernel_rfl) h4;obtain⟨x5,rfl,k5⟩:=Bx (by kernel_rfl) h5;obtain⟨x6,rfl,k6⟩:=Bx (by kernel_rfl) h6;obtain⟨x7,rfl,k7⟩:=Bx (by kernel_rfl) h7;obtain⟨x8,rfl,k8⟩:=Bx (by kernel_rfl) h8;exact⟨⟨x1,x2,x3,x4,x5,x6,x7,x8⟩,rfl,⟨k1,k2,k3,k4,k5,k6,k7,k8⟩⟩
theorem b3t(h:Ty Tryz.prog n 52 avs):∃x,avs=F9 x/\Dg x:=by
 obtain⟨m,rfl,a1,b1,rfl,h1,a2,b2,rfl,h2,a3,b3,rfl,h3,rfl⟩:=Dt (ts:=[9,50,3]) (by kernel_rfl) h;obtain⟨x1,rfl,k1⟩:=Fp (by kernel_rfl) h1;obtain⟨x2,rfl,n2,k2⟩:=Lo (e:=49) (enc:=E2) (Ok:=TH) (by kernel_rfl) (of_decide_eq_true (by kernel_rfl)) (λk a hk ha=>a8d ha) h2;obtain⟨x3,rfl,k3⟩:=Bx (by kernel_rfl) h3;exact⟨⟨x1,x2,x3⟩,rfl,⟨k1,n2,k2,k3⟩⟩
theorem a7x(h:Ty Tryz.prog n 25 avs):∃x,avs=D0 x/\FO x:=by
 obtain⟨m,rfl,a1,b1,rfl,h1,a2,b2,rfl,h2,rfl⟩:=Dt (ts:=[22,23]) (by kernel_rfl) h;obtain⟨x1,rfl,n1,k1⟩:=Lo (e:=52) (enc:=F9) (Ok:=Dg) (by kernel_rfl) (of_decide_eq_true (by kernel_rfl)) (λk a hk ha=>b3t ha) h1;obtain⟨x2,rfl,n2,k2⟩:=Lo (e:=66) (enc:=U1) (Ok:=Eb) (by kernel_rfl) (of_decide_eq_true (by kernel_rfl)) (λk a hk ha=>a9t ha) h2;exact⟨⟨x1,x2⟩,rfl,⟨n1,k1,n2,k2⟩⟩
theorem a49(h:Kl Tryz.prog n 25 av):∃x,av=.agg (D0 x)/\FO x:=by
 obtain⟨avs,rfl,g⟩:=a3x (ts:=[22,23]) (by kernel_rfl) h;obtain⟨x,rfl,k⟩:=a7x g;exact⟨x,rfl,k⟩
end
end Go.Proofs.YtlcmiciojnnlnaaGreatDoor.Lift
