/- Part 2 of the texts that prove VerifyDepthEnd. -/
import Derived.Test.YtlcmiciojnnlnaaGreatDoorVerifyDepthEndP0
import Derived.Orders
import Derived.ScopeJumps
namespace Go.Proofs.YtlcmiciojnnlnaaGreatDoor.Lift
open Go.RowKit
set_option linter.unusedVariables false
set_option linter.unusedSimpArgs false
set_option linter.unnecessarySimpa false
set_option linter.unusedSectionVars false
set_option maxRecDepth 100000
inductive B9 where
 |t (n:Nat)
 |c (a:AV)
def B9.ev(env:Env):B9->b5m AV
 |.t n=>get env n
 |.c a=>some a
def Sa:Value->b5m AV
 |.slice none 0 0=>some .nil
 |.func fn a b=>if a.size=0/\b.size=0 then some (.clo fn [] []) else none
 |x=>if Fh x then some (.v x) else none
def Dv:b5l Value->b5m (b5l AV)
 |[]=>some []
 |v::l=>(Sa v).bind λa=>(Dv l).map λr=>a::r
def Qw:Value->b5m AV
 |.agg cs=>(Dv cs.toList).map .agg
 |x=>Sa x
inductive I7 where
 |mv (x:B9)
 |pick (c a b:B9)
 |alloc (cells:List AV)
 |box (x:B9)
 |build (zero:List AV) (parts:List ((Nat × Nat) × B9))
 |Ep (size len:Nat) (zeros:List AV) (parts:List ((Nat × Nat) × B9))
 |load (n:Option Nat) (x:B9)
 |store (size:Nat) (p x:B9)
 |nilCheck (x:B9)
 |bin (op:BinOp) (x y:B9)
 |eq (c:HB) (yes:Bool) (x y:B9)
 |un (op:UnOp) (x:B9)
 |conv (c:CK) (x:B9)
 |iface (t:TypeId) (x:B9)
 |func (fn:Fn) (first captured:List B9)
 |Bz (x:B9) (lo hi:Option B9)
 |Ao (size:Nat) (x:B9) (lo hi mx:Option B9)
 |fieldAddr (off:Nat) (x:B9)
 |field (n:Option Nat) (off:Nat) (x:B9)
 |Ck (x i:B9)
 |HS (len size:Nat) (n:Option Nat) (x i:B9)
 |Bg (size:Nat) (x i:B9)
 |Er (len size:Nat) (x i:B9)
 |BC (t:TypeId) (ok:Bool) (zero:AV) (x:B9)
 |extract (i:Nat) (x:B9)
 |len (str:Bool) (x:B9)
 |append (e:TypeId) (size bytes:Nat) (x y:B9)
 |call (f:B9) (args:List B9)
 |bytes (x:B9)
 |AN (mx:Bool) (args:List B9)
 |make (size bytes:Nat) (zero:List AV) (len cap:B9)
 |range (x:B9)
 |next (x:B9)
 |bad
 |HC
 |lookup (i ok:Bool) (zero:AV) (x k:B9)
 |mapset (i:Bool) (m k v:B9)
 |HP (e u:TypeId)
 |HN (x:B9)
 |GJ (u:TypeId) (p n:B9)
 |GC (cnt:Bool) (s c:B9)
 |GD (u:TypeId) (n:B9)
 |cap0 (x:B9)
 |HH (x y:B9)
 |clear (size:Nat) (zero:List AV) (x:B9)
def au(h:A3)(x:AV)(K:AV->A3->Prop):Prop:=
 match x with
 |.v (.string s)=>K (.sl (S5 s.data.toList) .no) h
 |_=>False
def W8(size len:Nat)(zero:b5l AV):b5l AV:=(List.range (len*size)).map λi=>zero.getD (i % size) .nil
def MV(h:A3)(size bytes:Nat)(zero:b5l AV)(x y:AV)(K:AV->A3->Prop):Prop:=
 match x,y with
 |.v (.int _ l),.v (.int _ c)=>(0<=l/\l<=c/\c*bytes<=140737488355328)/\K (.row h.A5.length 0 size l.toNat c.toNat) ⟨h.A5++[some (W8 size c.toNat zero)],h.A9,h.B0⟩
 |_,_=>False
def RH(h:A3)(size bytes:Nat)(x y:AV)(K:AV->A3->Prop):Prop:=
 match x,y with
 |.v (.int _ l),.v (.int _ c)=>(l=0/\0<=c/\c*bytes<=140737488355328/\size=1)/\K (.sl [] (.own h.A9.length)) ⟨h.A5,h.A9++[(0,1)],h.B0⟩
 |_,_=>False
def Yb(h:A3)(x:AV)(K:AV->A3->Prop):Prop:=
 match x with
 |.v (.string s)=>K (.ptr h.A5.length 0) ⟨h.A5++[some [.it s 0]],h.A9,h.B0⟩
 |_=>False
def Lu(h:A3)(x:AV)(K:AV->A3->Prop):Prop:=
 match x with
 |.ptr n 0=>match h.A5[n]? with
  |some (some [.it s p])=>(p<s.size->K (.tuple [.v (.bool true),.v (.int .i64 p),.v (.int .i32 (Utf8.decode s p).1)]) ⟨h.A5.set n (some [.it s (p+(Utf8.decode s p).2)]),h.A9,h.B0⟩)/\(¬p<s.size->K (.tuple [.v (.bool false)]) h)
  |_=>False
 |_=>False
def EO:b5n->Value->b5n
 |false,.string _=>true
 |true,.int _ _=>true
 |_,_=>false
def FP:Value->Value->b5m b5n
 |.string s,.string t=>some (s==t)
 |.int k m,.int k' n=>if k=k' then some (m==n) else none
 |_,_=>none
def IK(q:Value):b5l AV->b5m (b5m AV)
 |[]=>some none
 |p::r=>match p with
  |.tuple [.v t,v]=>match FP q t with
   |some true=>some (some v)
   |some false=>IK q r
   |none=>none
  |_=>none
def Iw(q:Value)(v:AV):b5l AV->b5m (b5l AV)
 |[]=>some [.tuple [.v q,v]]
 |p::r=>match p with
  |.tuple [.v t,w]=>match FP q t with
   |some true=>some (.tuple [.v q,v]::r)
   |some false=>(Iw q v r).map λl=>.tuple [.v t,w]::l
   |none=>none
  |_=>none
def RM(ok:b5n)(zero:AV)(r:b5m AV):AV:=if ok=true then .tuple [r.getD zero,.v (.bool r.isSome)] else r.getD zero
def Qi(h:A3)(i ok:b5n)(zero x k:AV)(K:AV->Prop):Prop:=
 match k with
 |.v q=>EO i q/\match x with
  |.mp n=>match h.A5[n]? with
   |some (some [.tuple l])=>match IK q l with
    |some r=>K (RM ok zero r)
    |none=>False
   |_=>False
  |.v (.map none)=>K (RM ok zero none)
  |_=>False
 |_=>False
def Nz(h:A3)(i:b5n)(m k v:AV)(K:A3->Prop):Prop:=
 match k with
 |.v q=>EO i q/\match m with
  |.mp n=>match h.A5[n]? with
   |some (some [.tuple l])=>match Iw q v l with
    |some l'=>K ⟨h.A5.set n (some [.tuple l']),h.A9,h.B0⟩
    |none=>False
   |_=>False
  |_=>False
 |_=>False
def Ij(h:A3)(x:AV):AV:=match x with
 |.F5 n=>match h.B0.find? (λp=>p.1==n) with
  |some p=>.G6 p.2 0
  |none=>.F5 n
 |x=>x
def Pm(o:b5m Value)(K:Value->Prop):Prop:=
 match o with
 |some v=>K v
 |none=>False
def CA(mx:b5n):b5l AV->b5m Value
 |[.v (.int k x)]=>some (.int k x)
 |.v (.int k x)::.v (.int _ y)::r=>CA mx (.v (.int k (if mx then(if y>x then y else x) else(if y<x then y else x)))::r)
 |_=>none
 termination_by l=>l.length
def wv(o:b5m AV)(K:AV->Prop):Prop:=
 match o with
 |some a=>K a
 |none=>False
def evs(env:Env):b5l B9->b5m (b5l AV)
 |[]=>some []
 |x::r=>match x.ev env,evs env r with
  |some a,some l=>some (a::l)
  |_,_=>none
def J2(env:Env):b5m B9->b5m (b5m AV)
 |none=>some none
 |some x=>match x.ev env with
  |some a=>some (some a)
  |none=>none
def X9(env:Env):b5l ((Nat × Nat) × B9)->b5m (b5l ((Nat × Nat) × AV))
 |[]=>some []
 |(k,x)::r=>match x.ev env,X9 env r with
  |some a,some l=>some ((k,a)::l)
  |_,_=>none
def U3(σ:Sg)(l:b5l AV)(xs:b5l Value):Prop:=xs.length=l.length/\∀(i:Nat) (av:AV),l[i]? =some av->∃x,xs[i]? =some x/\Rel σ av x
def Yy(P:Program)(f:FuncId):Prop:=∃fn,P.funcs[f]? =some fn/\fn.body.isNone=false/\(fn.name== "runtime.NumGoroutine")=false
def AF(P:Program)(f:FuncId)(args:b5l AV)(h:A3)(K:AV->A3->Prop):Prop:=
 Yy P f/\∀(σ:Sg) (cargs:Array Value),Inv h σ->U3 σ args cargs.toList->
  Calls P f cargs σ.w λe w'=>∃σ' h' av x,e=.returned x/\σ'.w=w'/\Le σ σ'/\Inv h' σ'/\Rel σ' av x/\K av h'
def Ga(c:AV)(a b:Prop):Prop:=
 match c with
 |.v (.bool t)=>(t=true->a)/\(t=false->b)
 |_=>False
def YM(a:AV)(K:Prop):Prop:=
 match a with
 |.ptr _ _=>K
 |.G6 _ _=>K
 |.clo (.func _) _ _=>K
 |_=>False
def LL(P:Program)(t:TypeId)(name:String):b5m FuncId:=
 (P.info? t).bind λi=>(i.methods.find? (·.name==name)).bind λm=>if m.path.isEmpty=true then match m.func,P.underlying t with
  |some (_,false),some (.pointer _)=>none
  |some (f,false),some _=>some f
  |_,_=>none
 else none
def kV(P:Program)(name:String):b5l AV:=(List.range P.types.size).filterMap λt=>(LL P t name).map λg=>.iface t (.clo (.func g) [] [])
def Hg:b5l AV->TypeId->b5m FuncId
 |.iface t (.clo (.func g) _ _)::r,u=>if t=u then some g else Hg r u
 |_::r,u=>Hg r u
 |[],_=>none
theorem aD{P:Program}{name:String}{t:TypeId}{g:FuncId}:∀{l:b5l Nat},Hg (l.filterMap λt=>(LL P t name).map λg=>AV.iface t (.clo (.func g) [] [])) t=some g->LL P t name=some g
 |[],h=>by cases h
 |u::l,h=>by
  rw[List.filterMap_cons]at h;cases hd:LL P u name with
  |none=>rw[hd]at h;exact aD h
  |some f=>
   rw[hd]at h;simp only[Option.map_some,Hg]at h;split at h
   ·rename_i hu;cases h;rw[<-hu];exact hd
   ·exact aD h
def EC(P:Program)(f:AV)(l:b5m (b5l AV))(h:A3)(K:AV->A3->Prop):Prop:=
 match f,l with
 |.clo (.func g) first captured,some l=>AF P g (first++l++captured) h K
 |.agg [.tuple tab],some (.iface t x::l)=>match Hg tab t with
  |some g=>AF P g (x::l) h K
  |none=>False
 |_,_=>False
def E9(P:Program)(o:I7)(env:Env)(h:A3)(K:AV->A3->Prop):Prop:=
 match o with
 |.mv x=>wv (x.ev env) λa=>K a h
 |.pick c a b=>wv (c.ev env) λc=>Ga c (wv (a.ev env) λa=>K a h) (wv (b.ev env) λb=>K b h)
 |.alloc cells=>K (.ptr h.A5.length 0) ⟨h.A5++[some cells],h.A9,h.B0⟩
 |.box x=>wv (x.ev env) λa=>a.isTuple=false/\K (.ptr h.A5.length 0) ⟨h.A5++[some a.cells],h.A9,h.B0⟩
 |.build zero parts=>match X9 env parts with
  |some ps=>match Bf zero ps with
   |some cells=>K (.agg cells) h
   |none=>False
  |none=>False
 |.Ep size len zeros parts=>match X9 env parts with
  |some ps=>match Bf zeros ps with
   |some cells=>cells.length=len*size/\K (.sl (DJ size len (cells.map P6)) .full) h
   |none=>False
  |none=>False
 |.load n x=>wv (x.ev env) λp=>Cy h n p λa=>K a h
 |.store size p x=>wv (p.ev env) λp=>wv (x.ev env) λx=>Da h size p x λh'=>K (.tuple []) h'
 |.nilCheck x=>wv (x.ev env) λa=>YM a (K a h)
 |.bin op x y=>wv (x.ev env) λx=>wv (y.ev env) λy=>MC op x y λa=>K a h
 |.eq c yes x y=>wv (x.ev env) λx=>wv (y.ev env) λy=>Ee c x y λb=>K (.v (.bool (if yes then b else !b))) h
 |.un op x=>wv (x.ev env) λx=>VT op x λa=>K a h
 |.conv c x=>wv (x.ev env) λx=>Nw c x λa=>K a h
 |.iface t x=>wv (x.ev env) λa=>K (.iface t a) h
 |.func fn first captured=>match evs env first,evs env captured with
  |some f,some c=>K (.clo fn f c) h
  |_,_=>False
 |.Bz x lo hi=>wv (x.ev env) λx=>match J2 env lo,J2 env hi with
  |some lo,some hi=>Mb x lo hi λa=>K a h
  |_,_=>False
 |.Ao size x lo hi mx=>wv (x.ev env) λx=>match J2 env lo,J2 env hi,J2 env mx with
  |some lo,some hi,some mx=>Ca size x lo hi mx λa=>K a h
  |_,_,_=>False
 |.fieldAddr off x=>wv (x.ev env) λx=>Na off x λa=>K a h
 |.field n off x=>wv (x.ev env) λx=>NA n off x λa=>K a h
 |.Ck x i=>wv (x.ev env) λx=>wv (i.ev env) λi=>NQ x i λa=>K a h
 |.HS len size n x i=>wv (x.ev env) λx=>wv (i.ev env) λi=>RL len size n x i λa=>K a h
 |.Bg size x i=>wv (x.ev env) λx=>wv (i.ev env) λi=>MF size x i λa=>K a h
 |.Er len size x i=>wv (x.ev env) λx=>wv (i.ev env) λi=>Uu len size (Ij h x) i λa=>K a h
 |.BC t ok zero x=>wv (x.ev env) λx=>Ay t ok zero x λa=>K a h
 |.extract i x=>wv (x.ev env) λx=>QY i x λa=>K a h
 |.len str x=>wv (x.ev env) λx=>LI str x λa=>K a h
 |.append e size bytes x y=>wv (x.ev env) λx=>wv (y.ev env) λy=>EV h size bytes x y K\/Mz h size bytes x y K\/OG h e size bytes x y K
 |.call f args=>wv (f.ev env) λf=>EC P f (evs env args) h K
 |.bytes x=>wv (x.ev env) λx=>au h x K
 |.AN mx args=>match evs env args with
  |some l=>Pm (CA mx l) λv=>K (.v v) h
  |none=>False
 |.make size bytes zero x y=>wv (x.ev env) λx=>wv (y.ev env) λy=>MV h size bytes zero x y K\/RH h size bytes x y K
 |.range x=>wv (x.ev env) λx=>Yb h x K
 |.next x=>wv (x.ev env) λx=>Lu h x K
 |.bad=>False
 |.HC=>K (.mp h.A5.length) ⟨h.A5++[some [.tuple []]],h.A9,h.B0⟩
 |.lookup i ok zero x k=>wv (x.ev env) λx=>wv (k.ev env) λk=>Qi h i ok zero x k λa=>K a h
 |.mapset i m k v=>wv (m.ev env) λm=>wv (k.ev env) λk=>wv (v.ev env) λv=>Nz h i m k v λh'=>K (.tuple []) h'
 |.HP e u=>K (.ptr h.A5.length 0) ⟨h.A5++[some [.ps h.A5.length e,.bb .nil [] u]],h.A9,h.B0⟩
 |.HN x=>wv (x.ev env) λx=>WM x λa=>K a h
 |.GJ u p n=>wv (p.ev env) λp=>wv (n.ev env) λn=>SN h u p n λa=>K a h
 |.GC cnt s c=>wv (s.ev env) λs=>wv (c.ev env) λc=>MZ (if cnt then Ui else SX) s c λa=>K a h
 |.GD u n=>wv (n.ev env) λn=>Rf h u n K
 |.cap0 x=>wv (x.ev env) λx=>WO x λa=>K a h
 |.HH x y=>wv (x.ev env) λx=>wv (y.ev env) λy=>Wr x y λa=>K a h
 |.clear size zero x=>wv (x.ev env) λx=>Ns h size zero x λh'=>K (.tuple []) h'
section
variable (P:Program)
def G1:Operand->b5m B9
 |.tmp t=>some (.t t)
 |.const v=>(Qw v).map .c
 |.func f=>some (.c (.clo (.func f) [] []))
 |.global g=>some (.c (.F5 g))
def Dk:b5l Operand->b5m (b5l B9)
 |[]=>some []
 |x::r=>(G1 x).bind λa=>(Dk r).map λl=>a::l
def Gq:b5m Operand->b5m (b5m B9)
 |none=>some none
 |some x=>(G1 x).map some
def qV(fs:Array Field)(i:Nat):b5m (Nat × Nat):=(fs[i]?).bind λf=>(P.info? f.type).map λfi=>(f.offset,fi.size)
def JU(S4:Nat->b5m (Nat × Nat)):b5l (Nat × Operand)->b5m (b5l ((Nat × Nat) × B9))
 |[]=>some []
 |(i,x)::r=>(S4 i).bind λk=>(G1 x).bind λa=>(JU S4 r).map λl=>(k,a)::l
def BN(t:TypeId):b5m Value:=(P.info? t).bind (·.zero)
def cW(s d:TypeId):b5n:=
 match P.underlying s,P.underlying d with
 |some .string,some (.slice e)=>match P.underlying e with
  |some (.int .u8)=>true
  |_=>false
 |_,_=>false
def bK(e:TypeId):b5m TypeId:=
 match P.underlying e with
 |some (.struct fs)=>match fs.toList with
  |[f,g]=>match P.underlying f.type,P.underlying g.type with
   |some (.pointer t),some (.slice u)=>match P.underlying u,BN P e with
    |some (.int .u8),some (.agg cs)=>match cs.toList with
     |[.pointer none,.slice none 0 0]=>if t=e/\P.cellsOf u=1 then some u else none
     |_=>none
    |_,_=>none
   |_,_=>none
  |_=>none
 |_=>none
theorem a3h{e u:TypeId}(h:bK P e=some u):BN P e=some (.agg #[.pointer none,.slice none 0 0]):=by
 unfold bK at h;split at h
 ·split at h
  ·split at h
   ·split at h
    ·rename_i cs _ hz;split at h
     ·rename_i hcs;rw[hz]
      congr 2
      apply Array.ext';exact hcs
     ·cases h
    ·cases h
   ·cases h
  ·cases h
 ·cases h
def Lp(t:TypeId):b5m b5n:=match P.underlying t with
 |some .string=>some false
 |some (.int _)=>some true
 |_=>none
def XL:B9->b5n
 |.c (.v (.bool false))=>true
 |_=>false
def Yk:b5l AV->b5l ((Nat × Nat) × B9)->b5n
 |[.v (.bool false)],ps=>ps.all λp=>XL p.2
 |_,_=>false
inductive XK where
 |find|cnt|make (u:TypeId)
def MU(f:Operand):b5m XK:=
 match f with
 |.func g=>match P.funcs[g]? with
  |some fn=>if fn.body.isNone/\(Extern.findNext fn).isNone=true then
   if fn.name= "internal/bytealg.IndexByteString" then some .find
   else if fn.name= "internal/bytealg.CountString" then some .cnt
   else if fn.name= "internal/bytealg.MakeNoZero" then match fn.resultTypes.toList with
    |[t]=>match P.underlying t with
     |some (.slice u)=>some (.make u)
     |_=>none
    |_=>none
   else none
   else none
  |none=>none
 |_=>none
def Xf(c:Call):b5m I7:=
 match c.callee with
 |.builtin .len=>match c.args.toList,c.argTypes.toList with
  |[x],[t]=>(lenOf P t).bind λs=>(G1 x).map λx=>.len s x
  |_,_=>none
 |.builtin .append=>match c.args.toList,c.argTypes.toList with
  |[x,y],[t,u]=>match P.underlying t,P.underlying u with
   |some (.slice e),some (.slice _)|some (.slice e),some .string=>(P.info? e).bind λie=>(BN P e).bind λz=>if z.cells.size=ie.size/\ie.bytes≠0 then(G1 x).bind λx=>(G1 y).map λy=>.append e ie.size ie.bytes x y else none
   |_,_=>none
  |_,_=>none
 |.builtin .min=>(Dk c.args.toList).map λl=>.AN false l
 |.builtin .max=>(Dk c.args.toList).map λl=>.AN true l
 |.builtin .unsafeSliceData=>match c.args.toList with
  |[x]=>(G1 x).map .HN
  |_=>none
 |.builtin .unsafeString=>match c.args.toList,c.argTypes.toList with
  |[p,n],[pt,_]=>match P.underlying pt with
   |some (.pointer u)=>if P.cellsOf u=1 then(G1 p).bind λp=>(G1 n).map λn=>.GJ u p n else none
   |_=>none
  |_,_=>none
 |.builtin .cap=>match c.args.toList,c.argTypes.toList with
  |[x],[t]=>match P.underlying t with
   |some (.slice _)=>(G1 x).map .cap0
   |_=>none
  |_,_=>none
 |.builtin .copy=>match c.args.toList,c.argTypes.toList with
  |[x,y],[t,_]=>match P.underlying t with
   |some (.slice e)=>(P.info? e).bind λ_=>(G1 x).bind λx=>(G1 y).map λy=>.HH x y
   |_=>none
  |_,_=>none
 |.builtin .clear=>match c.args.toList,c.argTypes.toList with
  |[x],[t]=>match P.underlying t with
   |some (.slice e)=>(P.info? e).bind λie=>(BN P e).bind λz=>(Dv z.cells.toList).bind λzs=>if z.cells.size=ie.size then(G1 x).map λx=>.clear ie.size zs x else none
   |_=>none
  |_,_=>none
 |.value f=>match MU P f with
  |some .find=>match c.args.toList with
   |[s,b]=>(G1 s).bind λs=>(G1 b).map λb=>.GC false s b
   |_=>none
  |some .cnt=>match c.args.toList with
   |[s,b]=>(G1 s).bind λs=>(G1 b).map λb=>.GC true s b
   |_=>none
  |some (.make u)=>match c.args.toList with
   |[n]=>(G1 n).map λn=>.GD u n
   |_=>none
  |none=>(G1 f).bind λf=>(Dk c.args.toList).map λl=>.call f l
 |.invoke x name=>(G1 x).bind λx=>(Dk c.args.toList).map λl=>.call (.c (.agg [.tuple (kV P name)])) (x::l)
 |_=>none
def Cu(o:Oper):b5m I7:=
 match o.op with
 |.move x|.assign x=>(G1 x).map .mv
 |.pick c a b=>(G1 c).bind λc=>(G1 a).bind λa=>(G1 b).map λb=>.pick c a b
 |.alloc e=>match bK P e with
  |some u=>some (.HP e u)
  |none=>(BN P e).bind λz=>(Dv z.cells.toList).map .alloc
 |.box _ x=>(G1 x).map .box
 |.build t parts=>match P.underlying t with
  |some (.struct fs)=>if fs.toList.all (λf=>(P.info? f.type).isSome) then(BN P t).bind λz=>(Dv z.cells.toList).bind λzs=>(JU (qV P fs) parts.toList).map λps=>.build zs ps else none
  |some (.array _ e)=>(P.info? e).bind λie=>(BN P t).bind λz=>(Dv z.cells.toList).bind λzs=>(JU (λi=>some (i*ie.size,ie.size)) parts.toList).map λps=>.build zs ps
  |_=>none
 |.buildSlice t len parts=>match P.underlying t with
  |some (.slice e)=>(P.info? e).bind λie=>(BN P e).bind λz=>(Dv z.cells.toList).bind λzs=>(JU (λi=>some (i*ie.size,ie.size)) parts.toList).bind λps=>
   if(Yk zs ps=true/\len≠0/\len<=1000/\ie.size=1/\ie.bytes≠0/\ie.bytes<=100)/\z.cells.size=ie.size/\(Bf (W8 ie.size len zs) (ps.map λp=>(p.1,.v (.bool false)))).isSome=true then some (.make ie.size ie.bytes zs (.c (.v (.int .i64 len))) (.c (.v (.int .i64 len))))
   else if len*ie.size<=2 ^ 24/\z.cells.size=ie.size/\ie.size≠0 then some (.Ep ie.size len (W8 ie.size len zs) ps) else none
  |_=>none
 |.load t x=>(CU P t).bind λn=>(G1 x).map λx=>.load n x
 |.store t p x=>if o.dst=none then((P.info? t).map (·.size)).bind λn=>(G1 p).bind λp=>(G1 x).map λx=>.store n p x else none
 |.nilCheck x=>(G1 x).map .nilCheck
 |.binOp op t x y _=>match eqK P t with
  |some c=>if(op=.eql\/op=.neq)/\(c=.iface->KZ x\/KZ y) then(G1 x).bind λx=>(G1 y).map λy=>.eq c (decide (op=.eql)) x y else none
  |none=>(G1 x).bind λx=>(G1 y).map λy=>.bin op x y
 |.unOp op _ x=>(G1 x).map λx=>.un op x
 |.convert s d x=>if cW P s d then(G1 x).map .bytes else(Ec P s d).bind λc=>(G1 x).map λx=>.conv c x
 |.makeInterface t x=>match P.underlying t with
  |some (.interface _)=>none
  |some _=>(G1 x).map λx=>.iface t x
  |none=>none
 |.makeFunc fn first captured=>(Dk first.toList).bind λf=>(Dk captured.toList).map λc=>.func fn f c
 |.slice t x lo hi mx=>match P.underlying t with
  |some .string=>if mx.isNone then(G1 x).bind λx=>(Gq lo).bind λlo=>(Gq hi).map λhi=>.Bz x lo hi else none
  |some (.slice e)=>if mx.isSome->hi.isSome then(P.info? e).bind λie=>(G1 x).bind λx=>(Gq lo).bind λlo=>(Gq hi).bind λhi=>(Gq mx).map λmx=>.Ao ie.size x lo hi mx else none
  |_=>none
 |.fieldAddr t x f=>match P.underlying t with
  |some (.struct fs)=>(fs[f]?).bind λfd=>(P.info? fd.type).bind λi=>if i.size≠0 then(G1 x).map λx=>.fieldAddr fd.offset x else none
  |_=>none
 |.field t x f=>match P.underlying t with
  |some (.struct fs)=>(fs[f]?).bind λfd=>(CU P fd.type).bind λn=>(G1 x).map λx=>.field n fd.offset x
  |_=>none
 |.indexAddr t x i=>match P.underlying t with
  |some (.slice e)=>(P.info? e).bind λie=>(G1 x).bind λx=>(G1 i).map λi=>.Bg ie.size x i
  |some (.array len e)=>(P.info? e).bind λie=>(G1 x).bind λx=>(G1 i).map λi=>.Er len ie.size x i
  |_=>none
 |.index t x i=>match P.underlying t with
  |some .string=>(G1 x).bind λx=>(G1 i).map λi=>.Ck x i
  |some (.array len e)=>(P.info? e).bind λie=>(CU P e).bind λn=>(G1 x).bind λx=>(G1 i).map λi=>.HS len ie.size n x i
  |_=>none
 |.typeAssert x _ t ok=>match P.underlying t with
  |some (.interface _)=>none
  |some _=>(BN P t).bind λz=>(Qw z).bind λza=>(G1 x).map λx=>.BC t ok za x
  |none=>none
 |.extract x i=>(G1 x).map λx=>.extract i x
 |.makeSlice t x y=>match P.underlying t with
  |some (.slice e)=>(P.info? e).bind λie=>(BN P e).bind λz=>(Dv z.cells.toList).bind λzs=>
   if z.cells.size=ie.size/\ie.size≠0/\ie.bytes≠0 then(G1 x).bind λx=>(G1 y).map λy=>.make ie.size ie.bytes zs x y else none
  |_=>none
 |.range t x=>match P.underlying t with
  |some .string=>(G1 x).map λx=>.range x
  |_=>none
 |.next x s=>if s=true then(G1 x).map λx=>.next x else none
 |.call c=>Xf P c
 |.makeMap _ none=>some .HC
 |.lookup t x k ok=>match P.underlying t with
  |some (.map kt vt)=>(Lp P kt).bind λi=>(BN P vt).bind λz=>(Qw z).bind λza=>(G1 x).bind λx=>(G1 k).map λk=>.lookup i ok za x k
  |_=>none
 |.mapUpdate t m k v=>match P.underlying t with
  |some (.map kt vt)=>if o.dst=none then(Lp P kt).bind λi=>(G1 m).bind λm=>(G1 k).bind λk=>(G1 v).map λv=>.mapset i m k v else none
  |_=>none
 |_=>none
end
section
variable {P:Program}{σ:Sg}{h:A3}{env:Env}{N:Nat}{a:Act}
theorem lW{v:Value}{av:AV}(h:Sa v=some av):Rel σ av v/\av.isCell=true:=by
 unfold Sa at h;split at h
 ·cases h;exact⟨.nil,rfl⟩
 ·split at h
  ·rename_i hz;cases h;exact⟨Rel.clo_mk hz.1 hz.2 (λi av hi=>by simp at hi) (λi av hi=>by simp at hi),rfl⟩
  ·cases h
 ·split at h
  ·rename_i ha;cases h;exact⟨.v _ ha,rfl⟩
  ·cases h
theorem Dc:∀{l:b5l Value}{r:b5l AV},Dv l=some r->D3 σ r l
 |[],r,h=>by simp[Dv]at h;subst h;exact D3.nil σ
 |v::l,r,h=>by
  simp only[Dv,b44,b43]at h;obtain⟨av,hv,r',hr,rfl⟩:=h;obtain⟨h1,h2⟩:=lW (σ:=σ) hv;exact(D3.one h1 h2).append (Dc hr)
theorem ae{v:Value}{av:AV}(h:Qw v=some av):Rel σ av v:=by
 unfold Qw at h;split at h
 ·simp only[b43]at h;obtain⟨r,hr,rfl⟩:=h;exact Rel.agg_mk' (Dc hr)
 ·exact(lW h).1
theorem UC(he:P7 σ env a.tmps){x:Operand}{y:B9}(hx:G1 x=some y){av:AV}(hy:y.ev env=some av):Rel σ av (a.eval x):=by
 cases x with
 |tmp t=>
  simp only[G1,b5j]at hx;subst hx;obtain⟨v,h1,h2⟩:=he t av hy;have:a.eval (.tmp t)=v:=by simp[Act.eval,h1]
  rw[this];exact h2
 |const v=>
  simp only[G1,b43]at hx;obtain⟨b,hb,rfl⟩:=hx;cases hy;exact ae hb
 |func f=>
  simp only[G1,b5j]at hx;subst hx;cases hy;exact Rel.clo_mk rfl rfl (λi av hi=>by simp at hi) (λi av hi=>by simp at hi)
 |global g=>
  simp only[G1,b5j]at hx;subst hx;cases hy;exact .F5 g
theorem Fe{o:b5m AV}{K:AV->Prop}(h:wv o K):∃av,o=some av/\K av:=by
 cases o with
 |none=>exact h.elim
 |some av=>exact⟨av,rfl,h⟩
theorem H3(he:P7 σ env a.tmps){x:Operand}{y:B9}(hx:G1 x=some y){K:AV->Prop}(h:wv (y.ev env) K):∃av,Rel σ av (a.eval x)/\K av:=by
 obtain⟨av,h1,h2⟩:=Fe h;exact⟨av,UC he hx h1,h2⟩
theorem EH(he:P7 σ env a.tmps):∀{l:b5l Operand}{l':b5l B9}{r:b5l AV},Dk l=some l'->evs env l'=some r->U3 σ r (l.map a.eval)
 |[],l',r,h1,h2=>by simp[Dk]at h1;subst h1;simp[evs]at h2;subst h2;exact⟨rfl,λi av hi=>by simp at hi⟩
 |x::l,l',r,h1,h2=>by
  simp only[Dk,b44,b43]at h1;obtain⟨y,hy,l2,hl,rfl⟩:=h1;simp only[evs]at h2;split at h2
  ·rename_i av r' hav hr;cases h2;obtain⟨g1,g2⟩:=EH he hl hr;refine⟨by simp[g1],λi b hi=>?_⟩;cases i with
   |zero=>simp at hi;subst hi;exact⟨_,rfl,UC he hy hav⟩
   |succ i=>exact g2 i b (by simpa using hi)
  ·cases h2
theorem JB(he:P7 σ env a.tmps){x:b5m Operand}{y:b5m B9}(hx:Gq x=some y){r:b5m AV}(hr:J2 env y=some r):Fi σ r (x.map a.eval)/\(x.isSome=r.isSome):=by
 cases x with
 |none=>simp[Gq]at hx;subst hx;simp[J2]at hr;subst hr;exact⟨.none,rfl⟩
 |some x=>
  simp only[Gq,b43]at hx;obtain⟨z,hz,rfl⟩:=hx;simp only[J2]at hr;split at hr
  ·rename_i av hav;cases hr;exact⟨.some (UC he hz hav),rfl⟩
  ·cases hr
theorem Nm(he:P7 σ env a.tmps){S4:Nat->b5m (Nat × Nat)}:∀{l:b5l (Nat × Operand)}{l':b5l ((Nat × Nat) × B9)}{r:b5l ((Nat × Nat) × AV)},JU S4 l=some l'->X9 env l'=some r->
  (l.map λ(i,x)=>(i,a.eval x)).length=r.length/\∀(i:Nat) (b:(Nat × Nat) × AV),r[i]? =some b->∃(k:Nat) (x:Value),(l.map λ(i,x)=>(i,a.eval x))[i]? =some (k,x)/\S4 k=some b.1/\Rel σ b.2 x
 |[],l',r,h1,h2=>by simp[JU]at h1;subst h1;simp[X9]at h2;subst h2;exact⟨rfl,λi av hi=>by simp at hi⟩
 |(k,x)::l,l',r,h1,h2=>by
  simp only[JU,b44,b43]at h1;obtain⟨pl,hpl,y,hy,l2,hl,rfl⟩:=h1;simp only[X9]at h2;split at h2
  ·rename_i av r' hav hr;cases h2;obtain⟨g1,g2⟩:=Nm he hl hr;refine⟨by simpa using g1,λi b hi=>?_⟩;cases i with
   |zero=>simp at hi;subst hi;exact⟨k,_,rfl,hpl,UC he hy hav⟩
   |succ i=>exact g2 i b (by simpa using hi)
  ·cases h2
def Ud(i:b5n)(d:TypeDesc):Prop:=(i=false/\d=.string)\/(i=true/\∃k,d=.int k)
theorem kC{t:TypeId}{i:b5n}(h:Lp P t=some i):∃d,P.underlying t=some d/\Ud i d:=by
 unfold Lp at h;split at h
 ·cases h;exact⟨_,‹_›,.inl ⟨rfl,rfl⟩⟩
 ·cases h;exact⟨_,‹_›,.inr ⟨rfl,_,rfl⟩⟩
 ·cases h
theorem YV{kt:TypeId}{d:TypeDesc}{i:b5n}(hk:P.underlying kt=some d)(hd:Ud i d)(e:b5n)(n:Nat)(q:Value)(w:World):(Instr.checkKey e (n+1) kt q).run P w=.ok () w:=by
 rcases hd with⟨_,rfl⟩|⟨_,k,rfl⟩<;>simp only[Instr.checkKey,Sem.run_bind,run_underlying hk,Result.andThen_ok,Sem.run_pure]
theorem RJ{kt:TypeId}{d:TypeDesc}(hk:P.underlying kt=some d){k:Value}{es:b5l MapEntry}{q:b5m (Nat × Value)}(hq:Instr.findNow d k es 0=some q)(w:World):(Instr.findKey kt k es).run P w=.ok q w:=by
 simp only[Instr.findKey,Sem.run_bind,run_underlying hk,Result.andThen_ok,hq,Sem.run_pure]
theorem mw{s t:b5k}(h:(s==t)):s=t:=by
 obtain⟨a⟩:=s;obtain⟨b⟩:=t;have h1:(a==b):=h;have h2:=eq_of_beq h1;subst h2;rfl
theorem nI(s:b5k):(s==s):=by
 obtain⟨a⟩:=s;show(a==a)=true;simp
theorem UG{i:b5n}{d:TypeDesc}(hd:Ud i d){q t:Value}(hq:EO i q){b:b5n}(h:FP q t=some b):Instr.sameNow d q t=some b/\(b=true->q=t):=by
 rcases hd with⟨rfl,rfl⟩|⟨rfl,k,rfl⟩
 ·cases q<;>simp only[EO,Bool.false_eq_true]at hq
  cases t<;>simp only[FP,b5j,reduceCtorEq]at h
  exact⟨by simp only[Instr.sameNow,h],λhb=>by rw[hb]at h;rw[mw h]⟩
 ·cases q<;>simp only[EO,Bool.false_eq_true]at hq
  cases t<;>simp only[FP,reduceCtorEq]at h
  split at h
  ·rename_i hk;simp only[b5j]at h;subst hk;exact⟨by simp only[Instr.sameNow,if_true,h],λhb=>by rw[hb]at h;rw[eq_of_beq h]⟩
  ·cases h
theorem gY{q t:Value}{b:b5n}(h:FP q t=some b):Fh t:=by
 cases q<;>cases t<;>simp only[FP,reduceCtorEq]at h<;>rfl
theorem qP{i:b5n}{q:Value}(h:EO i q):Fh q:=by
 cases i<;>cases q<;>first|rfl|cases h
theorem xB{i:b5n}{q:Value}(h:EO i q)(n:Nat):Instr.sameBits n q q:=by
 cases i<;>cases q<;>first|(cases h;done)|simp[Instr.sameBits,nI]
section
variable {i:b5n}{d:TypeDesc}(hd:Ud i d) {q:Value}(hq:EO i q)
 include hd hq
theorem ki:∀{es:b5l MapEntry}{l:b5l AV}{r:b5m AV}(i:Nat),Bo σ es l->IK q l=some r->
  ∃y,Instr.findNow d q es i=some y/\((r=none/\y=none)\/∃av j v,r=some av/\y=some (j,v)/\Rel σ av v)
 |[],[],r,i,he,hf=>by simp only[IK,b5j]at hf;subst hf;exact⟨none,rfl,.inl ⟨rfl,rfl⟩⟩
 |[],_::_,r,i,he,hf=>he.elim
 |_::_,[],r,i,he,hf=>he.elim
 |e::es,p::l,r,i,⟨⟨k,v,h1,h2,h3⟩,he⟩,hf=>by
  subst h1;simp only[IK]at hf;split at hf
  ·rename_i t v' heq;simp only[AV.tuple.injEq,List.cons.injEq,and_true]at heq;obtain⟨rfl,rfl⟩:=heq;generalize hek:e.key=ek at h2;cases h2 with
   |v _ _=>
   split at hf
   ·rename_i hst;simp only[b5j]at hf;subst hf;simp only[Instr.findNow,hek,(UG hd hq hst).1];exact⟨_,rfl,.inr ⟨_,_,_,rfl,rfl,h3⟩⟩
   ·rename_i hst;simp only[Instr.findNow,hek,(UG hd hq hst).1];exact ki (i+1) he hf
   ·cases hf
  ·cases hf
theorem pY{v:AV}{x:Value}(hv:Rel σ v x)(c:Nat):∀{es:b5l MapEntry}{l l':b5l AV}(i:Nat),Bo σ es l->Iw q v l=some l'->
  (∃j w e,Instr.findNow d q es i=some (some (i+j,w))/\es[j]? =some e/\e.key=q/\Bo σ (es.modify j λe=>{e with key:=q,val:=x}) l')\/
  (Instr.findNow d q es i=some none/\Bo σ (es++[{key:=q,val:=x,born:=c}]) l')
 |[],[],l',i,he,hf=>by
  simp only[Iw,b5j]at hf;subst hf;exact .inr ⟨rfl,⟨_,_,rfl,.v _ (qP hq),hv⟩,trivial⟩
 |[],_::_,l',i,he,hf=>he.elim
 |_::_,[],l',i,he,hf=>he.elim
 |e::es,p::l,l',i,⟨⟨k,w,h1,h2,h3⟩,he⟩,hf=>by
  subst h1;simp only[Iw]at hf;split at hf
  ·rename_i t v' heq;simp only[AV.tuple.injEq,List.cons.injEq,and_true]at heq;obtain⟨rfl,rfl⟩:=heq;generalize hek:e.key=ek at h2;cases h2 with
   |v _ _=>
   split at hf
   ·rename_i hst;obtain⟨k1,k2⟩:=UG hd hq hst;simp only[b5j]at hf;subst hf;simp only[Instr.findNow,hek,k1];exact .inl ⟨0,_,e,rfl,rfl,by rw[hek,k2 rfl],⟨_,_,rfl,.v _ (qP hq),hv⟩,he⟩
   ·rename_i hst;obtain⟨k1,k2⟩:=UG hd hq hst;simp only[b43]at hf;obtain⟨l2,hl2,rfl⟩:=hf;simp only[Instr.findNow,hek,k1];rcases pY hv c (i+1) he hl2 with⟨j,w',e',g1,g2,g3,g4⟩|⟨g1,g2⟩
    ·refine .inl ⟨j+1,w',e',?_,by simpa using g2,g3,?_⟩
     ·simp only[g1];congr 3;omega
     ·simp only[List.modify_succ_cons];exact⟨⟨_,_,rfl,by rw[hek];exact .v _ (gY hst),h3⟩,g4⟩
    ·exact .inr ⟨g1,⟨_,_,rfl,by rw[hek];exact .v _ (gY hst),h3⟩,g2⟩
   ·cases hf
  ·cases hf
end
def M9(env:Env)(dst:b5m Tmp)(av:AV):Env:=
 match dst with
 |some d=>(d,av)::env
 |none=>env
def QT(σ:Sg)(N:Nat)(env:Env)(dst:b5m Tmp)(K:AV->A3->Prop)(a':Act)(w':World):Prop:=
 ∃σ' h' av,σ'.w=w'/\Le σ σ'/\St σ' h' (M9 env dst av) N a'/\K av h'
theorem St.put(hs:St σ h env N a){σ':Sg}{h':A3}(hl:Le σ σ')(hi:Inv h' σ'){dst:b5m Tmp}(hd:∀d,dst=some d->d<N){av:AV}{z:Value}(hr:Rel σ' av z):St σ' h' (M9 env dst av) N (a.put dst z):=by
 cases dst with
 |none=>exact⟨hi,hs.env.mono hl,hs.size,hs.defers⟩
 |some d=>
  refine⟨hi,(hs.env.mono hl).put (by rw[hs.size];exact hd d rfl) hr,?_,hs.defers⟩;show(a.tmps.setIfInBounds d z).size=N;simp[hs.size]
theorem O1{o:Oper}(hs:St σ h env N a)(hd:∀d,o.dst=some d->d<N){K:AV->A3->Prop}{σ':Sg}{h':A3}{av:AV}{z:Value}(hrun:(execOp a.eval o).run P σ.w=.ok (.value z) σ'.w)(hl:Le σ σ')(hi:Inv h' σ')(hr:Rel σ' av z)(hk:K av h')(Q:Exit->Act->World->Prop):
  o.wp P a σ.w (QT σ N env o.dst K) Q:=by
 unfold Oper.wp;rw[hrun];exact⟨σ',h',av,rfl,hl,hs.put hl hi hd hr,hk⟩
theorem Hb{t:TypeId}{z:Value}(h:BN P t=some z)(w:World):(zeroValue t).run P w=.ok z w:=by
 unfold BN at h;simp only[b44]at h;obtain⟨i,hi,hz⟩:=h;simp[zeroValue,typeInfo,hi,hz]
theorem GN{t:TypeId}{z:Value}(h:BN P t=some z){i:TypeInfo}(hi:P.info? t=some i):i.zero=some z:=by
 unfold BN at h;simp only[hi,Option.bind_some]at h;exact h
theorem r7(fs:b5l Field)(hf:∀f∈fs,(P.info? f.type).isSome)(w:World):
  (fs.mapM λf=>(do pure (f.offset,<-sizeOf f.type):Sem (Nat × Nat))).run P w=.ok (fs.map λf=>(f.offset,((P.info? f.type).map (·.size)).getD 0)) w:=by
 induction fs with
 |nil=>rfl
 |cons f fs ih=>
  obtain⟨i,hi⟩:=Option.isSome_iff_exists.1 (hf f (by simp));have:=ih (λg hg=>hf g (by simp[hg]));simp only[List.mapM_cons,Sem.run_bind,sizeOf,typeInfo,run_program,Result.andThen_ok,hi,Sem.run_pure]at this ⊢;rw[this];simp[hi]
end
section
variable {P:Program}{σ:Sg}{h:A3}{env:Env}{N:Nat}{a:Act}
theorem AQ{o:Oper}(hs:St σ h env N a)(hd:∀d,o.dst=some d->d<N){K:AV->A3->Prop}{s:Sem Value}(he:execOp a.eval o=(do pure (.value (<-s)):Sem Next))(hk:∃av z,K av h/\Rel σ av z/\s.run P σ.w=.ok z σ.w)(Q:Exit->Act->World->Prop):
  o.wp P a σ.w (QT σ N env o.dst K) Q:=by
 obtain⟨av,z,k1,k2,k3⟩:=hk;exact O1 (σ':=σ) hs hd (by rw[he];simp[k3]) (Le.refl σ) hs.inv k2 k1 Q
theorem U3.append{l1 l2:b5l AV}{x1 x2:b5l Value}(h1:U3 σ l1 x1)(h2:U3 σ l2 x2):U3 σ (l1++l2) (x1++x2):=by
 refine⟨by simp[h1.1,h2.1],λi av hi=>?_⟩
 by_cases hl:i<l1.length
 ·rw[b49 hl]at hi;rw[b49 (by rw[h1.1];exact hl)];exact h1.2 i av hi
 ·rw[b5a (by omega)]at hi;rw[b5a (by rw[h1.1];omega),h1.1];exact h2.2 _ av hi
theorem Oy{size len:Nat}{z:Value}{zs:b5l AV}(hz:D3 σ zs z.cells.toList)(hzs:z.cells.size=size)(h0:size≠0):
  D3 σ (W8 size len zs) ((Array.range (len*size)).map ((if len*size=0 then #[] else z.cells)[· % (if len*size=0 then #[] else z.cells).size]!)).toList:=by
 by_cases hn:len*size=0
 ·simp[W8,hn];exact D3.nil σ
 ·rw[if_neg hn];refine⟨by simp[W8],λi av hi=>?_⟩
  have hlt:i<len*size:=by
   have:=(List.getElem?_eq_some_iff.1 hi).1;simpa[W8]using this
  simp only[W8,b5b,List.getElem?_range hlt,Option.map_some,b5j]at hi;have hm:i % size<zs.length:=by rw[<-hz.1];simp[hzs];exact Nat.mod_lt _ (by omega)
  obtain⟨c1,x,hx,hr⟩:=hz.2 (i % size) av (by rw[<-hi,List.getD_eq_getElem?_getD,b48 hm];rfl);refine⟨c1,x,?_,hr⟩;simp only[Array.getElem?_toList]at hx;have hlt2:i % z.cells.size<z.cells.size:=by rw[hzs];exact Nat.mod_lt _ (by omega)
  simp only[Array.toList_map,b5b,Array.toList_range,List.getElem?_range hlt,Option.map_some];rw[hzs]at hlt2 ⊢;simp[getElem!_def,hx]
theorem a44{t e:TypeId}{ie:TypeInfo}(hi:Inv h σ)(hu:P.underlying t=some (.slice e))(hie:P.info? e=some ie){z:Value}{zs:b5l AV}(hz:ie.zero=some z)(hzc:D3 σ zs z.cells.toList)(hzs:z.cells.size=ie.size)(hsz:ie.size≠0)(hb:ie.bytes≠0){p q:AV}{x y:Value}(hp:Rel σ p x)(hq:Rel σ q y){K:AV->A3->Prop}(hk:MV h ie.size ie.bytes zs p q K):
  ∃σ' av h' v,(Instr.makeSlice t x y).run P σ.w=.ok v σ'.w/\Le σ σ'/\Inv h' σ'/\Rel σ' av v/\K av h':=by
 unfold MV at hk;split at hk
 ·rename_i k l k' c;obtain⟨⟨h0,h1,h2⟩,hk⟩:=hk;cases hp with
  |v _ _=>
  cases hq with
  |v _ _=>
  have hb1:(1:Int)<=(ie.bytes:Int):=by omega
  have hc0:c<=140737488355328:=by
   have:c*1<=c*(ie.bytes:Int):=Int.mul_le_mul_of_nonneg_left hb1 (by omega);omega
  have wl:IntKind.i64.wrap l=l:=by simp[IntKind.wrap,IntKind.signed,IntKind.bits];omega
  have wc:IntKind.i64.wrap c=c:=by simp[IntKind.wrap,IntKind.signed,IntKind.bits];omega
  obtain⟨σ',g1,g2,g3,g4⟩:=PT hi (Oy (size:=ie.size) (len:=c.toNat) hzc hzs hsz) e;have n1:¬(281474976710656<(ie.bytes:Int)*c):=by rw[Int.mul_comm];omega
  have n2:¬c<0:=by omega
  have n3:¬l<0:=by omega
  have n4:¬c<l:=by omega
  refine⟨σ',_,_,.slice (some ⟨σ.w.heap.size,0,none⟩) l.toNat c.toNat,?_,g2,g3,?_,hk⟩
  ·rw[g1];have a1:(asIntOf (.int k l)).run P σ.w=.ok (k,l) σ.w:=rfl;have a2:(asIntOf (.int k' c)).run P σ.w=.ok (k',c) σ.w:=rfl;simp only[Instr.makeSlice,Sem.run_bind,run_underlying hu,Result.andThen_ok,asInt,Sem.run_map,a1,a2,Sem.run_pure,typeInfo,run_program,hie,wl,wc]
   by_cases hn:c.toNat*ie.size=0
   ·simp[n1,n2,n3,n4,run_askRoom,sizeOf,typeInfo,hie,newRow,run_newObj,hn]
    congr 2
    apply Array.ext';simp
   ·simp[n1,n2,n3,n4,run_askRoom,sizeOf,typeInfo,hie,zeroValue,hz,newRow,run_newObj,hn]
    congr 2
    apply Array.ext';simp
  ·cases g4 with
   |ptr _ _ _ hb=>
    refine .row _ _ _ _ _ _ _ hb (by omega) (Nat.le_refl _) λo ho=>?_
    rw[g1];rw[BH (heap_alloc_new σ.w _)];have hlen:(W8 ie.size c.toNat zs).length=c.toNat*ie.size:=by simp[W8]
    have hc2:=(Oy (σ:=σ) (size:=ie.size) (len:=c.toNat) hzc hzs hsz).1;have:o<c.toNat*ie.size:=by omega
    simp at hc2 ⊢;omega
 ·exact hk.elim
theorem yX{x:B9}(h:XL x)(env:Env):x.ev env=some (.v (.bool false)):=by
 unfold XL at h;split at h
 ·rfl
 ·cases h
theorem iT(env:Env):∀ps:b5l ((Nat × Nat) × B9),(ps.all λp=>XL p.2)->X9 env ps=some (ps.map λp=>(p.1,.v (.bool false)))
 |[],_=>rfl
 |p::ps,h=>by
  rw[List.all_cons,b47]at h;simp only[X9,yX h.1 env,iT env ps h.2,List.map_cons]
theorem a8f{zs:b5l AV}{ps:b5l ((Nat × Nat) × B9)}(h:Yk zs ps):zs=[.v (.bool false)]/\∀env,X9 env ps=some (ps.map λp=>(p.1,.v (.bool false))):=by
 unfold Yk at h;split at h
 ·exact⟨rfl,λenv=>iT env _ h⟩
 ·cases h
theorem lz:∀(aps:b5l ((Nat × Nat) × AV)) (zero cells:b5l AV),(∀a∈aps,a.2=.v (.bool false))->(∀c∈zero,c=.v (.bool false))->Bf zero aps=some cells->cells.length=zero.length/\∀c∈cells,c=.v (.bool false)
 |[],zero,cells,_,hz,hf=>by simp only[Bf,b5j]at hf;subst hf;exact⟨rfl,hz⟩
 |((off,size),av)::r,zero,cells,ha,hz,hf=>by
  have e:av=.v (.bool false):=ha _ (List.mem_cons_self ..);subst e;simp only[Bf]at hf;split at hf
  ·rename_i hc;obtain⟨⟨c1,c2⟩,_⟩:=hc;have c1:1=size:=c1;subst c1
   have hl:(splice zero off (AV.v (.bool false)).cells).length=zero.length:=by
    simp only[splice,AV.cells,b5i,List.length_take,List.length_drop,List.length_cons,List.length_nil];omega
   obtain⟨g1,g2⟩:=lz r _ cells (λa h=>ha a (List.mem_cons_of_mem _ h)) (λc hc=>by
    simp only[splice,AV.cells,List.mem_append]at hc;rcases hc with(hc|hc)|hc
    ·exact hz c (List.mem_of_mem_take hc)
    ·simpa using hc
    ·exact hz c (List.mem_of_mem_drop hc)) hf
   exact⟨g1.trans hl,g2⟩
  ·cases hf
theorem b2m(hi:Inv h σ){t elem:TypeId}{ie:TypeInfo}{z:Value}{len:Nat}(ht:P.underlying t=some (.slice elem))(hie:P.info? elem=some ie)(hz:ie.zero=some z)(hlen:len<=1000)(hs1:ie.size=1)(h0:len≠0){zs:b5l AV}(hzc:D3 σ zs z.cells.toList)(hzs:z.cells.size=ie.size){parts:b5l (Nat × Value)}{aps:b5l ((Nat × Nat) × AV)}(hl:parts.length=aps.length)(hp:∀(i:Nat) (a:(Nat × Nat) × AV),aps[i]? =some a->∃(k:Nat) (x:Value),parts[i]? =some (k,x)/\(k*ie.size,ie.size)=a.1/\Rel σ a.2 x)(hf:Bf (W8 ie.size len zs) aps=some (W8 ie.size len zs)):
  ∃σ' z,(Instr.buildSlice t len parts.toArray).run P σ.w=.ok z σ'.w/\Le σ σ'/\Inv ⟨h.A5++[some (W8 ie.size len zs)],h.A9,h.B0⟩ σ'/\Rel σ' (.row h.A5.length 0 ie.size len len) z:=by
 have hsz:len*ie.size<=2 ^ 24:=by rw[hs1];omega
 have hn0:¬len*ie.size=0:=by rw[hs1];omega
 have hzz:=Oy (σ:=σ) (size:=ie.size) (len:=len) hzc hzs (by omega)
 obtain⟨cs,g1,g2⟩:=QP (λi=>some (i*ie.size,ie.size)) parts aps _ ((Array.range (len*ie.size)).map ((if len*ie.size=0 then #[] else z.cells)[· % (if len*ie.size=0 then #[] else z.cells).size]!)) _ hzz hl (λi a ha=>by
  obtain⟨k,x,e1,e2,e3⟩:=hp i a ha;exact⟨k,x,e1,by rw[e2],e3⟩) hf
 obtain⟨σ',q1,q2,q3,q4⟩:=PT hi g2 elem;refine⟨σ',.slice (some ⟨σ.w.heap.size,0,none⟩) len len,?_,q2,q3,?_⟩
 ·rw[q1];have hgt:¬(2 ^ 24<len*ie.size):=by omega
  rw[if_neg hn0]at g1;simp only[Instr.buildSlice,Sem.run_bind,run_underlying ht,Result.andThen_ok,sizeOf,typeInfo,run_program,hie,Sem.run_pure,Sem.run_ite,if_neg hgt,if_neg hn0,newRow,run_newObj,World.alloc,zeroValue,hz,List.toList_toArray];simp only[gt_iff_lt,hgt,if_false,g1,Result.andThen_ok,Sem.run_bind,Sem.run_pure,run_newObj]
 ·cases q4 with
  |ptr _ _ _ hb=>
   refine .row _ _ _ _ _ _ _ hb (by omega) (Nat.le_refl _) λo ho=>?_
   rw[q1,BH (heap_alloc_new σ.w _)];have hlen2:(W8 ie.size len zs).length=len*ie.size:=by simp[W8]
   have hc2:=g2.1;simp at hc2 ⊢;omega
theorem a69{t e:TypeId}{ie:TypeInfo}(hi:Inv h σ)(hu:P.underlying t=some (.slice e))(hie:P.info? e=some ie){z:Value}{zs:b5l AV}(hz:ie.zero=some z)(hzc:D3 σ zs z.cells.toList)(hzs:z.cells.size=ie.size)(hsz:ie.size≠0)(hb:ie.bytes≠0){p q:AV}{x y:Value}(hp:Rel σ p x)(hq:Rel σ q y){K:AV->A3->Prop}(hk:RH h ie.size ie.bytes p q K):
  ∃σ' av h' v,(Instr.makeSlice t x y).run P σ.w=.ok v σ'.w/\Le σ σ'/\Inv h' σ'/\Rel σ' av v/\K av h':=by
 unfold RH at hk;split at hk
 ·rename_i k l k' c;obtain⟨⟨rfl,h1,h2,h3⟩,hk⟩:=hk;cases hp with
  |v _ _=>
  cases hq with
  |v _ _=>
  have hb1:(1:Int)<=(ie.bytes:Int):=by omega
  have hc0:c<=140737488355328:=by
   have:c*1<=c*(ie.bytes:Int):=Int.mul_le_mul_of_nonneg_left hb1 (by omega);omega
  have wl:IntKind.i64.wrap 0=0:=by decide
  have wc:IntKind.i64.wrap c=c:=by simp[IntKind.wrap,IntKind.signed,IntKind.bits];omega
  have hcells:=Oy (σ:=σ) (size:=ie.size) (len:=c.toNat) hzc hzs hsz;obtain⟨cs,hcs⟩:∃cs,cs=((Array.range (c.toNat*ie.size)).map ((if c.toNat*ie.size=0 then #[] else z.cells)[· % (if c.toNat*ie.size=0 then #[] else z.cells).size]!)).toList:=⟨_,rfl⟩
  rw[<-hcs]at hcells;have hlen:cs.length=c.toNat:=by rw[hcs];simp[h3]
  obtain⟨σ',g1,g2,g3,g4⟩:=ky hi cs e (K9.refl σ.w) rfl;have n1:¬(281474976710656<(ie.bytes:Int)*c):=by rw[Int.mul_comm];omega
  have n2:¬c<0:=by omega
  refine⟨σ',_,_,.slice (some ⟨σ.w.heap.size,0,none⟩) 0 c.toNat,?_,g2,g3,?_,hk⟩
  ·rw[g1];have a1:(asIntOf (.int k 0)).run P σ.w=.ok (k,0) σ.w:=rfl;have a2:(asIntOf (.int k' c)).run P σ.w=.ok (k',c) σ.w:=rfl;simp only[Instr.makeSlice,Sem.run_bind,run_underlying hu,Result.andThen_ok,asInt,Sem.run_map,a1,a2,Sem.run_pure,typeInfo,run_program,hie,wl,wc]
   by_cases hn:c.toNat*ie.size=0
   ·rw[hcs];simp[n1,n2,run_askRoom,sizeOf,typeInfo,hie,newRow,run_newObj,hn]
    congr 2
    apply Array.ext';simp
   ·rw[hcs];simp[n1,n2,run_askRoom,sizeOf,typeInfo,hie,zeroValue,hz,newRow,run_newObj,hn]
    congr 2
    apply Array.ext';simp
  ·have ht:BM σ' (.own h.A9.length) 0 (some ⟨σ.w.heap.size,0,none⟩) c.toNat:=⟨_,g4,Nat.le_refl _,λ_=>⟨rfl,hlen⟩⟩;exact Rel.sl [] (.own h.A9.length) σ.w.heap.size 0 c.toNat 1 (λ_ _=>undef) (λi el hi=>by simp at hi) (Nat.zero_le _) ht (λid e' hid he=>by cases hid;rw[g4]at he;cases he;rfl) (λi el hi=>by simp at hi) (λi el hi=>by simp at hi)
 ·exact hk.elim
theorem fZ(mx:b5n):∀(n:Nat) (l:b5l AV) (x:Value) (rest:b5l Value) (v:Value),l.length=n->CA mx l=some v->U3 σ l (x::rest)->∀(w:World),Fh v/\
  (rest.foldlM (if mx then Builtin.max2 else Builtin.min2) x).run P w=.ok v w:=by
 intro n
 induction n using Nat.strongRecOn with
 |_ n ih=>
  intro l x rest v hn hm hr w;unfold CA at hm;split at hm
  ·rename_i k y;cases hm
   match rest,hr.1 with
   |[],_=>
    obtain⟨z,h1,h2⟩:=hr.2 0 _ rfl;simp at h1;subst h1;cases h2;exact⟨rfl,rfl⟩
  ·rename_i k a k' b r
   match rest,hr.1 with
   |y1::rest,hl=>
    obtain⟨z,h1,h2⟩:=hr.2 0 _ rfl;simp at h1;subst h1;obtain⟨z2,h3,h4⟩:=hr.2 1 _ rfl;simp at h3;subst h3;cases h2;cases h4
    have:=ih (r.length+1) (by rw[<-hn];simp) _ (.int k (if mx then(if b>a then b else a) else(if b<a then b else a))) rest v (by simp) hm ⟨by simpa using hl,λi av hi=>by
     cases i with
     |zero=>simp at hi;subst hi;exact⟨_,rfl,.v _ rfl⟩
     |succ i=>
      obtain⟨q,q1,q2⟩:=hr.2 (i+2) av (by simpa using hi);exact⟨q,by simpa using q1,q2⟩⟩ w
    refine⟨this.1,?_⟩;have h2:=this.2;cases mx
    ·simp only[List.foldlM_cons,Bool.false_eq_true,if_false,Builtin.min2,Sem.run_bind,Sem.run_pure,Result.andThen_ok]at h2 ⊢;exact h2
    ·simp only[List.foldlM_cons,if_true,Builtin.max2,Sem.run_bind,Sem.run_pure,Result.andThen_ok]at h2 ⊢;exact h2
  ·cases hm
theorem sS{l:b5l AV}{v:Value}(hm:CA false l=some v){xs:Array Value}(hr:U3 σ l xs.toList)(ats:Array TypeId)(ty:TypeId)(w:World):Fh v/\(Builtin.min_ ats ty xs).run P w=.ok v w:=by
 unfold Builtin.min_;cases hx:xs.toList with
 |nil=>
  rw[hx]at hr;have:l=[]:=List.eq_nil_of_length_eq_zero (by simpa using hr.1.symm);subst this;simp[CA]at hm
 |cons x rest=>rw[hx]at hr;simpa using fZ (P:=P) false _ l x rest v rfl hm hr w
theorem a0g{l:b5l AV}{v:Value}(hm:CA true l=some v){xs:Array Value}(hr:U3 σ l xs.toList)(ats:Array TypeId)(ty:TypeId)(w:World):Fh v/\(Builtin.max_ ats ty xs).run P w=.ok v w:=by
 unfold Builtin.max_;cases hx:xs.toList with
 |nil=>
  rw[hx]at hr;have:l=[]:=List.eq_nil_of_length_eq_zero (by simpa using hr.1.symm);subst this;simp[CA]at hm
 |cons x rest=>rw[hx]at hr;simpa using fZ (P:=P) true _ l x rest v rfl hm hr w
theorem a10(hi:Inv h σ){s d:TypeId}(hb:cW P s d)(str:b5k):∃σ' z,(convert s d (.string str)).run P σ.w=.ok z σ'.w/\Le σ σ'/\Inv h σ'/\Rel σ' (.sl (S5 str.data.toList) .no) z:=by
 unfold cW at hb;split at hb
 ·rename_i e hs hd;split at hb
  ·rename_i he;have hrun:=Lib.run_convert_string_bytes (P:=P) σ.w s d e str hs hd he;obtain⟨c,hcdef⟩:∃c,c=grownCap σ.w str.size 0 e:=⟨_,rfl⟩
   have hcge:str.size<=c:=by rw[hcdef];simp[grownCap,Question.cut]
   rw[<-hcdef]at hrun;have hp:K9 σ.w (Lib.bytesWorld σ.w e str):=⟨by rw[Lib.bytesWorld_size];omega,λb hb=>Lib.bytesWorld_at_old σ.w e str b hb,rfl,rfl,rfl⟩;have hnew:=Lib.bytesWorld_at_new σ.w e str
   have hblt:∀m b,σ.blk m=some b->b<σ.w.heap.size:=by
    intro m b hm;exact hi.lt hm
   have hll:str.data.toList.length=str.size:=by simp
   have hle:=Le.world (σ:=σ) hp;refine⟨{σ with w:=Lib.bytesWorld σ.w e str},_,hrun,hle,hi.world hp,?_⟩
   have hlies:Dq {σ with w:=Lib.bytesWorld σ.w e str} σ.w.heap.size 0 (str.data.toList.map λb=>Value.int .u8 b.toNat):=by
    intro k v hk
    have hlt':k<str.size:=by
     have:=(List.getElem?_eq_some_iff.1 hk).1;simpa using this
    refine⟨?_,?_⟩
    ·show(Lib.bytesWorld σ.w e str).cell? _=some v;rw[BH hnew,Nat.zero_add];unfold Lib.bytesCells;rw[Array.getElem?_append_left (by simpa using hlt')];simpa[<-Array.getElem?_toList]using hk
    ·rintro (hx|hx)
     ·have:=(hi.outer _ _ hx).1;omega
     ·rcases hx with⟨m,hm⟩|⟨i,g,hg,hs⟩
      ·have:=hblt m _ hm;omega
      ·have:=hi.H4 i g _ _ hg hs;omega
   have:=QX (σ:={σ with w:=Lib.bytesWorld σ.w e str}) (tok:=.no) (cap:=c) (uS str.data.toList) (lR _ str.data.toList) hlies (by rw[Vb];omega) trivial (λi g hid hg=>by cases hid);rw[Vb,hll]at this;exact this
  ·cases hb
 ·cases hb
theorem uE(hi:Inv h σ){p:AV}{x:Value}(hr:Rel σ p x):Rel σ (Ij h p) x:=by
 unfold Ij;split
 ·rename_i n;split
  ·rename_i q hq;have h1:=List.mem_of_find?_eq_some hq;have h2:=List.find?_some hq;have h3:q.1=n:=by simpa using h2
   cases hr with
   |F5 _=>exact h3▸hi.F5 q.1 q.2 h1
  ·exact hr
 ·exact hr
theorem cN{ok b:b5n}{a:AV}{v:Value}(h:Rel σ a v):Rel σ (if ok=true then .tuple [a,.v (.bool b)] else a) (if ok=true then .tuple #[v,.bool b] else v):=by
 cases ok with
 |false=>exact h
 |true=>
  refine Rel.tuple_mk (by simp) λi av hi=>?_
  match i with
  |0=>simp at hi;subst hi;exact⟨_,rfl,h⟩
  |1=>simp at hi;subst hi;exact⟨_,rfl,.v _ rfl⟩
  |k+2=>simp at hi
theorem a5w(hi:Inv h σ){t kt vt:TypeId}(hu:P.underlying t=some (.map kt vt)){i:b5n}(hks:Lp P kt=some i){z:Value}{za:AV}(hz:(zeroValue vt).run P σ.w=.ok z σ.w)(hza:Rel σ za z){xv kv:AV}{x k:Value}(hx:Rel σ xv x)(hk:Rel σ kv k){ok:b5n}{K:AV->Prop}(h1:Qi h i ok za xv kv K):
  ∃av y,K av/\Rel σ av y/\(Instr.lookup t x k ok).run P σ.w=.ok y σ.w:=by
 obtain⟨d,hkt,hd⟩:=kC hks;unfold Qi at h1;split at h1
 ·obtain⟨hq,h1⟩:=h1;cases hk with
  |v _ _=>
  split at h1
  ·rename_i n;split at h1
   ·rename_i l hl;split at h1
    ·rename_i r hr;cases hx with
     |mp _ b hb=>
     obtain⟨b',hb',hbk⟩:=hi.blk n _ hl;rw[hb]at hb';cases hb';obtain⟨es,clock,hit,hent⟩:=hbk.entries;obtain⟨q,hq,hqr⟩:=ki hd hq 0 hent hr;have c1:=YV (P:=P) hkt hd es.isEmpty 9999 k σ.w;have c2:=RJ (P:=P) hkt hq σ.w;have c3:(getObj b).run P σ.w=.ok (.map es clock) σ.w:=by simp[getObj,Sem.run,hit,Result.andThen]
     rcases hqr with⟨rfl,rfl⟩|⟨av,j,v,rfl,rfl,hv⟩
     ·refine⟨_,_,h1,cN (b:=false) hza,?_⟩;simp only[Instr.lookup,Sem.run_bind,run_underlying hu,Result.andThen_ok,c3,Sem.run_pure,c1,c2,hz]
     ·refine⟨_,_,h1,cN (b:=true) hv,?_⟩;simp only[Instr.lookup,Sem.run_bind,run_underlying hu,Result.andThen_ok,c3,Sem.run_pure,c1,c2]
    ·exact h1.elim
   ·exact h1.elim
  ·cases hx with
   |v _ _=>
   have c1:=YV (P:=P) hkt hd (#[]:Array MapEntry).isEmpty 9999 k σ.w;have c2:=RJ (P:=P) hkt (k:=k) (es:=(#[]:Array MapEntry).toList) rfl σ.w;refine⟨_,_,h1,cN (b:=false) hza,?_⟩;simp only[Instr.lookup,Sem.run_bind,run_underlying hu,Result.andThen_ok,Sem.run_pure,c1,c2,hz]
  ·exact h1.elim
 ·exact h1.elim
theorem xC(hi:Inv h σ){t kt vt:TypeId}(hu:P.underlying t=some (.map kt vt)){i:b5n}(hks:Lp P kt=some i){mv kv vv:AV}{m k x:Value}(hm:Rel σ mv m)(hk:Rel σ kv k)(hv:Rel σ vv x){K:A3->Prop}(h1:Nz h i mv kv vv K):
  ∃σ' h',(Instr.mapUpdate t m k x).run P σ.w=.ok () σ'.w/\Le σ σ'/\Inv h' σ'/\K h':=by
 obtain⟨d,hkt,hd⟩:=kC hks;unfold Nz at h1;split at h1
 ·obtain⟨hq,h1⟩:=h1;cases hk with
  |v _ _=>
  split at h1
  ·rename_i n;split at h1
   ·rename_i l hl;split at h1
    ·rename_i l' hl';cases hm with
     |mp _ b hb=>
     obtain⟨b',hb',hbk⟩:=hi.blk n _ hl;rw[hb]at hb';cases hb';obtain⟨es,clock,hit,hent⟩:=hbk.entries;have hlt:=hbk.lt;have c1:=YV (P:=P) hkt hd false 9999 k σ.w;have c3:(getObj b).run P σ.w=.ok (.map es clock) σ.w:=by simp[getObj,Sem.run,hit,Result.andThen]
     have key:∀(es':Array MapEntry) (c':Nat),Bo σ es'.toList l'->(Instr.mapUpdate t (.map (some b)) k x).run P σ.w=.ok () {σ.w with heap:=σ.w.heap.setIfInBounds b (.map es' c')}->
       ∃σ' h',(Instr.mapUpdate t (.map (some b)) k x).run P σ.w=.ok () σ'.w/\Le σ σ'/\Inv h' σ'/\K h':=by
      intro es' c' hen hrun;obtain⟨hle,hinv⟩:=OR (cells':=[.tuple l']) (w':={σ.w with heap:=σ.w.heap.setIfInBounds b (.map es' c')}) hi hb hl (by simp) (by simp) (λi hi=>by simp[Array.getElem?_setIfInBounds_ne (Ne.symm hi)]) rfl rfl rfl (λo ho=>by simp[World.cell?,hit]at ho) (λhle=>.map es' c' l' (by simp[hlt]) (hen.mono hle)) (λhz=>by cases hz with|cells _ cs rest elem hh _=>rw[hit]at hh;cases hh) (by simp) (λx hx=>by simp[World.shape?,hit]at hx);exact⟨_,_,hrun,hle,hinv,h1⟩
     rcases pY hd hq hv clock 0 hent hl' with⟨j,w',e,g1,g2,g3,g4⟩|⟨g1,g2⟩
     ·have c2:=RJ (P:=P) hkt g1 σ.w;refine key (es.modify j λe=>{e with key:=k,val:=x}) clock (by simpa using g4) ?_;have g5:es[j]? =some e:=by simpa[<-Array.getElem?_toList]using g2
      have c4:(Instr.keyThatStays k k).run P σ.w=.ok k σ.w:=by simp[Instr.keyThatStays,xB hq]
      simp only[Instr.mapUpdate,Sem.run_bind,run_underlying hu,Result.andThen_ok,c3,c1,c2,Nat.zero_add,g5,Option.map_some,Option.getD_some,g3,c4];simp[setObj,Sem.run,hit,Result.andThen]
     ·have c2:=RJ (P:=P) hkt g1 σ.w;refine key (es.push {key:=k,val:=x,born:=clock}) (clock+1) (by simpa using g2) ?_;simp only[Instr.mapUpdate,Sem.run_bind,run_underlying hu,Result.andThen_ok,c3,c1,c2];simp[setObj,Sem.run,hit,Result.andThen]
    ·exact h1.elim
   ·exact h1.elim
  ·exact h1.elim
 ·exact h1.elim
theorem a2t:Rel σ (.tuple []) (.tuple #[]):=Rel.tuple_mk rfl λi av hi=>by simp at hi
theorem jd{fn:Func}{n:String}(h:fn.name=n){e:Array Value->Sem Value}(h1:Extern.allGenericRows.lookup n=none)(h2:Extern.allTypedRows.lookup n=none)(h3:Extern.allRows.lookup n=some e):Extern.find fn=some e:=by
 subst h;simp[Extern.find,h1,h2,h3]
theorem a8t{fn:Func}(h:fn.name= "internal/bytealg.IndexByteString"):Extern.find fn=some Extern.BytealgIndexByte.indexByte:=jd h (by kernel_rfl) (by kernel_rfl) (by kernel_rfl)
theorem sJ{fn:Func}(h:fn.name= "internal/bytealg.CountString"):Extern.find fn=some Extern.BytealgCount.count:=jd h (by kernel_rfl) (by kernel_rfl) (by kernel_rfl)
theorem b1r{fn:Func}(h:fn.name= "internal/bytealg.MakeNoZero"):Extern.find fn=some (Extern.BytealgMakeNoZero.makeNoZero fn.params fn.resultTypes):=by
 have h1:Extern.allGenericRows.lookup fn.name=none:=by rw[h];kernel_rfl
 have h2:Extern.allTypedRows.lookup fn.name=some Extern.BytealgMakeNoZero.makeNoZero:=by rw[h];kernel_rfl
 simp[Extern.find,h1,h2]
theorem XU{f:Operand}{k:XK}(h:MU P f=some k):∃g fn,f=.func g/\P.funcs[g]? =some fn/\fn.body.isNone=true/\Extern.findNext fn=none/\
  ((k=.find/\fn.name= "internal/bytealg.IndexByteString")\/(k=.cnt/\fn.name= "internal/bytealg.CountString")\/∃t u,k=.make u/\fn.name= "internal/bytealg.MakeNoZero"/\fn.resultTypes=#[t]/\P.underlying t=some (.slice u)):=by
 unfold MU at h;split at h
 ·rename_i g;split at h
  ·rename_i fn hfn;split at h
   ·rename_i hc;refine⟨g,fn,rfl,hfn,hc.1,by simpa using hc.2,?_⟩;split at h
    ·rename_i hn;cases h;exact .inl ⟨rfl,hn⟩
    ·split at h
     ·rename_i hn;cases h;exact .inr (.inl ⟨rfl,hn⟩)
     ·split at h
      ·rename_i hn;split at h
       ·rename_i t ht;split at h
        ·rename_i u hu;cases h;exact .inr (.inr ⟨t,u,rfl,hn,by apply Array.ext';exact ht,hu⟩)
        ·cases h
       ·cases h
      ·cases h
   ·cases h
  ·cases h
 ·cases h
variable (P) in
theorem a2m{f:Operand}(h:MU P f=some .find):∃g fn,f=.func g/\P.funcs[g]? =some fn/\fn.body.isNone=true/\Extern.findNext fn=none/\fn.name= "internal/bytealg.IndexByteString":=by
 obtain⟨g,fn,h1,h2,h3,h4,⟨_,h5⟩|⟨h5,_⟩|⟨_,_,h5,_⟩⟩:=XU h
 ·exact⟨g,fn,h1,h2,h3,h4,h5⟩
 ·cases h5
 ·cases h5
variable (P) in
theorem yL{f:Operand}(h:MU P f=some .cnt):∃g fn,f=.func g/\P.funcs[g]? =some fn/\fn.body.isNone=true/\Extern.findNext fn=none/\fn.name= "internal/bytealg.CountString":=by
 obtain⟨g,fn,h1,h2,h3,h4,⟨h5,_⟩|⟨_,h5⟩|⟨_,_,h5,_⟩⟩:=XU h
 ·cases h5
 ·exact⟨g,fn,h1,h2,h3,h4,h5⟩
 ·cases h5
variable (P) in
theorem tj{f:Operand}{u:TypeId}(h:MU P f=some (.make u)):∃g fn t,f=.func g/\P.funcs[g]? =some fn/\fn.body.isNone=true/\Extern.findNext fn=none/\fn.name= "internal/bytealg.MakeNoZero"/\fn.resultTypes=#[t]/\P.underlying t=some (.slice u):=by
 obtain⟨g,fn,h1,h2,h3,h4,⟨h5,_⟩|⟨h5,_⟩|⟨t,u',h5,h6,h7,h8⟩⟩:=XU h
 ·cases h5
 ·cases h5
 ·cases h5;exact⟨g,fn,t,h1,h2,h3,h4,h6,h7,h8⟩
theorem vM{t:TypeId}{name:String}{g:FuncId}(hd:LL P t name=some g){n:Nat}(hn:0<n)(v:Value)(w:World):(method n t v name).run P w=.ok (g,v) w:=by
 obtain⟨n,rfl⟩:∃k,n=k+1:=⟨n - 1,by omega⟩
 simp only[LL,b44]at hd;obtain⟨i,h1,m,h2,h3⟩:=hd;split at h3
 ·rename_i hp;have hp':m.path.toList=[]:=by simpa[Array.isEmpty]using hp
  split at h3
  ·cases h3
  ·rename_i f d hnp hf hu;cases h3;unfold method
   have hrec:∀wr,(receiverAt t (.val v) false wr).run P w=.ok v w:=by
    intro wr;unfold receiverAt;rw[Sem.run_bind,run_underlying hu,Result.andThen_ok];cases d<;>first|rfl|(exact(hnp _ rfl).elim)
   simp[typeInfo,h1,h2,hp',hp,follow,hf,hrec]
  ·cases h3
 ·cases h3
set_option maxHeartbeats 4000000 in
theorem sA{o:Oper}{ao:I7}(hc:Cu P o=some ao)(hs:St σ h env N a)(hd:∀d,o.dst=some d->d<N){K:AV->A3->Prop}(hk:E9 P ao env h K)(Q:Exit->Act->World->Prop):
  o.wp P a σ.w (QT σ N env o.dst K) Q:=by
 obtain⟨dst,op,type,pos,after,guard⟩:=o;have he:=hs.env;cases op<;>simp only[Cu]at hc<;>(try (cases hc;done))
 case move x=>
  simp only[b43]at hc;obtain⟨y,hy,rfl⟩:=hc;obtain⟨av,hr,hk⟩:=H3 he hy hk;exact O1 (σ':=σ) hs hd (by simp[execOp]) (Le.refl σ) hs.inv hr hk Q
 case assign x=>
  simp only[b43]at hc;obtain⟨y,hy,rfl⟩:=hc;obtain⟨av,hr,hk⟩:=H3 he hy hk;exact O1 (σ':=σ) hs hd (by simp[execOp]) (Le.refl σ) hs.inv hr hk Q
 case pick c x y=>
  simp only[b44,b43]at hc;obtain⟨c',hc',x',hx,y',hy,rfl⟩:=hc;obtain⟨cv,hr,hk⟩:=H3 he hc' hk;unfold Ga at hk;split at hk
  ·rename_i t;generalize hce:a.eval c=ce at hr;cases hr with
   |v _ _=>
   cases t with
   |true=>
    obtain⟨av,hr,hk⟩:=H3 he hx (hk.1 rfl);exact O1 (σ':=σ) hs hd (by simp[execOp,hce,asBool]) (Le.refl σ) hs.inv hr hk Q
   |false=>
    obtain⟨av,hr,hk⟩:=H3 he hy (hk.2 rfl);exact O1 (σ':=σ) hs hd (by simp[execOp,hce,asBool]) (Le.refl σ) hs.inv hr hk Q
  ·exact hk.elim
 case alloc e=>
  split at hc
  ·rename_i u hbu;cases hc;obtain⟨σ',g1,g2,g3,g4⟩:=b0q hs.inv e u;refine O1 (σ':=σ') hs hd ?_ g2 g3 g4 hk Q;rw[g1];simp[execOp,Instr.alloc,Hb (a3h P hbu),newVar,newRow,Value.cells]
  simp only[b44,b43]at hc;obtain⟨z,hz,zs,hzs,rfl⟩:=hc;obtain⟨σ',g1,g2,g3,g4⟩:=PT hs.inv (Dc (σ:=σ) hzs) e;refine O1 (σ':=σ') hs hd ?_ g2 g3 g4 hk Q;rw[g1];simp[execOp,Instr.alloc,Hb hz,newVar,newRow]
 case box e x=>
  simp only[b43]at hc;obtain⟨y,hy,rfl⟩:=hc;obtain⟨av,hr,ht,hk⟩:=H3 he hy hk;obtain⟨σ',g1,g2,g3,g4⟩:=PT hs.inv (hr.cells (λvs h=>by subst h;simp[AV.isTuple]at ht)) e;refine O1 (σ':=σ') hs hd ?_ g2 g3 g4 hk Q;rw[g1];simp[execOp,Instr.box,newVar,newRow]
 case build t parts=>
  split at hc
  ·rename_i fs hu;split at hc
   ·rename_i hall;simp only[b44,b43]at hc;obtain⟨z,hz,zs,hzs,ps,hps,rfl⟩:=hc;simp only[E9]at hk;split at hk
    ·rename_i pv hpv;split at hk
     ·rename_i cells hf;obtain⟨q1,q2⟩:=Nm he hps hpv;have hpl:=r7 (P:=P) fs.toList (λf hf=>by simpa using (List.all_eq_true.1 hall) f hf) σ.w
      obtain⟨cs,g1,g2⟩:=QP (σ:=σ) (λi=>(fs.toList.map λf=>(f.offset,((P.info? f.type).map (·.size)).getD 0)).toArray[i]?) (parts.toList.map λ(i,x)=>(i,a.eval x)) pv zs z.cells cells (Dc hzs) q1 (λi b hb=>by
       obtain⟨k,x,e1,e2,e3⟩:=q2 i b hb;refine⟨k,x,e1,?_,e3⟩;simp only[qV,b44,b43]at e2;obtain⟨f,hf,fi,hfi,e4⟩:=e2;rw[<-e4];simp[hf,hfi]) hf
      refine O1 (σ':=σ) hs hd ?_ (Le.refl σ) hs.inv (Rel.agg_mk' g2) hk Q;simp only[execOp,Instr.build,Sem.run_bind,Hb hz,Result.andThen_ok,run_underlying hu]
      have:(fs.mapM λf=>(do pure (f.offset,<-sizeOf f.type):Sem (Nat × Nat))).run P σ.w=.ok (fs.toList.map λf=>(f.offset,((P.info? f.type).map (·.size)).getD 0)).toArray σ.w:=by
       rw[Array.mapM_eq_mapM_toList];simp only[Sem.run_map,hpl,Result.andThen_ok]
      rw[this];simp only[Result.andThen_ok,Array.toList_map];rw[g1];simp
     ·exact hk.elim
    ·exact hk.elim
   ·cases hc
  ·rename_i n e hu;simp only[b44,b43]at hc;obtain⟨ie,hie,z,hz,zs,hzs,ps,hps,rfl⟩:=hc;simp only[E9]at hk;split at hk
   ·rename_i pv hpv;split at hk
    ·rename_i cells hf;obtain⟨q1,q2⟩:=Nm he hps hpv;obtain⟨cs,g1,g2⟩:=QP (σ:=σ) (λi=>some (i*ie.size,ie.size)) (parts.toList.map λ(i,x)=>(i,a.eval x)) pv zs z.cells cells (Dc hzs) q1 q2 hf;refine O1 (σ':=σ) hs hd ?_ (Le.refl σ) hs.inv (Rel.agg_mk' g2) hk Q;simp[execOp,Instr.build,Hb hz,run_underlying hu,sizeOf,typeInfo,hie,g1]
    ·exact hk.elim
   ·exact hk.elim
  ·cases hc
 case buildSlice t len parts=>
  split at hc
  ·rename_i e hu;simp only[b44]at hc;obtain⟨ie,hie,z,hz,zs,hzs,ps,hps,hc⟩:=hc;split at hc
   ·rename_i hcond;obtain⟨⟨c1,c2,c3,c4,c5,c6⟩,c7,c8⟩:=hcond;cases hc;obtain⟨l1,l2⟩:=a8f c1;obtain⟨q1,q2⟩:=Nm he hps (l2 env);obtain⟨cells,hcells⟩:=Option.isSome_iff_exists.1 c8
    have hF:∀c∈W8 ie.size len zs,c=.v (.bool false):=by
     intro c hc;obtain⟨i,_,rfl⟩:=List.mem_map.1 hc;rw[l1,c4,Nat.mod_one];rfl
    obtain⟨f1,f2⟩:=lz _ _ cells (λa ha=>by obtain⟨p,_,rfl⟩:=List.mem_map.1 ha;rfl) hF hcells
    have hce:cells=W8 ie.size len zs:=by
     have e1:=List.eq_replicate_of_mem f2;have e2:=List.eq_replicate_of_mem hF;rw[e1,f1];exact e2.symm
    rw[hce]at hcells
    obtain⟨σ',z',g1,g2,g3,g4⟩:=b2m (P:=P) (t:=t) hs.inv hu hie (GN hz hie) c3 c4 c2 (Dc (σ:=σ) hzs) c7 q1 (λi b hb=>by
     obtain⟨k,x,e1,e2,e3⟩:=q2 i b hb;exact⟨k,x,e1,by simpa using e2,e3⟩) hcells
    have hk:MV h ie.size ie.bytes zs (.v (.int .i64 len)) (.v (.int .i64 len)) K\/RH h ie.size ie.bytes (.v (.int .i64 len)) (.v (.int .i64 len)) K:=hk;rcases hk with hk|hk
    ·obtain⟨_,hk⟩:=hk;simp only[Int.toNat_natCast]at hk;refine O1 (σ':=σ') hs hd ?_ g2 g3 g4 hk Q;have:(parts.map λ(i,x)=>(i,a.eval x))=(parts.toList.map λ(i,x)=>(i,a.eval x)).toArray:=by apply Array.ext';simp
     simp only[execOp,this,Sem.run_bind,g1,Result.andThen_ok,Sem.run_pure]
    ·obtain⟨⟨h0,_⟩,_⟩:=hk;omega
   ·split at hc
    ·rename_i hcond;obtain⟨c1,c2,c3⟩:=hcond;cases hc;simp only[E9]at hk;split at hk
     ·rename_i pv hpv;split at hk
      ·rename_i cells hf;obtain⟨hlen,hk⟩:=hk;obtain⟨q1,q2⟩:=Nm he hps hpv
       obtain⟨σ',z',g1,g2,g3,g4⟩:=a3e (P:=P) (t:=t) hs.inv hu hie (GN hz hie) c1 (Oy (Dc (σ:=σ) hzs) c2 c3) q1 (λi b hb=>by
        obtain⟨k,x,e1,e2,e3⟩:=q2 i b hb;exact⟨k,x,e1,by simpa using e2,e3⟩) hf hlen
       refine O1 (σ':=σ') hs hd ?_ g2 g3 g4 hk Q;have:(parts.map λ(i,x)=>(i,a.eval x))=(parts.toList.map λ(i,x)=>(i,a.eval x)).toArray:=by apply Array.ext';simp
       simp only[execOp,this,Sem.run_bind,g1,Result.andThen_ok,Sem.run_pure]
      ·exact hk.elim
     ·exact hk.elim
    ·cases hc
  ·cases hc
 case range t x=>
  split at hc
  ·rename_i hu;simp only[b43]at hc;obtain⟨y,hy,rfl⟩:=hc;obtain⟨av,hr,hk⟩:=H3 he hy hk;unfold Yb at hk;split at hk
   ·rename_i s;generalize hxe:a.eval x=xe at hr;cases hr with
    |v _ _=>
    obtain⟨σ',g1,g2,g3,g4⟩:=QN hs.inv (cells:=[.it s 0]) (.stringIter s 0) λσ' _ hb=>.it s 0 hb
    refine O1 (σ':=σ') hs hd ?_ g2 g3 g4 hk Q;rw[g1];simp[execOp,hxe,Instr.range,run_underlying hu,run_newObj]
   ·exact hk.elim
  ·cases hc
 case next x st=>
  split at hc
  ·rename_i hst;subst hst;simp only[b43]at hc;obtain⟨y,hy,rfl⟩:=hc;obtain⟨av,hr,hk⟩:=H3 he hy hk;unfold Lu at hk;split at hk
   ·rename_i n;split at hk
    ·rename_i s p hcs;generalize hxe:a.eval x=xe at hr;cases hr with
     |ptr _ _ b hb=>
     obtain⟨b',hb',hbk⟩:=hs.inv.blk n _ hcs;rw[hb]at hb';cases hb';have hit:=hbk.iter
     by_cases hp:p<s.size
     ·have hlt:=hbk.lt;obtain⟨hle,hinv⟩:=OR (cells':=[.it s (p+(Utf8.decode s p).2)]) (w':={σ.w with heap:=σ.w.heap.setIfInBounds b (.stringIter s (p+(Utf8.decode s p).2))}) hs.inv hb hcs (by simp) (by simp) (λi hi=>by simp[Array.getElem?_setIfInBounds_ne (Ne.symm hi)]) rfl rfl rfl (λo ho=>by simp[World.cell?,hit]at ho) (λ_=>.it _ _ (by simp[hlt])) (λhz=>by cases hz with|cells _ cs rest elem hh _=>rw[hit]at hh;cases hh) (by simp) (λx hx=>by simp[World.shape?,hit]at hx);refine O1 (σ':={σ with w:={σ.w with heap:=σ.w.heap.setIfInBounds b (.stringIter s (p+(Utf8.decode s p).2))}}) hs hd ?_ hle hinv (Rel.tuple_mk (xs:=#[.bool true,goInt p,.int .i32 (Utf8.decode s p).1]) (by simp) ?_) (hk.1 hp) Q
      ·have hrun:(Instr.next (.pointer (some ⟨b,0,none⟩)) true type).run P σ.w=.ok (.tuple #[.bool true,goInt p,.int .i32 (Utf8.decode s p).1]) {σ.w with heap:=σ.w.heap.setIfInBounds b (.stringIter s (p+(Utf8.decode s p).2))}:=by
        simp only[Instr.next,getObj,setObj,Sem.run_bind,Sem.run,hit,Result.andThen,hp,if_true];simp[hlt]
       simp only[execOp,hxe,Sem.run_bind,hrun,Result.andThen_ok,Sem.run_pure]
      ·intro i av hi
       match i with
       |0=>simp at hi;subst hi;exact⟨_,rfl,.v _ rfl⟩
       |1=>simp at hi;subst hi;exact⟨_,rfl,.v _ rfl⟩
       |2=>simp at hi;subst hi;exact⟨_,rfl,.v _ rfl⟩
       |k+3=>simp at hi
     ·refine O1 (σ':=σ) hs hd ?_ (Le.refl σ) hs.inv (Rel.tuple_mk (xs:=#[.bool false]) (by simp) ?_) (hk.2 hp) Q
      ·have hrun:(Instr.next (.pointer (some ⟨b,0,none⟩)) true type).run P σ.w=.ok (.tuple #[.bool false]) σ.w:=by
        simp only[Instr.next,getObj,setObj,Sem.run_bind,Sem.run,hit,Result.andThen,hp,if_false]
        try rfl
       simp only[execOp,hxe,Sem.run_bind,hrun,Result.andThen_ok,Sem.run_pure]
      ·intro i av hi
       match i with
       |0=>simp at hi;subst hi;exact⟨_,rfl,.v _ rfl⟩
       |k+1=>simp at hi
    ·exact hk.elim
   ·exact hk.elim
  ·cases hc
 case makeSlice t x y=>
  split at hc
  ·rename_i e hu;simp only[b44]at hc;obtain⟨ie,hie,z,hz,zs,hzs,hc⟩:=hc;split at hc
   ·rename_i hcond;obtain⟨c2,c3,c4⟩:=hcond;simp only[b44,b43]at hc;obtain⟨x',hx,y',hy,rfl⟩:=hc;obtain⟨xv,hxr,hk⟩:=H3 he hx hk;obtain⟨yv,hyr,hk⟩:=H3 he hy hk;obtain⟨σ',av,h',z',g1,g2,g3,g4,g5⟩:=hk.elim (a44 (P:=P) (t:=t) hs.inv hu hie (GN hz hie) (Dc (σ:=σ) hzs) c2 c3 c4 hxr hyr) (a69 (P:=P) (t:=t) hs.inv hu hie (GN hz hie) (Dc (σ:=σ) hzs) c2 c3 c4 hxr hyr);refine O1 (σ':=σ') hs hd ?_ g2 g3 g4 g5 Q;simp only[execOp,Sem.run_bind,g1,Result.andThen_ok,Sem.run_pure]
   ·cases hc
  ·cases hc
 case load t x=>
  simp only[b44,b43]at hc;obtain⟨n,hn,y,hy,rfl⟩:=hc;obtain⟨av,hr,hk⟩:=H3 he hy hk;exact AQ hs hd rfl (od (P:=P) hs.inv hn hr hk) Q
 case store t p x=>
  split at hc
  ·rename_i hdn;have hdn':dst=none:=hdn;subst hdn';simp only[b44,b43]at hc;obtain⟨n,⟨ti,hti,rfl⟩,p',hp,x',hx,rfl⟩:=hc;obtain⟨pv,hpr,hk⟩:=H3 he hp hk;obtain⟨xv,hxr,hk⟩:=H3 he hx hk;obtain⟨σ',h',g1,g2,g3,g4⟩:=a5a (P:=P) (t:=t) hs.inv (by rw[hti];rfl) hpr hxr hk;unfold Oper.wp;rw[show(execOp a.eval ⟨none,.store t p x,type,pos,after,guard⟩).run P σ.w=.ok .skip σ'.w by simp[execOp,g1]];exact⟨σ',h',_,rfl,g2,⟨g3,hs.env.mono g2,hs.size,hs.defers⟩,g4⟩
  ·cases hc
 case nilCheck x=>
  simp only[b43]at hc;obtain⟨y,hy,rfl⟩:=hc;obtain⟨av,hr,hk⟩:=H3 he hy hk;generalize hxe:a.eval x=xe at hr;unfold YM at hk;split at hk
  ·have hr0:=hr;cases hr with
   |ptr _ _ b hb=>exact O1 (σ':=σ) hs hd (by simp[execOp,hxe]) (Le.refl σ) hs.inv hr0 hk Q
  ·have hr0:=hr;cases hr with
   |G6 _ _ b o xs q1 q2=>exact O1 (σ':=σ) hs hd (by simp[execOp,hxe]) (Le.refl σ) hs.inv hr0 hk Q
  ·have hr0:=hr;cases hr with
   |clo _ _ _ fs cs q1 q2 x y q3 q4 q5 q6=>exact O1 (σ':=σ) hs hd (by simp[execOp,hxe]) (Le.refl σ) hs.inv hr0 hk Q
  ·exact hk.elim
 case binOp op t x y u=>
  split at hc
  ·rename_i c hcu;split at hc
   ·rename_i hcond;obtain⟨hop,hif⟩:=hcond;simp only[b44,b43]at hc;obtain⟨x',hx,y',hy,rfl⟩:=hc;obtain⟨xv,hxr,hk⟩:=H3 he hx hk;obtain⟨yv,hyr,hk⟩:=H3 he hy hk;obtain⟨b,k1,k2⟩:=zW (P:=P) hcu hxr hyr hk x y hif op hop;refine O1 (σ':=σ) (z:=.bool (if op=.eql then b else !b)) hs hd ?_ (Le.refl σ) hs.inv (.v _ rfl) ?_ Q
    ·simp only[execOp];rw[Sem.run_bind,k2];rfl
    ·by_cases hop2:op=.eql
     ·simpa[hop2]using k1
     ·simpa[hop2]using k1
   ·cases hc
  ·simp only[b44,b43]at hc;obtain⟨x',hx,y',hy,rfl⟩:=hc;obtain⟨xv,hxr,hk⟩:=H3 he hx hk;obtain⟨yv,hyr,hk⟩:=H3 he hy hk;exact AQ hs hd rfl (o5 (P:=P) hxr hyr hk t x y) Q
 case unOp op t x=>
  simp only[b43]at hc;obtain⟨y,hy,rfl⟩:=hc;obtain⟨av,hr,hk⟩:=H3 he hy hk;exact AQ hs hd rfl (o6 (P:=P) hr hk) Q
 case convert s d x=>
  split at hc
  ·rename_i hb;simp only[b43]at hc;obtain⟨y,hy,rfl⟩:=hc;obtain⟨av,hr,hk⟩:=H3 he hy hk;unfold au at hk;split at hk
   ·rename_i str;cases hxe:a.eval x<;>rw[hxe]at hr<;>(try (cases hr;done))
    cases hr;obtain⟨σ',z,g1,g2,g3,g4⟩:=a10 (P:=P) hs.inv hb str;exact O1 (σ':=σ') hs hd (by simp[execOp,hxe,g1]) g2 g3 g4 hk Q
   ·exact hk.elim
  simp only[b44,b43]at hc;obtain⟨c,hcc,y,hy,rfl⟩:=hc;obtain⟨av,hr,hk⟩:=H3 he hy hk;exact AQ hs hd rfl (rn (P:=P) hcc hr hk) Q
 case makeInterface t x=>
  split at hc
  ·cases hc
  ·rename_i d hu hni;simp only[b43]at hc;obtain⟨y,hy,rfl⟩:=hc;obtain⟨av,hr,hk⟩:=H3 he hy hk;refine O1 (σ':=σ) (z:=.iface t (a.eval x)) hs hd ?_ (Le.refl σ) hs.inv (.iface t av _ hr) hk Q
   have:(Instr.makeInterface t (a.eval x)).run P σ.w=.ok (.iface t (a.eval x)) σ.w:=by
    simp only[Instr.makeInterface,Sem.run_bind,run_underlying hni,Result.andThen_ok];cases d<;>first|rfl|exact absurd hni (hu _)
   simp[execOp,this]
  ·cases hc
 case makeFunc fn first captured=>
  simp only[b44,b43]at hc;obtain⟨f,hf,c,hcc,rfl⟩:=hc;simp only[E9]at hk;split at hk
  ·rename_i fv cv hfv hcv;obtain⟨q1,q2⟩:=EH he hf hfv;obtain⟨q3,q4⟩:=EH he hcc hcv;refine O1 (σ':=σ) (z:=.func fn (first.map a.eval) (captured.map a.eval)) hs hd (by simp[execOp,Instr.makeFunc]) (Le.refl σ) hs.inv (Rel.clo_mk (by simpa using q1) (by simpa using q3) (λi av hi=>?_) (λi av hi=>?_)) hk Q
   ·obtain⟨x,hx,hr⟩:=q2 i av hi;exact⟨x,by simpa using hx,hr⟩
   ·obtain⟨x,hx,hr⟩:=q4 i av hi;exact⟨x,by simpa using hx,hr⟩
  ·exact hk.elim
 case slice t x lo hi mx=>
  split at hc
  ·rename_i hu;split at hc
   ·rename_i hmx;simp only[b44,b43]at hc;obtain⟨x',hx,lo',hlo,hi',hhi,rfl⟩:=hc;obtain⟨xv,hxr,hk⟩:=H3 he hx hk;split at hk
    ·rename_i lv hv hlv hhv;have hm0:mx=none:=by simpa using hmx
     subst hm0;exact AQ hs hd rfl (rQ (P:=P) hu hxr (JB he hlo hlv).1 (JB he hhi hhv).1 hk) Q
    ·exact hk.elim
   ·cases hc
  ·rename_i e hu;split at hc
   ·rename_i hmx;simp only[b44,b43]at hc;obtain⟨ie,hie,x',hx,lo',hlo,hi',hhi,mx',hmx',rfl⟩:=hc;obtain⟨xv,hxr,hk⟩:=H3 he hx hk;split at hk
    ·rename_i lv hv mv hlv hhv hmv;refine AQ hs hd rfl (xu (P:=P) hu hie hxr (JB he hlo hlv).1 (JB he hhi hhv).1 (JB he hmx' hmv).1 hk ?_) Q;intro h1;have h2:=(JB he hmx' hmv).2;have h3:=(JB he hhi hhv).2;have h4:mv.isSome=true:=by cases mv<;>simp_all
     rw[h4]at h2;have:=hmx h2;rw[h3]at this;intro h5;rw[h5]at this;cases this
    ·exact hk.elim
   ·cases hc
  ·cases hc
 case fieldAddr t x f=>
  split at hc
  ·rename_i fs hu;simp only[b44]at hc;obtain⟨fd,hfd,i,hi,hc⟩:=hc;split at hc
   ·rename_i hz;simp only[b43]at hc;obtain⟨y,hy,rfl⟩:=hc;obtain⟨av,hr,hk⟩:=H3 he hy hk;exact AQ hs hd rfl (b0r (P:=P) hu hfd hi hz hr hk) Q
   ·cases hc
  ·cases hc
 case field t x f=>
  split at hc
  ·rename_i fs hu;simp only[b44,b43]at hc;obtain⟨fd,hfd,n,hn,y,hy,rfl⟩:=hc;obtain⟨av,hr,hk⟩:=H3 he hy hk;obtain⟨bv,z,xs,k1,k2,k3,k4⟩:=nA (P:=P) hn hr hk σ.w;exact AQ hs hd rfl ⟨bv,z,k2,k3,by simp[Instr.field,run_underlying hu,hfd,k1,asAgg,k4]⟩ Q
  ·cases hc
 case indexAddr t x i=>
  split at hc
  ·rename_i e hu;simp only[b44,b43]at hc;obtain⟨ie,hie,x',hx,i',hi,rfl⟩:=hc;obtain⟨xv,hxr,hk⟩:=H3 he hx hk;obtain⟨iv,hir,hk⟩:=H3 he hi hk;exact AQ hs hd rfl (sN (P:=P) hu hie hxr hir hk) Q
  ·rename_i len e hu;simp only[b44,b43]at hc;obtain⟨ie,hie,x',hx,i',hi,rfl⟩:=hc;obtain⟨xv,hxr,hk⟩:=H3 he hx hk;obtain⟨iv,hir,hk⟩:=H3 he hi hk;exact AQ hs hd rfl (b13 (P:=P) hu hie (uE hs.inv hxr) hir hk) Q
  ·cases hc
 case index t x i=>
  split at hc
  ·rename_i hu;simp only[b44,b43]at hc;obtain⟨x',hx,i',hi,rfl⟩:=hc;obtain⟨xv,hxr,hk⟩:=H3 he hx hk;obtain⟨iv,hir,hk⟩:=H3 he hi hk;exact AQ hs hd rfl (vw (P:=P) hu hxr hir hk) Q
  ·rename_i len e hu;simp only[b44,b43]at hc;obtain⟨ie,hie,n,hn,x',hx,i',hi,rfl⟩:=hc;obtain⟨xv,hxr,hk⟩:=H3 he hx hk;obtain⟨iv,hir,hk⟩:=H3 he hi hk;exact AQ hs hd rfl (a00 (P:=P) hu hie hn hxr hir hk) Q
  ·cases hc
 case typeAssert x xt t ok=>
  split at hc
  ·cases hc
  ·rename_i d hni hu;simp only[b44,b43]at hc;obtain⟨z,hz,za,hza,y,hy,rfl⟩:=hc;obtain⟨av,hr,hk⟩:=H3 he hy hk;exact AQ hs hd rfl (tL (P:=P) hu (λm hm=>hni m hm) (Hb hz σ.w) (ae hza) hr hk) Q
  ·cases hc
 case extract x i=>
  simp only[b43]at hc;obtain⟨y,hy,rfl⟩:=hc;obtain⟨av,hr,hk⟩:=H3 he hy hk;exact AQ hs hd rfl (a7l (P:=P) hr hk) Q
 case makeMap t r=>
  cases r with
  |some r=>cases hc
  |none=>
   cases hc;obtain⟨σ',g1,g2,g3,g4⟩:=QN hs.inv (cells:=[.tuple []]) (.map #[] 0) λσ' _ hb=>.map #[] 0 [] hb trivial
   have g5:Rel σ' (.mp h.A5.length) (.map (some σ.w.heap.size)):=by
    cases g4 with
    |ptr _ _ _ hb=>exact .mp _ _ hb
   refine O1 (σ':=σ') hs hd ?_ g2 g3 g5 hk Q;rw[g1];simp[execOp,Instr.makeMap,run_newObj]
 case lookup t x k ok=>
  split at hc
  ·rename_i kt vt hu;simp only[b44,b43]at hc;obtain⟨i,hks,z,hz,za,hza,x',hx,k',hk',rfl⟩:=hc;obtain⟨xv,hxr,hk⟩:=H3 he hx hk;obtain⟨kv,hkr,hk⟩:=H3 he hk' hk;exact AQ hs hd rfl (a5w (P:=P) hs.inv hu hks (Hb hz σ.w) (ae hza) hxr hkr hk) Q
  ·cases hc
 case mapUpdate t m k x=>
  split at hc
  ·rename_i kt vt hu;split at hc
   ·rename_i hdn;have hdn':dst=none:=hdn;subst hdn';simp only[b44,b43]at hc;obtain⟨i,hks,m',hm,k',hk',x',hx,rfl⟩:=hc;obtain⟨mv,hmr,hk⟩:=H3 he hm hk;obtain⟨kv,hkr,hk⟩:=H3 he hk' hk;obtain⟨xv,hxr,hk⟩:=H3 he hx hk;obtain⟨σ',h',g1,g2,g3,g4⟩:=xC (P:=P) hs.inv hu hks hmr hkr hxr hk;unfold Oper.wp;rw[show(execOp a.eval ⟨none,.mapUpdate t m k x,type,pos,after,guard⟩).run P σ.w=.ok .skip σ'.w by simp[execOp,g1]];exact⟨σ',h',_,rfl,g2,⟨g3,hs.env.mono g2,hs.size,hs.defers⟩,g4⟩
   ·cases hc
  ·cases hc
 case call c=>
  obtain⟨callee,args,argTypes⟩:=c;unfold Xf at hc;split at hc
  ·rename_i heq;have heq':callee=.builtin .len:=heq;subst heq';split at hc
   ·rename_i x t hxl htl;simp only[b44,b43]at hc;obtain⟨s,hs1,y,hy,rfl⟩:=hc;obtain⟨av,hr,hk⟩:=H3 he hy hk;have ha:args=#[x]:=by apply Array.ext';exact hxl
    have hb:argTypes=#[t]:=by apply Array.ext';exact htl
    subst ha hb;refine AQ hs hd ?_ (b3x (P:=P) (ty:=type) hs1 hr hk) Q;simp[execOp,resolve,invoke,builtin]
   ·cases hc
  ·rename_i heq;have heq':callee=.builtin .append:=heq;subst heq';split at hc
   ·rename_i x y t u hxl htl;have ha:args=#[x,y]:=by apply Array.ext';exact hxl
    have hb:argTypes=#[t,u]:=by apply Array.ext';exact htl
    subst ha hb
    have key:∀(e:TypeId) (du:TypeDesc),P.underlying t=some (.slice e)->P.underlying u=some du->((∃e,du=.slice e)\/du=.string)->
      (((P.info? e).bind λie=>(BN P e).bind λz=>if z.cells.size=ie.size/\ie.bytes≠0 then(G1 x).bind λx=>(G1 y).map λy=>I7.append e ie.size ie.bytes x y else none)=some ao)->
      Oper.wp P ⟨dst,.call ⟨.builtin .append,#[x,y],#[t,u]⟩,type,pos,after,guard⟩ a σ.w (QT σ N env dst K) Q:=by
     intro e du hu1 hu2 hdu hc;simp only[b44]at hc;obtain⟨ie,hie,z,hz,hc⟩:=hc;split at hc
     ·rename_i hcond;simp only[b44,b43]at hc;obtain⟨x',hx,y',hy,rfl⟩:=hc;obtain⟨xv,hxr,hk⟩:=H3 he hx hk;obtain⟨yv,hyr,hk⟩:=H3 he hy hk;obtain⟨σ',h',av,z',g1,g2,g3,g4,g5⟩:=hk.elim (uP (P:=P) (ty:=type) hs.inv hu1 hie (GN hz hie) hcond.1 hcond.2 hu2 hdu hxr hyr) λhk=>hk.elim (rO (P:=P) (ty:=type) hs.inv hu1 hie (GN hz hie) hcond.1 hcond.2 hu2 hdu hxr hyr) (xb (P:=P) (ty:=type) hs.inv hu1 hie (GN hz hie) hcond.1 hcond.2 hu2 hdu hxr hyr)
      exact O1 (σ':=σ') hs hd (by simp[execOp,resolve,invoke,builtin,g1]) g2 g3 g4 g5 Q
     ·cases hc
    split at hc
    ·rename_i e e2 hu1 hu2;exact key e _ hu1 hu2 (.inl ⟨_,rfl⟩) hc
    ·rename_i e hu1 hu2;exact key e _ hu1 hu2 (.inr rfl) hc
    ·cases hc
   ·cases hc
  ·rename_i heq;have heq':callee=.builtin .min:=heq;subst heq';simp only[b43]at hc;obtain⟨l',hl,rfl⟩:=hc;simp only[E9]at hk;split at hk
   ·rename_i l hlv;unfold Pm at hk;split at hk
    ·rename_i v hv;obtain⟨q1,q2⟩:=sS (P:=P) (xs:=args.map a.eval) hv (by simpa using EH he hl hlv) argTypes type σ.w;exact O1 (σ':=σ) hs hd (by simp[execOp,resolve,invoke,builtin,q2]) (Le.refl σ) hs.inv (.v _ q1) hk Q
    ·exact hk.elim
   ·exact hk.elim
  ·rename_i heq;have heq':callee=.builtin .max:=heq;subst heq';simp only[b43]at hc;obtain⟨l',hl,rfl⟩:=hc;simp only[E9]at hk;split at hk
   ·rename_i l hlv;unfold Pm at hk;split at hk
    ·rename_i v hv;obtain⟨q1,q2⟩:=a0g (P:=P) (xs:=args.map a.eval) hv (by simpa using EH he hl hlv) argTypes type σ.w;exact O1 (σ':=σ) hs hd (by simp[execOp,resolve,invoke,builtin,q2]) (Le.refl σ) hs.inv (.v _ q1) hk Q
    ·exact hk.elim
   ·exact hk.elim
  ·rename_i heq;have heq':callee=.builtin .unsafeSliceData:=heq;subst heq';split at hc
   ·rename_i x hxl;simp only[b43]at hc;obtain⟨y,hy,rfl⟩:=hc;obtain⟨av,hr,hk⟩:=H3 he hy hk;have ha:args=#[x]:=by apply Array.ext';exact hxl
    subst ha;refine AQ hs hd ?_ (wt (P:=P) hr hk argTypes type) Q;simp[execOp,resolve,invoke,builtin]
   ·cases hc
  ·rename_i heq;have heq':callee=.builtin .unsafeString:=heq;subst heq';split at hc
   ·rename_i x y pt it hxl htl;have ha:args=#[x,y]:=by apply Array.ext';exact hxl
    have hb:argTypes=#[pt,it]:=by apply Array.ext';exact htl
    subst ha hb;split at hc
    ·rename_i u hpt;split at hc
     ·rename_i hcu;simp only[b44,b43]at hc;obtain⟨p',hp,n',hn,rfl⟩:=hc;obtain⟨pv,hpr,hk⟩:=H3 he hp hk;obtain⟨nv,hnr,hk⟩:=H3 he hn hk;obtain⟨σ',av,z,g1,g2,g3,g4,g5⟩:=tw (P:=P) (it:=it) (ty:=type) hs.inv hpt hcu hpr hnr hk;exact O1 (σ':=σ') hs hd (by simp[execOp,resolve,invoke,builtin,g1]) g2 g3 g4 g5 Q
     ·cases hc
    ·cases hc
   ·cases hc
  ·rename_i heq;have heq':callee=.builtin .cap:=heq;subst heq';split at hc
   ·rename_i x t hxl htl;have ha:args=#[x]:=by apply Array.ext';exact hxl
    have hb:argTypes=#[t]:=by apply Array.ext';exact htl
    subst ha hb;split at hc
    ·rename_i e hte;simp only[b43]at hc;obtain⟨y,hy,rfl⟩:=hc;obtain⟨av,hr,hk⟩:=H3 he hy hk;refine AQ hs hd ?_ (xr (P:=P) (ty:=type) hte hr hk) Q;simp[execOp,resolve,invoke,builtin]
    ·cases hc
   ·cases hc
  ·rename_i heq;have heq':callee=.builtin .copy:=heq;subst heq';split at hc
   ·rename_i x y t u hxl htl;have ha:args=#[x,y]:=by apply Array.ext';exact hxl
    have hb:argTypes=#[t,u]:=by apply Array.ext';exact htl
    subst ha hb;split at hc
    ·rename_i e hte;simp only[b44,b43]at hc;obtain⟨ie,hie,x',hx,y',hy,rfl⟩:=hc;obtain⟨xv,hxr,hk⟩:=H3 he hx hk;obtain⟨yv,hyr,hk⟩:=H3 he hy hk;refine AQ hs hd ?_ (j5 (P:=P) (u:=u) (ty:=type) hte hie hxr hyr hk) Q;simp[execOp,resolve,invoke,builtin]
    ·cases hc
   ·cases hc
  ·rename_i heq;have heq':callee=.builtin .clear:=heq;subst heq';split at hc
   ·rename_i x t hxl htl;have ha:args=#[x]:=by apply Array.ext';exact hxl
    have hb:argTypes=#[t]:=by apply Array.ext';exact htl
    subst ha hb;split at hc
    ·rename_i e hte;simp only[b44]at hc;obtain⟨ie,hie,z,hz,zs,hzs,hc⟩:=hc;split at hc
     ·rename_i hcond;simp only[b43]at hc;obtain⟨y,hy,rfl⟩:=hc;obtain⟨av,hr,hk⟩:=H3 he hy hk;obtain⟨σ',h',g1,g2,g3,g4⟩:=xy (P:=P) (ty:=type) hs.inv hte hie (GN hz hie) hcond (Dc (σ:=σ) hzs) hr hk;exact O1 (σ':=σ') hs hd (by simp[execOp,resolve,invoke,builtin,g1]) g2 g3 a2t g4 Q
     ·cases hc
    ·cases hc
   ·cases hc
  ·rename_i f heq;have heq':callee=.value f:=heq;subst heq';split at hc
   ·rename_i hx;obtain⟨g,fn,rfl,hfn,hb,hn,hname⟩:=a2m P hx;split at hc
    ·rename_i s b hxl;have ha:args=#[s,b]:=by apply Array.ext';exact hxl
     subst ha;simp only[b44,b43]at hc;obtain⟨s',hs',b',hb',rfl⟩:=hc;obtain⟨sv,hsr,hk⟩:=H3 he hs' hk;obtain⟨bv,hbr,hk⟩:=H3 he hb' hk;obtain⟨av,z,k1,k2,k3⟩:=b33 (P:=P) hsr hbr hk;refine O1 (σ':=σ) hs hd ?_ (Le.refl σ) hs.inv k2 k1 Q;have:=run_callFunc_extern hfn (by rw[hname];rfl) hb hn (a8t hname) #[a.eval s,a.eval b] σ.w;simp[execOp,resolve,show a.eval (.func g)=.func (.func g) #[] #[] from rfl,Deferred.ofValue,invoke,this,k3]
    ·cases hc
   ·rename_i hx;obtain⟨g,fn,rfl,hfn,hb,hn,hname⟩:=yL P hx;split at hc
    ·rename_i s b hxl;have ha:args=#[s,b]:=by apply Array.ext';exact hxl
     subst ha;simp only[b44,b43]at hc;obtain⟨s',hs',b',hb',rfl⟩:=hc;obtain⟨sv,hsr,hk⟩:=H3 he hs' hk;obtain⟨bv,hbr,hk⟩:=H3 he hb' hk;obtain⟨av,z,k1,k2,k3⟩:=a8e (P:=P) hsr hbr hk;refine O1 (σ':=σ) hs hd ?_ (Le.refl σ) hs.inv k2 k1 Q;have:=run_callFunc_extern hfn (by rw[hname];rfl) hb hn (sJ hname) #[a.eval s,a.eval b] σ.w;simp[execOp,resolve,show a.eval (.func g)=.func (.func g) #[] #[] from rfl,Deferred.ofValue,invoke,this,k3]
    ·cases hc
   ·rename_i u hx;obtain⟨g,fn,t,rfl,hfn,hb,hn,hname,hrt,hut⟩:=tj P hx;split at hc
    ·rename_i n hxl;have ha:args=#[n]:=by apply Array.ext';exact hxl
     subst ha;simp only[b43]at hc;obtain⟨n',hn',rfl⟩:=hc;obtain⟨nv,hnr,hk⟩:=H3 he hn' hk;obtain⟨σ',h',av,z,g1,g2,g3,g4,g5⟩:=a1g (P:=P) (ps:=fn.params) hs.inv hut hnr hk;refine O1 (σ':=σ') hs hd ?_ g2 g3 g4 g5 Q;have:=run_callFunc_extern hfn (by rw[hname];rfl) hb hn (b1r hname) #[a.eval n] σ.w;rw[hrt]at this;simp[execOp,resolve,show a.eval (.func g)=.func (.func g) #[] #[] from rfl,Deferred.ofValue,invoke,this,g1]
    ·cases hc
   simp only[b44,b43]at hc;obtain⟨f',hf,l',hl,rfl⟩:=hc;obtain⟨fv,hfr,hk⟩:=H3 he hf hk;generalize hfe:a.eval f=fe at hfr;unfold EC at hk;split at hk
   ·rename_i _ _ g first captured l hlv;obtain⟨fs,cs,rfl,q1,q2,q3,q4⟩:=hfr.clo_inv;obtain⟨⟨fn,hfn,hbody,hname⟩,hcall⟩:=hk
    have hrels:U3 σ (first++l++captured) ((fs++args.map a.eval)++cs).toList:=by
     simp only[Array.toList_append,Array.toList_map];refine U3.append (U3.append ⟨by simpa using q1,λi av hi=>?_⟩ (EH he hl hlv)) ⟨by simpa using q2,λi av hi=>?_⟩
     ·obtain⟨x,hx,hr⟩:=q3 i av hi;exact⟨x,by simpa using hx,hr⟩
     ·obtain⟨x,hx,hr⟩:=q4 i av hi;exact⟨x,by simpa using hx,hr⟩
    have hrun:(execOp a.eval ⟨dst,.call ⟨.value f,args,argTypes⟩,type,pos,after,guard⟩).run P σ.w=.ok (.enter g ((fs++args.map a.eval)++cs)) σ.w:=by
     have hname':fn.name≠ "runtime.NumGoroutine":=by simpa using hname
     have hbody':fn.body≠none:=by intro hb;rw[hb]at hbody;cases hbody
     simp[execOp,resolve,hfe,Deferred.ofValue,invoke,callFunc,hfn,hbody',hname']
    unfold Oper.wp;rw[hrun,Oper.upon_enter];refine(hcall σ _ hs.inv hrels).mono λe w' hq=>?_
    obtain⟨σ',h',av,x,rfl,rfl,g2,g3,g4,g5⟩:=hq;exact⟨σ',h',av,rfl,g2,hs.put g2 g3 hd g4,g5⟩
   ·cases hfr with
    |agg _ _ _ hcell=>exact absurd (hcell 0 _ rfl) (by simp[AV.isCell])
   ·exact hk.elim
  ·rename_i x name heq;have heq':callee=.invoke x name:=heq;subst heq';simp only[b44,b43]at hc;obtain⟨x',hx,l',hl,rfl⟩:=hc;have hk2:EC P (.agg [.tuple (kV P name)]) (evs env (x'::l')) h K:=hk;cases hev:evs env (x'::l') with
   |none=>rw[hev]at hk2;exact hk2.elim
   |some lv=>
    rw[hev]at hk2;have hrel:=EH he (l:=x::args.toList) (l':=x'::l') (by simp[Dk,hx,hl]) hev;unfold EC at hk2;split at hk2
    ·rename_i h1 h2;cases h1
    ·rename_i t xa l h1 h2;cases h1;cases h2;split at hk2
     ·rename_i g hg;obtain⟨⟨fn,hfn,hbody,hname⟩,hcall⟩:=hk2;have hdir:=aD hg;obtain⟨hlen,hget⟩:=hrel;obtain⟨xv,hxv,hxr⟩:=hget 0 _ rfl;have hxe:xv=a.eval x:=by simpa using hxv.symm
      subst hxe;generalize hxq:a.eval x=xq at hxr;cases hxr with
      |iface _ _ v hv=>
       have hrels:U3 σ (xa::l) (#[v]++args.map a.eval).toList:=by
        refine⟨by simpa using hlen,λi av hi=>?_⟩;cases i with
        |zero=>simp at hi;subst hi;exact⟨v,by simp,hv⟩
        |succ i=>
         obtain⟨y,hy,hr⟩:=hget (i+1) av (by simpa using hi);exact⟨y,by simpa using hy,hr⟩
       have hrun:(execOp a.eval ⟨dst,.call ⟨.invoke x name,args,argTypes⟩,type,pos,after,guard⟩).run P σ.w=.ok (.enter g (#[v]++args.map a.eval)) σ.w:=by
        have hm:(method (P.types.size+Made.depth) t v name).run P σ.w=.ok (g,v) σ.w:=vM hdir (Nat.lt_of_lt_of_le (by decide:0<Made.depth) (Nat.le_add_left _ _)) v σ.w;have hname':fn.name≠ "runtime.NumGoroutine":=by simpa using hname
        have hbody':fn.body≠none:=by intro hb;rw[hb]at hbody;cases hbody
        have hz0:(#[Value.iface t v]++args.map a.eval)[0]? =some (.iface t v):=by simp[Array.getElem?_append]
        have hz1:(#[Value.iface t v]++args.map a.eval).extract 1 (#[Value.iface t v]++args.map a.eval).size=args.map a.eval:=by
         apply Array.ext';simp;exact List.take_of_length_le (by simp)
        have hres:(execOp a.eval ⟨dst,.call ⟨.invoke x name,args,argTypes⟩,type,pos,after,guard⟩).run P σ.w=(invoke (.fn (.method name) #[]) (#[Value.iface t v]++args.map a.eval)).run P σ.w:=by
         simp[execOp,resolve,hxq]
        rw[hres];unfold invoke;simp only[hz0,hz1];simp[callMethod,hm,callFunc,hfn,hbody',hname']
       unfold Oper.wp;rw[hrun,Oper.upon_enter];refine(hcall σ _ hs.inv hrels).mono λe w' hq=>?_
       obtain⟨σ',h',av,z,rfl,rfl,g2,g3,g4,g5⟩:=hq;exact⟨σ',h',av,rfl,g2,hs.put g2 g3 hd g4,g5⟩
     ·exact hk2.elim
    ·exact hk2.elim
  ·cases hc
end
structure C2 where
 dst:Option Nat
 op:I7
 guard:Option (Nat × Bool)
def Ae(env:Env):b5m Tmp->Env
 |some d=>(d,.tuple [])::env
 |none=>env
def Lr(env:Env)(g:b5m (Tmp × b5n))(yes no:Prop):Prop:=
 match g with
 |none=>yes
 |some (t,want)=>wv (get env t) λv=>match v with
  |.v (.bool b)=>(b=want->yes)/\(b= !want->no)
  |.tuple []=>no
  |_=>False
def AT(P:Program):b5l C2->Env->A3->(Env->A3->Prop)->Prop
 |[],env,h,K=>K env h
 |o::r,env,h,K=>Lr env o.guard (E9 P o.op env h λav h'=>AT P r (M9 env o.dst av) h' K) (AT P r (Ae env o.dst) h K)
inductive F7 where
 |skip
 |region (ops:List C2)
 |drawn (ord:List (List Nat)) (quiet tail:List C2)
 |late (ord:List (List Nat)) (quiet tail:List C2)
 |seq (a b:F7)
 |cond (c:B9) (a b:F7)
 |block (id:Nat) (a:F7)
 |loop (a:F7)
 |exit (id:Nat)
 |ret
 |scope (a:F7)
 |label (l:Nat)
 |goto (l:Nat)
 |from_ (a:F7) (l:Nat)
def Xg(N:Nat):b5m Tmp->b5n
 |some d=>decide (d<N)
 |none=>true
theorem bE{N:Nat}{o:b5m Tmp}(h:Xg N o):∀d,o=some d->d<N:=by
 rintro d rfl;simpa[Xg]using h
def Ph(P:Program)(N:Nat)(ops:Array Oper)(o:Oper):b5m C2:=
 if Xg N o.dst then
  match o.guard with
  |none=>some ⟨o.dst,(Cu P o).getD .bad,none⟩
  |some (j,b)=>((ops[j]?).bind (·.dst)).map λt=>⟨o.dst,(Cu P o).getD .bad,some (t,b)⟩
 else none
def W3(P:Program)(N:Nat)(ops:Array Oper):b5l Oper->b5m (b5l C2)
 |[]=>some []
 |o::r=>(Ph P N ops o).bind λa=>(W3 P N ops r).map λl=>a::l
section
variable {P:Program}{σ:Sg}{h:A3}{env:Env}{N:Nat}{a:Act}
theorem P7.drop{tmps:Array Value}(he:P7 σ env tmps)(d:Nat)(x:Value):P7 σ (Lift.drop d env) (tmps.setIfInBounds d x):=by
 intro t av hg;obtain⟨h1,h2⟩:=a2y d t env av hg;obtain⟨y,h3,h4⟩:=he t av h2;exact⟨y,by rw[Array.getElem?_setIfInBounds_ne (Ne.symm h1)];exact h3,h4⟩
theorem ub:Rel σ (.tuple []) undef:=Rel.tuple_mk rfl λi av hi=>by simp at hi
theorem St.skipped(hs:St σ h env N a)(dst:b5m Tmp)(hd:∀d,dst=some d->d<N):St σ h (Ae env dst) N (a.put dst undef):=by
 cases dst with
 |none=>exact hs
 |some d=>exact⟨hs.inv,hs.env.put (by rw[hs.size];exact hd d rfl) ub,by show(a.tmps.setIfInBounds d undef).size=N;simp[hs.size],hs.defers⟩
theorem Re{ops:Array Oper}{j:Nat}{t:Tmp}(hj:(ops[j]?).bind (·.dst)=some t)(he:P7 σ env a.tmps)(hg:get env t=some (.tuple [])):yielded ops a.tmps j=none:=by
 obtain⟨x,h1,h2⟩:=he t _ hg;obtain⟨xs,rfl,_⟩:=h2.tuple_inv;simp[yielded,hj,h1]
theorem VV{ops:Array Oper}{j:Nat}{t:Tmp}(hj:(ops[j]?).bind (·.dst)=some t){b:b5n}(he:P7 σ env a.tmps)(hg:get env t=some (.v (.bool b))):yielded ops a.tmps j=some b:=by
 obtain⟨x,h1,h2⟩:=he t _ hg;cases h2;simp[yielded,hj,h1]
def BI(σ:Sg)(N:Nat)(Q:Exit->Env->A3->Prop)(e:Exit)(a':Act)(w':World):Prop:=
 (match e with|.panic _|.outgrown=>False|_=>True)/\∃σ' h' env',σ'.w=w'/\Le σ σ'/\St σ' h' env' N a'/\Q e env' h'
theorem Py{o:Oper}{ao:I7}(hc:(Cu P o).getD .bad=ao)(hs:St σ h env N a)(hd:∀d,o.dst=some d->d<N){K:AV->A3->Prop}(hk:E9 P ao env h K)(Q:Exit->Act->World->Prop):
  o.wp P a σ.w (QT σ N env o.dst K) Q:=by
 cases hco:Cu P o with
 |none=>rw[hco]at hc;cases hc;exact hk.elim
 |some x=>rw[hco]at hc;cases hc;exact sA hco hs hd hk Q
theorem KU{ops:Array Oper}{Q:Exit->Act->World->Prop}{σ₀:Sg}{K:Env->A3->Prop}(hQ:∀σ h env a,Le σ₀ σ->St σ h env N a->K env h->Q .normal a σ.w):
  ∀(l:b5l Oper) (k:Nat) (al:b5l C2) (σ:Sg) (h:A3) (env:Env) (a:Act),(∀j,j<l.length->l[j]? =ops[k+j]?)->W3 P N ops l=some al->Le σ₀ σ->St σ h env N a->AT P al env h K->
   wpOps P ops Q ((List.range' k l.length)) a σ.w
 |[],k,al,σ,h,env,a,_,hc,hle,hs,hv=>by
  simp only[W3,b5j]at hc;subst hc;exact hQ σ h env a hle hs hv
 |o::l,k,al,σ,h,env,a,hl,hc,hle,hs,hv=>by
  simp only[W3,b44,b43]at hc;obtain⟨ao,hao,al',hal,rfl⟩:=hc;have h0:=hl 0 (by simp);simp only[List.getElem?_cons_zero,Nat.add_zero]at h0
  have hrest:∀j,j<l.length->l[j]? =ops[k+1+j]? :=by
   intro j hj;have:=hl (j+1) (by simp;omega);simp only[List.getElem?_cons_succ]at this;rw[this];congr 1;omega
  simp only[List.length_cons,List.range'_succ];rw[wpOps_cons];unfold wpOp;rw[<-h0];simp only;simp only[Ph]at hao;generalize hop:(Cu P o).getD .bad=op' at hao;split at hao
  ·rename_i hdst;have hd:=bE hdst
   have run:∀(ao:C2),ao.dst=o.dst->ao.op=op'->E9 P ao.op env h (λav h'=>AT P al' (M9 env ao.dst av) h' K)->o.wp P a σ.w (wpOps P ops Q (List.range' (k+1) l.length)) Q:=by
    intro ao h1 h2 h3;refine Oper.wp_mono (λa' w' hb=>?_) (Py hop hs hd (h2▸h3) Q);obtain⟨σ',h',av,rfl,q1,q2,q3⟩:=hb;rw[h1]at q3;exact KU hQ l (k+1) al' σ' h' _ a' hrest hal (hle.trans q1) q2 q3
   split at hao
   ·rename_i hg;cases hao;have hw:Region.wanted o (yielded ops a.tmps):=by simp[Region.wanted,hg]
    rw[if_pos hw];exact .inl (run _ rfl rfl hv)
   ·rename_i j b hg;simp only[b43]at hao;obtain⟨t,ht,rfl⟩:=hao;simp only[AT,Lr]at hv;obtain⟨v,hget,hv⟩:=Fe hv;split at hv
    ·rename_i c;have hy:=VV ht hs.env hget
     by_cases hcb:c=b
     ·have hw:Region.wanted o (yielded ops a.tmps):=by simp[Region.wanted,hg,hy,hcb]
      rw[if_pos hw];exact .inl (run ⟨o.dst,op',some (t,b)⟩ rfl rfl (hv.1 hcb))
     ·have hw:Region.wanted o (yielded ops a.tmps)=false:=by simp[Region.wanted,hg,hy,hcb]
      rw[hw];simp only[Bool.false_eq_true,if_false];exact KU hQ l (k+1) al' σ h _ _ hrest hal hle (hs.skipped o.dst hd) (hv.2 (by cases c<;>cases b<;>simp_all))
    ·have hy:=Re ht hs.env hget;have hw:Region.wanted o (yielded ops a.tmps)=false:=by simp[Region.wanted,hg,hy]
     rw[hw];simp only[Bool.false_eq_true,if_false];exact KU hQ l (k+1) al' σ h _ _ hrest hal hle (hs.skipped o.dst hd) hv
    ·exact hv.elim
  ·cases hao
def I7.EH:I7->b5l B9
 |.mv x|.box x|.load _ x|.nilCheck x|.un _ x|.conv _ x|.iface _ x|.fieldAddr _ x|.field _ _ x|.BC _ _ _ x|.extract _ x|.len _ x=>[x]
 |.pick c a b=>[c,a,b]
 |.alloc _=>[]
 |.build _ ps|.Ep _ _ _ ps=>ps.map (·.2)
 |.store _ x y|.bin _ x y|.eq _ _ x y|.Ck x y|.HS _ _ _ x y|.Bg _ x y|.Er _ _ x y|.append _ _ _ x y=>[x,y]
 |.func _ f c=>f++c
 |.Bz x lo hi=>x::(lo.toList++hi.toList)
 |.Ao _ x lo hi mx=>x::(lo.toList++hi.toList++mx.toList)
 |.call f l=>f::l
 |.bytes x=>[x]
 |.make _ _ _ x y=>[x,y]
 |.AN _ l=>l
 |.range x|.next x=>[x]
 |.bad|.HC=>[]
 |.lookup _ _ _ x k=>[x,k]
 |.mapset _ m k v=>[m,k,v]
 |.HP _ _=>[]
 |.HN x|.cap0 x|.GD _ x|.clear _ _ x=>[x]
 |.GJ _ x y|.GC _ x y|.HH x y=>[x,y]
theorem PX{e1 e2:Env}:∀{l:b5l B9},(∀x∈l,x.ev e1=x.ev e2)->evs e1 l=evs e2 l
 |[],_=>rfl
 |x::l,h=>by simp only[evs];rw[h x (by simp),PX (λy hy=>h y (by simp[hy]))]
theorem cY{e1 e2:Env}:∀{l:b5l ((Nat × Nat) × B9)},(∀x∈l.map (·.2),x.ev e1=x.ev e2)->X9 e1 l=X9 e2 l
 |[],_=>rfl
 |(k,x)::l,h=>by simp only[X9];rw[h x (by simp),cY (λy hy=>h y (by simp at hy ⊢;exact .inr hy))]
theorem Pf{e1 e2:Env}{x:b5m B9}(h:∀y∈x.toList,y.ev e1=y.ev e2):J2 e1 x=J2 e2 x:=by
 cases x with
 |none=>rfl
 |some x=>simp only[J2];rw[h x (by simp)]
theorem PF{o:I7}{e1 e2:Env}(h':∀x∈o.EH,x.ev e1=x.ev e2){K:AV->A3->Prop}:E9 P o e1 h K=E9 P o e2 h K:=by
 cases o<;>simp only[I7.EH,List.mem_cons,List.not_mem_nil,or_false,forall_eq_or_imp,forall_eq,List.mem_append]at h'<;>simp only[E9]
 case mv=>rw[h']
 case box=>rw[h']
 case load=>rw[h']
 case nilCheck=>rw[h']
 case un=>rw[h']
 case conv=>rw[h']
 case iface=>rw[h']
 case fieldAddr=>rw[h']
 case field=>rw[h']
 case BC=>rw[h']
 case extract=>rw[h']
 case len=>rw[h']
 case pick=>rw[h'.1,h'.2.1,h'.2.2]
 case build=>rw[cY h']
 case Ep=>rw[cY h']
 case store=>rw[h'.1,h'.2]
 case bin=>rw[h'.1,h'.2]
 case eq=>rw[h'.1,h'.2]
 case Ck=>rw[h'.1,h'.2]
 case HS=>rw[h'.1,h'.2]
 case Bg=>rw[h'.1,h'.2]
 case Er=>rw[h'.1,h'.2]
 case append=>rw[h'.1,h'.2]
 case make=>rw[h'.1,h'.2]
 case func=>rw[PX (λx hx=>h' x (.inl hx)),PX (λx hx=>h' x (.inr hx))]
 case Bz=>rw[h'.1,Pf (λx hx=>h'.2 x (.inl hx)),Pf (λx hx=>h'.2 x (.inr hx))]
 case Ao=>rw[h'.1,Pf (λx hx=>h'.2 x (.inl (.inl hx))),Pf (λx hx=>h'.2 x (.inl (.inr hx))),Pf (λx hx=>h'.2 x (.inr hx))]
 case call=>rw[h'.1,PX h'.2]
 case bytes=>rw[h']
 case AN=>rw[PX h']
 case range=>rw[h']
 case next=>rw[h']
 case lookup=>rw[h'.1,h'.2]
 case mapset=>rw[h'.1,h'.2.1,h'.2.2]
 case HN=>rw[h']
 case cap0=>rw[h']
 case GD=>rw[h']
 case clear=>rw[h']
 case GJ=>rw[h'.1,h'.2]
 case GC=>rw[h'.1,h'.2]
 case HH=>rw[h'.1,h'.2]
end
section
def Ai(P:Program)(o:I7)(env:Env)(h:A3)(av:AV):Prop:=E9 P o env h λav' h'=>av'=av/\h'=h
def vq(P:Program):b5l C2->Env->A3->(Env->Prop)->Prop
 |[],env,_,K=>K env
 |o::r,env,h,K=>Lr env o.guard (∃av,Ai P o.op env h av/\vq P r (M9 env o.dst av) h K) (vq P r (Ae env o.dst) h K)
def I2(t:Tmp)(l:b5l C2):b5n:=l.any λo=>o.dst==some t
def C2.looks(o:C2):b5l Tmp:=(o.op.EH.filterMap λ|.t n=>some n|.c _=>none)++(match o.guard with|some (t,_)=>[t]|none=>[])
def AK:b5l C2->b5n
 |[]=>true
 |o::r=>(o.looks.all λt=> !I2 t (o::r))&&(match o.dst with|some d=> !I2 d r|none=>true)&&AK r
def FI(P:Program)(F:Env)(h:A3)(o:C2):Prop:=
 let does:=∃av,Ai P o.op F h av/\∀d,o.dst=some d->get F d=some av
 match o.guard with
 |none=>does
 |some (t,want)=>(∃b,get F t=some (.v (.bool b))/\(b=want->does)/\(b≠want->∀d,o.dst=some d->get F d=some (.tuple [])))\/(get F t=some (.tuple [])/\∀d,o.dst=some d->get F d=some (.tuple []))
theorem BX(env:Env)(dst:b5m Tmp)(av:AV)(t:Tmp):get (M9 env dst av) t=if dst=some t then some av else get env t:=by
 cases dst with
 |none=>simp[M9]
 |some d=>simp[M9,get]
theorem CX(env:Env)(dst:b5m Tmp)(t:Tmp):get (Ae env dst) t=if dst=some t then some (.tuple []) else get env t:=by
 cases dst with
 |none=>simp[Ae]
 |some d=>simp[Ae,get]
section
variable {P:Program}{σ:Sg}{h:A3}{env:Env}{N:Nat}{a:Act}
theorem Ya{K:Env->Prop}:∀(l:b5l C2) (env:Env),AK l->vq P l env h K->∃F,K F/\(∀t,I2 t l=false->get F t=get env t)/\∀o∈l,FI P F h o
 |[],env,_,hv=>⟨env,hv,λ_ _=>rfl,λo ho=>by cases ho⟩
 |o::r,env,hok,hv=>by
  simp only[AK,b47,b5e]at hok;obtain⟨⟨hlook,hdst⟩,hokr⟩:=hok
  have hwr:∀t,I2 t (o::r)=false->o.dst≠some t/\I2 t r=false:=by
   intro t ht;simp only[I2,List.any_cons,Bool.or_eq_false_iff]at ht ⊢;exact⟨by simpa using ht.1,ht.2⟩
  have hd:∀d,o.dst=some d->I2 d r=false:=by
   intro d hd;rw[hd]at hdst;simpa using hdst
  have hl:∀(F:Env),(∀t,I2 t (o::r)=false->get F t=get env t)->∀t∈o.looks,get env t=get F t:=λF hF t ht=>(hF t (by simpa using hlook t ht)).symm
  have hcong:∀(F:Env),(∀t,I2 t (o::r)=false->get F t=get env t)->∀av,Ai P o.op env h av->Ai P o.op F h av:=by
   intro F hF av hq;unfold Ai at hq ⊢;rw[<-PF (e1:=env) (e2:=F)]
   ·exact hq
   ·intro x hx;cases x with
    |c a=>rfl
    |t n=>
     refine hl F hF n ?_;simp only[C2.looks,List.mem_append,List.mem_filterMap];exact .inl ⟨.t n,hx,rfl⟩
  have yes:(∃av,Ai P o.op env h av/\vq P r (M9 env o.dst av) h K)->∃F,K F/\(∀t,I2 t (o::r)=false->get F t=get env t)/\(∃av,Ai P o.op F h av/\∀d,o.dst=some d->get F d=some av)/\∀o'∈r,FI P F h o':=by
   rintro⟨av,hq,hv⟩;obtain⟨F,k1,k2,k3⟩:=Ya r _ hokr hv
   have hF:∀t,I2 t (o::r)=false->get F t=get env t:=by
    intro t ht;obtain⟨h1,h2⟩:=hwr t ht;rw[k2 t h2,BX,if_neg h1]
   refine⟨F,k1,hF,⟨av,hcong F hF av hq,λd hd'=>?_⟩,k3⟩;rw[k2 d (hd d hd'),BX,if_pos hd']
  have no:vq P r (Ae env o.dst) h K->∃F,K F/\(∀t,I2 t (o::r)=false->get F t=get env t)/\(∀d,o.dst=some d->get F d=some (.tuple []))/\∀o'∈r,FI P F h o':=by
   intro hv;obtain⟨F,k1,k2,k3⟩:=Ya r _ hokr hv;refine⟨F,k1,λt ht=>?_,λd hd'=>?_,k3⟩
   ·obtain⟨h1,h2⟩:=hwr t ht;rw[k2 t h2,CX,if_neg h1]
   ·rw[k2 d (hd d hd'),CX,if_pos hd']
  simp only[vq,Lr]at hv;split at hv
  ·rename_i hg;obtain⟨F,k1,k2,k3,k4⟩:=yes hv;refine⟨F,k1,k2,λo' ho'=>?_⟩;rcases List.mem_cons.1 ho' with rfl|ho'
   ·unfold FI;rw[hg];exact k3
   ·exact k4 o' ho'
  ·rename_i t want hg;obtain⟨v,hget,hv⟩:=Fe hv;split at hv
   ·rename_i b
    have ht:∀F:Env,(∀t,I2 t (o::r)=false->get F t=get env t)->get F t=some (.v (.bool b)):=by
     intro F hF;rw[<-hl F hF t (by simp[C2.looks,hg])];exact hget
    by_cases hb:b=want
    ·obtain⟨F,k1,k2,k3,k4⟩:=yes (hv.1 hb);refine⟨F,k1,k2,λo' ho'=>?_⟩;rcases List.mem_cons.1 ho' with rfl|ho'
     ·unfold FI;rw[hg];exact .inl ⟨b,ht F k2,λ_=>k3,λhn=>absurd hb hn⟩
     ·exact k4 o' ho'
    ·obtain⟨F,k1,k2,k3,k4⟩:=no (hv.2 (by cases b<;>cases want<;>simp_all));refine⟨F,k1,k2,λo' ho'=>?_⟩;rcases List.mem_cons.1 ho' with rfl|ho'
     ·unfold FI;rw[hg];exact .inl ⟨b,ht F k2,λhy=>absurd hy hb,λ_=>k3⟩
     ·exact k4 o' ho'
   ·obtain⟨F,k1,k2,k3,k4⟩:=no hv;refine⟨F,k1,k2,λo' ho'=>?_⟩;rcases List.mem_cons.1 ho' with rfl|ho'
    ·unfold FI;rw[hg];exact .inr ⟨by rw[<-hl F k2 t (by simp[C2.looks,hg])];exact hget,k3⟩
    ·exact k4 o' ho'
   ·exact hv.elim
def S6(ops:Array Oper)(i j:Nat):b5n:=match ops[i]? with
 |some o=>o.after.any λe=>Region.binds .any e&&e.on==j
 |none=>false
def Th(k:Nat):b5l Nat->b5n
 |[]=>false
 |a::l=>Nat.beq k a||Th k l
theorem pe{k:Nat}:∀{l:b5l Nat},Th k l->k∈l
 |[],h=>by cases h
 |a::l,h=>by
  simp only[Th,Bool.or_eq_true]at h;rcases h with h|h
  ·exact List.mem_cons.2 (.inl (Nat.eq_of_beq_eq_true h))
  ·exact List.mem_cons_of_mem _ (pe h)
def IA(s:b5l Nat):b5l Nat->b5l Nat
 |[]=>s
 |k::a=>if Th k (IA s a)=true then IA s a else k::IA s a
theorem XM{s:b5l Nat}{k:Nat}:∀{a:b5l Nat},k∈IA s a↔k∈a\/k∈s
 |[]=>by simp[IA]
 |x::a=>by
  have ih:=XM (s:=s) (k:=k) (a:=a);unfold IA;split
  ·rename_i h;have h2:=XM.1 (pe h);rw[ih,List.mem_cons];constructor
   ·rintro (h3|h3)
    ·exact .inl (.inr h3)
    ·exact .inr h3
   ·rintro ((rfl|h3)|h3)
    ·exact h2
    ·exact .inl h3
    ·exact .inr h3
  ·rw[List.mem_cons,List.mem_cons,ih,or_assoc]
def IW(acc:b5l (b5l Nat))(s:b5l Nat):b5l Nat->b5l Nat
 |[]=>s
 |j::r=>IA (IW acc s r) (acc.getD j [])
theorem nu{acc:b5l (b5l Nat)}{s:b5l Nat}{k:Nat}:∀{r:b5l Nat},k∈IW acc s r↔k∈s\/∃j∈r,k∈acc.getD j []
 |[]=>by simp[IW]
 |j::r=>by
  unfold IW;rw[XM,nu];simp only[List.mem_cons];constructor
  ·rintro (h|h|⟨x,h1,h2⟩)
   ·exact .inr ⟨j,.inl rfl,h⟩
   ·exact .inl h
   ·exact .inr ⟨x,.inr h1,h2⟩
  ·rintro (h|⟨x,rfl|h1,h2⟩)
   ·exact .inr (.inl h)
   ·exact .inl h2
   ·exact .inr (.inr ⟨x,h1,h2⟩)
def T0(ops:Array Oper)(m:Nat):b5l (b5l Nat):=(List.range m).map λi=>(List.range m).filter λj=>S6 ops i j
theorem IT{ops:Array Oper}{m i k:Nat}(h:k∈(T0 ops m).getD i []):k<m/\S6 ops i k:=by
 unfold T0 at h;rw[List.getD_eq_getElem?_getD,b5b]at h;cases hr:(List.range m)[i]? with
 |none=>rw[hr]at h;simp at h
 |some j=>
  have hi:i<m:=by
   have:=(List.getElem?_eq_some_iff.1 hr).1;simpa using this
  rw[List.getElem?_range hi]at hr;cases hr;rw[List.getElem?_range hi]at h;simp only[Option.map_some,Option.getD_some,List.mem_filter,List.mem_range]at h;exact h
def Eh:b5l (b5l Nat)->b5l (b5l Nat)->b5l (b5l Nat)
 |acc,[]=>acc
 |acc,r::rs=>Eh (acc++[IW acc r r]) rs
def clo(ord:b5l (b5l Nat)):b5l (b5l Nat):=Eh [] ord
theorem bD:∀(rs acc:b5l (b5l Nat)) (i:Nat),i<acc.length->(Eh acc rs).getD i []=acc.getD i []
 |[],_,_,_=>rfl
 |r::rs,acc,i,h=>by
  simp only[Eh];rw[bD rs _ i (by simp;omega)];simp only[List.getD_eq_getElem?_getD,b49 h]
theorem pC:∀(rs acc:b5l (b5l Nat)),(Eh acc rs).length=acc.length+rs.length
 |[],_=>rfl
 |r::rs,acc=>by simp only[Eh];rw[pC rs];simp;omega
theorem lB:∀(rs acc:b5l (b5l Nat)) (i:Nat),i<rs.length->∀k∈(Eh acc rs).getD (acc.length+i) [],k∈rs.getD i []\/∃j,j∈rs.getD i []/\j<acc.length+i/\k∈(Eh acc rs).getD j []
 |[],_,i,h=>by simp at h
 |r::rs,acc,0,h=>by
  intro k hk;simp only[Eh]at hk ⊢;have h0:=bD rs (acc++[IW acc r r]) (acc.length+0) (by simp);rw[h0]at hk;simp only[Nat.add_zero,List.getD_eq_getElem?_getD,b5a (Nat.le_refl _),Nat.sub_self,List.getElem?_cons_zero,Option.getD_some,nu]at hk;rcases hk with hk|⟨j,hj,hk⟩
  ·exact .inl (by simpa using hk)
  ·have hlt:j<acc.length:=by
    by_cases hlt:j<acc.length
    ·exact hlt
    ·rw[List.getElem?_eq_none (by omega)]at hk;simp at hk
   refine .inr ⟨j,by simpa using hj,by omega,?_⟩;rw[bD rs _ j (by simp;omega)];simpa[List.getD_eq_getElem?_getD,b49 hlt]using hk
 |r::rs,acc,i+1,h=>by
  intro k hk;simp only[Eh]at hk ⊢;have:=lB rs (acc++[IW acc r r]) i (by simpa using h) k (by simpa[Nat.add_assoc,Nat.add_comm 1 i]using hk);rcases this with h1|⟨j,h1,h2,h3⟩
  ·exact .inl (by simpa using h1)
  ·exact .inr ⟨j,by simpa using h1,by simp at h2;omega,h3⟩
theorem bw{ord:b5l (b5l Nat)}{i k:Nat}(h:k∈(clo ord).getD i []):k∈ord.getD i []\/∃j,j∈ord.getD i []/\j<i/\k∈(clo ord).getD j []:=by
 by_cases hi:i<ord.length
 ·have:=lB ord [] i hi k (by simpa[clo]using h);simpa[clo]using this
 ·have hl:=pC ord [];rw[List.getD_eq_getElem?_getD,List.getElem?_eq_none (by unfold clo;simp at hl;omega)]at h;simp at h
theorem NB{ops:Array Oper}{m:Nat}{L:Nat->Prop}(hc:∀k i,k<m->L k->i∈(T0 ops m).getD k []->L i):∀n k,k<n->k<m->L k->∀i∈(clo (T0 ops m)).getD k [],L i:=by
 intro n
 induction n with
 |zero=>intro k h;omega
 |succ n ih=>
  intro k hk hm hl i hi;rcases bw hi with h1|⟨j,h1,h2,h3⟩
  ·exact hc k i hm hl h1
  ·exact ih j (by omega) (IT h1).1 (hc k j hm hl h1) i h3
theorem RZ{ops:Array Oper}{m i k:Nat}(hi:i<m)(hk:k<m)(h:S6 ops i k):k∈(T0 ops m).getD i []:=by
 unfold T0;rw[List.getD_eq_getElem?_getD,b5b,List.getElem?_range hi];simp only[Option.map_some,Option.getD_some,List.mem_filter,List.mem_range];exact⟨hk,h⟩
def Lv(ops:Array Oper)(m:Nat):b5n:=(List.range m).all λj=>((clo (T0 ops (m+1))).getD m []).contains j
def goes(md:Region.Mode)(ops:Array Oper):b5n:=
 let L:=Region.linearise md ops 0
 (List.range ops.size).all (λi=>L.contains i)&&(List.range L.length).all λk=>match L[k]? with
  |some i=>match ops[i]? with
   |some o=>o.after.all λe=> !Region.binds md e||(L.take k).contains e.on
   |none=>false
  |none=>false
def YC(ops:Array Oper)(m:Nat)(al:b5l C2):b5n:=
 (goes .any ops&&goes .text ops&&goes .gc ops)&&
 (List.range ops.size).all (λi=>decide (i<m)||((List.range i).all λj=>S6 ops i j)||(decide (m<i)&&S6 ops i (i - 1))||(decide (i=m)&&Lv ops m))&&
 (List.range m).all (λi=>match al[i]? with
  |some o=>o.looks.all λt=>(List.range m).all λk=> !((ops[k]?).bind (·.dst)==some t)||S6 ops i k
  |none=>false)
theorem Gd{md:Region.Mode}{ops:Array Oper}{listed:Array b5n}{i:Nat}:i∈Region.ready md ops listed↔listed.getD i true=false/\∃o,ops[i]? =some o/\∀e∈o.after,Region.binds md e->listed.getD e.on false:=by
 unfold Region.ready;simp only[List.mem_filter,List.mem_range,b47,b5f];constructor
 ·rintro⟨_,h1,h2⟩;refine⟨h1,?_⟩;cases ho:ops[i]? with
  |none=>simp[ho]at h2
  |some o=>
   refine⟨o,rfl,λe he hb=>?_⟩;simp only[ho,Option.map_some,Option.getD_some,Array.all_eq_true']at h2;have:=h2 e he;simpa[hb]using this
 ·rintro⟨h1,o,ho,h2⟩;refine⟨(Array.getElem?_eq_some_iff.1 ho).1,h1,?_⟩;simp only[ho,Option.map_some,Option.getD_some,Array.all_eq_true'];intro e he;cases hb:Region.binds md e with
  |false=>simp
  |true=>simp[h2 e he hb]
theorem AE{listed:Array b5n}{i j:Nat}{d:b5n}(hi:i<listed.size):(listed.setIfInBounds i true).getD j d=if i=j then true else listed.getD j d:=by
 simp only[Array.getD_eq_getD_getElem?,Array.getElem?_setIfInBounds]
 by_cases hij:i=j
 ·subst hij;simp[hi]
 ·simp[hij]
theorem NX{listed:Array b5n}{j:Nat}(hj:j<listed.size)(d e:b5n):listed.getD j d=listed.getD j e:=by
 simp[Array.getD_eq_getD_getElem?,hj]
theorem v3{listed:Array b5n}{j:Nat}(h:listed.getD j true=false):j<listed.size:=by
 by_cases hj:j<listed.size
 ·exact hj
 ·simp[Array.getD_eq_getD_getElem?,Array.getElem?_eq_none (Nat.le_of_not_lt hj)]at h
theorem RE{md:Region.Mode}{e:Edge}(h:Region.binds .any e):Region.binds md e:=by
 unfold Region.binds at h ⊢;split at h<;>simp_all
theorem CZ{md:Region.Mode}{ops:Array Oper}{listed:Array b5n}{i j:Nat}(ha:S6 ops i j)(hj:listed.getD j true=false):i ∉ Region.ready md ops listed:=by
 intro hr;obtain⟨_,o,ho,h2⟩:=Gd.1 hr;unfold S6 at ha;rw[ho]at ha;simp only[Array.any_eq_true']at ha;obtain⟨e,he,hc⟩:=ha;simp only[b47,beq_iff_eq]at hc;have:=h2 e he (RE hc.1);rw[hc.2,NX (v3 hj) false true,hj]at this;cases this
structure OrderB(ops:Array Oper)(m:Nat):Prop where
 back:∀md,goes md ops=true
 tail:∀i,i<ops.size->m<=i->(∀j,j<i->S6 ops i j)\/(m<i/\S6 ops i (i - 1))\/(i=m/\Lv ops m)
structure Zg(ops:Array Oper)(m:Nat)(al:List C2):Prop extends OrderB ops m where
 head:∀i o,i<m->al[i]? =some o->∀t∈o.looks,∀k,k<m->(ops[k]?).bind (·.dst)=some t->S6 ops i k=true
theorem Xx{ops:Array Oper}{m:Nat}{al:b5l C2}(h:YC ops m al):Zg ops m al:=by
 simp only[YC,b47,b5e]at h;obtain⟨⟨h1,h2⟩,h3⟩:=h;refine⟨⟨λmd=>by cases md<;>simp[h1],λi hi hm=>?_⟩,λi o hi ho t ht k hkm hk=>?_⟩
 ·have:=h2 i (List.mem_range.2 hi);simp only[Bool.or_eq_true,b47,b45,b5e]at this;rcases this with((h|h)|h)|h
  ·omega
  ·exact .inl λj hj=>h j (List.mem_range.2 hj)
  ·exact .inr (.inl h)
  ·exact .inr (.inr h)
 ·have:=h3 i (List.mem_range.2 hi);rw[ho]at this;simp only[b5e]at this;have:=this t ht k (List.mem_range.2 hkm);simpa[hk]using this
theorem WQ{md:Region.Mode}{ops:Array Oper}{m:Nat}(ho:OrderB ops m){listed:Array b5n}(hsz:listed.size=ops.size)(hne:∃i,i<ops.size/\listed.getD i true=false):∃i,i∈Region.ready md ops listed:=by
 have hg:=ho.back md;simp only[goes,b47,b5e]at hg;obtain⟨g1,g2⟩:=hg;generalize hL:Region.linearise md ops 0=L at g1 g2;obtain⟨i,hi,hf⟩:=hne;have hmem:i∈L:=by simpa using g1 i (List.mem_range.2 hi)
 obtain⟨k,hk⟩:=List.mem_iff_getElem?.1 hmem;obtain⟨k0,⟨i0,hk0,hf0⟩,hmin⟩:=exists_least (p:=λk=>∃i,L[k]? =some i/\listed.getD i true=false) ⟨k,i,hk,hf⟩;have:=g2 k0 (List.mem_range.2 (List.getElem?_eq_some_iff.1 hk0).1);rw[hk0]at this;simp only at this;split at this
 ·rename_i o hoi;refine⟨i0,Gd.2 ⟨hf0,o,hoi,λe he hb=>?_⟩⟩;simp only[Array.all_eq_true']at this;have:=this e he;rw[hb]at this;simp only[Bool.not_true,Bool.false_or,List.contains_iff_mem]at this;obtain⟨q,hq⟩:=List.mem_iff_getElem?.1 this;rw[List.getElem?_take]at hq;split at hq
  ·rename_i hqk;cases hc:listed.getD e.on true with
   |true=>
    have hlt:e.on<listed.size:=by
     have hmem2:e.on∈L:=b5g hq;have:=g2 q (List.mem_range.2 (List.getElem?_eq_some_iff.1 hq).1);rw[hq]at this;simp only at this;split at this
     ·rename_i o2 ho2;rw[hsz];exact(Array.getElem?_eq_some_iff.1 ho2).1
     ·cases this
    rw[NX hlt false true];exact hc
   |false=>have:=hmin q ⟨e.on,hq,hc⟩;omega
  ·cases hq
 ·cases this
theorem YW{md:Region.Mode}{ops:Array Oper}{m i0:Nat}{listed:Array b5n}(h:Lv ops m)(hi0:i0<m)(hn:listed.getD i0 true=false)(hcl:∀k j,k<m->j<m->listed.getD k true->S6 ops k j->listed.getD j true):m ∉ Region.ready md ops listed:=by
 intro hr
 have hm:i0∈(clo (T0 ops (m+1))).getD m []:=by
  unfold Lv at h;have:=List.all_eq_true.1 h i0 (List.mem_range.2 hi0);simpa using this
 have:=NB (ops:=ops) (m:=m+1) (L:=λk=>k=m\/listed.getD k true) (λk j hk hL hj=>?_) (m+1) m (by omega) (by omega) (.inl rfl) i0 hm
 ·rcases this with h1|h1
  ·omega
  ·rw[hn]at h1;cases h1
 ·obtain⟨h1,h2⟩:=IT hj
  by_cases hjm:j=m
  ·exact .inl hjm
  refine .inr ?_;rcases hL with rfl|hL
  ·cases hb:listed.getD j true with
   |true=>rfl
   |false=>exact absurd hr (CZ h2 hb)
  ·by_cases hkm:k=m
   ·subst hkm;cases hb:listed.getD j true with
    |true=>rfl
    |false=>exact absurd hr (CZ h2 hb)
   ·exact hcl k j (by omega) (by omega) hL h2
theorem LM{md:Region.Mode}{ops:Array Oper}{m:Nat}(ho:OrderB ops m){Q:Exit->Act->World->Prop}:∀(f j:Nat) (listed:Array b5n) (a:Act) (w:World),m<=j->j<=ops.size->ops.size - j<=f->listed.size=ops.size->
  (∀i,i<ops.size->listed.getD i true=decide (i<j))->wpOps P ops Q (List.range' j (ops.size - j)) a w->wpAny P md ops Q f listed a w:=by
 intro f
 induction f with
 |zero=>
  intro j listed a w hm hj hf hsz hl hw;have:ops.size - j=0:=by omega
  rw[this]at hw;refine⟨?_,hw⟩;apply List.eq_nil_iff_forall_not_mem.2;intro i hi;obtain⟨h1,o,h2,_⟩:=Gd.1 hi;have hlt:=(Array.getElem?_eq_some_iff.1 h2).1;rw[hl i hlt]at h1;simp at h1;omega
 |succ f ih=>
  intro j listed a w hm hj hf hsz hl hw
  have only:∀i∈Region.ready md ops listed,i=j:=by
   intro i hi;obtain⟨h1,o,h2,_⟩:=Gd.1 hi;have hlt:=(Array.getElem?_eq_some_iff.1 h2).1;rw[hl i hlt]at h1;simp at h1
   by_cases hij:i=j
   ·exact hij
   ·rcases ho.tail i hlt (by omega) with h|⟨hmi,h⟩|⟨hmi,h⟩
    ·refine absurd hi (CZ (h j (by omega)) ?_);rw[hl j (by omega)];simp
    ·refine absurd hi (CZ h ?_);rw[hl (i - 1) (by omega)];simp;omega
    ·omega
  refine⟨λhnil=>?_,λi hi=>?_⟩
  ·by_cases hjn:j=ops.size
   ·subst hjn;rw[show ops.size - ops.size=0 by omega]at hw;exact hw
   ·exfalso;obtain⟨i,hi⟩:=WQ (md:=md) ho hsz ⟨j,by omega,by rw[hl j (by omega)];simp⟩;rw[hnil]at hi;cases hi
  ·have:=only i hi;subst this
   have hlt:i<ops.size:=by
    obtain⟨h1,o,h2,_⟩:=Gd.1 hi;exact(Array.getElem?_eq_some_iff.1 h2).1
   rw[show ops.size - i=(ops.size - (i+1))+1 by omega,List.range'_succ,wpOps_cons]at hw;refine wpOp_mono (λa' w' h'=>?_) hw;refine ih (i+1) _ a' w' (by omega) (by omega) (by omega) (by simp[hsz]) (λk hk=>?_) h';rw[AE (by omega),hl k hk]
   by_cases hik:i=k
   ·subst hik;simp
   ·rw[if_neg hik];simp;omega
def N6(ops:Array Oper)(m:Nat)(listed:Array b5n)(t:Tmp):Prop:=∀k,k<m->(ops[k]?).bind (·.dst)=some t->listed.getD k true=true
open Classical in
noncomputable def Q9(p:Tmp->Prop):Env->Env
 |[]=>[]
 |(t,v)::e=>if p t then(t,v)::Q9 p e else Q9 p e
open Classical in
theorem T6(p:Tmp->Prop)(e:Env)(t:Tmp):get (Q9 p e) t=if p t then get e t else none:=by
 induction e with
 |nil=>simp[Q9,get]
 |cons q e ih=>
  obtain⟨k,v⟩:=q
  by_cases hk:p k
  ·simp only[Q9,if_pos hk,get]
   by_cases hkt:k=t
   ·subst hkt;simp[hk]
   ·simp only[hkt,if_false,ih]
  ·simp only[Q9,if_neg hk,get,ih]
   by_cases hkt:k=t
   ·subst hkt;simp[hk]
   ·simp only[hkt,if_false]
end
end
section
variable {P:Program}{σ:Sg}{h:A3}{env:Env}{N:Nat}{a:Act}
theorem GY{ops:Array Oper}:∀{l:b5l Oper}{al:b5l C2},W3 P N ops l=some al->al.length=l.length/\∀(i:Nat) (o:Oper),l[i]? =some o->∃ao,al[i]? =some ao/\Ph P N ops o=some ao
 |[],al,h=>by simp[W3]at h;subst h;exact⟨rfl,λi o hi=>by simp at hi⟩
 |o::l,al,h=>by
  simp only[W3,b44,b43]at h;obtain⟨ao,h1,r,h2,rfl⟩:=h;obtain⟨g1,g2⟩:=GY h2;refine⟨by simp[g1],λi o' hi=>?_⟩;cases i with
  |zero=>simp at hi;subst hi;exact⟨ao,rfl,h1⟩
  |succ i=>exact g2 i o' (by simpa using hi)
theorem GZ{ops:Array Oper}{o:Oper}{ao:C2}(h:Ph P N ops o=some ao):(Cu P o).getD .bad=ao.op/\(∀d,o.dst=some d->d<N)/\ao.dst=o.dst/\
  ((o.guard=none/\ao.guard=none)\/∃j b t,o.guard=some (j,b)/\ao.guard=some (t,b)/\(ops[j]?).bind (·.dst)=some t):=by
 simp only[Ph]at h;split at h
 ·rename_i hd;split at h
  ·rename_i hg;cases h;exact⟨rfl,bE hd,rfl,.inl ⟨hg,rfl⟩⟩
  ·rename_i j b hg;simp only[b43]at h;obtain⟨t,ht,rfl⟩:=h;exact⟨rfl,bE hd,rfl,.inr ⟨j,b,t,hg,rfl,ht⟩⟩
 ·cases h
structure iI(ops:Array Oper)(m:Nat)(F:Env)(h:A3)(N:Nat)(listed:Array Bool)(σ:Sg)(a:Act):Prop where
 inv:Inv h σ
 env:P7 σ (Q9 (N6 ops m listed) F) a.tmps
 size:a.tmps.size=N
 defers:a.defers=[]
theorem o4{md:Region.Mode}{ops:Array Oper}{al:b5l C2}{F:Env}(hq:W3 P N ops (ops.toList.take al.length)=some al)(hm:al.length<=ops.size)(ho:Zg ops al.length al)(hF:∀o∈al,FI P F h o)(huniq:∀i j t,(ops[i]?).bind (·.dst)=some t->(ops[j]?).bind (·.dst)=some t->i<al.length->j<al.length->i=j){Q:Exit->Act->World->Prop}{σ₀:Sg}(hend:∀σ a,Le σ₀ σ->St σ h F N a->wpOps P ops Q (List.range' al.length (ops.size - al.length)) a σ.w):
  ∀(f:Nat) (listed:Array b5n) (a:Act) (σ:Sg),listed.size=ops.size->(∀i,al.length<=i->i<ops.size->listed.getD i true=false)->(∀k j,k<al.length->j<al.length->listed.getD k true->S6 ops k j->listed.getD j true)->Le σ₀ σ->iI ops al.length F h N listed σ a->listed.toList.count false<=f->wpAny P md ops Q f listed a σ.w:=by
 obtain⟨hlen,hget⟩:=GY hq;intro f
 induction f with
 |zero=>
  intro listed a σ hsz htail hcl hle hh hc
  have hall:∀i,i<ops.size->listed.getD i true:=by
   intro i hi;cases hb:listed.getD i true with
   |true=>rfl
   |false=>
    exfalso
    have hmem:false∈listed.toList:=by
     rw[List.mem_iff_getElem?];refine⟨i,?_⟩;have:listed[i]? =some listed[i]:=Array.getElem?_eq_getElem (by omega);simp only[Array.getD_eq_getD_getElem?,this,Option.getD_some]at hb;simp only[Array.getElem?_toList,this,hb]
    have:=List.count_pos_iff.2 hmem;omega
  have hmn:al.length=ops.size:=by
   by_cases he:al.length=ops.size
   ·exact he
   ·have:=htail al.length (Nat.le_refl _) (by omega);rw[hall _ (by omega)]at this;cases this
  have hst:St σ h F N a:=⟨hh.inv,λt av hg=>hh.env t av (by rw[T6,if_pos (show N6 ops al.length listed t from λk hk _=>hall k (by omega))];exact hg),hh.size,hh.defers⟩;have:=hend σ a hle hst;refine LM ho.toOrderB 0 al.length listed a σ.w (Nat.le_refl _) hm (by omega) hsz (λi hi=>by rw[hall i hi];simp;omega) this
 |succ f ih=>
  intro listed a σ hsz htail hcl hle hh hc
  by_cases hall:∀i,i<al.length->listed.getD i true=true
  ·have hst:St σ h F N a:=⟨hh.inv,λt av hg=>hh.env t av (by rw[T6,if_pos (show N6 ops al.length listed t from λk hk _=>hall k hk)];exact hg),hh.size,hh.defers⟩;refine LM ho.toOrderB (f+1) al.length listed a σ.w (Nat.le_refl _) hm ?_ hsz (λi hi=>?_) (hend σ a hle hst)
   ·
    have hcnt:ops.size - al.length<=listed.toList.count false:=by
     have hsplit:listed.toList=listed.toList.take al.length++listed.toList.drop al.length:=(List.take_append_drop _ _).symm;rw[hsplit,List.count_append]
     have hd:listed.toList.drop al.length=List.replicate (ops.size - al.length) false:=by
      apply List.eq_replicate_iff.2;refine⟨by simp[hsz],λb hb=>?_⟩;obtain⟨i,hi⟩:=List.mem_iff_getElem?.1 hb;rw[List.getElem?_drop]at hi;have hlt:=(List.getElem?_eq_some_iff.1 hi).1;have:=htail (al.length+i) (by omega) (by simpa[hsz]using hlt);simp only[Array.getElem?_toList]at hi;simp only[Array.getD_eq_getD_getElem?,hi,Option.getD_some]at this;exact this
     rw[hd,List.count_replicate];simp
    omega
   ·by_cases him:i<al.length
    ·rw[hall i him];simp[him]
    ·rw[htail i (by omega) hi];simp[him]
  ·obtain⟨i0,hi0,hn0⟩:∃i,i<al.length/\listed.getD i true=false:=by
    false_or_by_contra
    rename_i hcon
    exact hall λi hi=>by
     cases hb:listed.getD i true with
     |true=>rfl
     |false=>exact absurd ⟨i,hi,hb⟩ hcon
   refine⟨λhnil=>?_,λi hi=>?_⟩
   ·obtain⟨i,hi⟩:=WQ (md:=md) ho.toOrderB hsz ⟨i0,by omega,hn0⟩;rw[hnil]at hi;cases hi
   ·obtain⟨hun,o,hoi,hdeps⟩:=Gd.1 hi;have hin:=(Array.getElem?_eq_some_iff.1 hoi).1
    have him:i<al.length:=by
     by_cases h':i<al.length
     ·exact h'
     ·rcases ho.tail i hin (by omega) with h|⟨hmi,h⟩|⟨hmi,h⟩
      ·exact absurd hi (CZ (h i0 (by omega)) hn0)
      ·exact absurd hi (CZ h (htail (i - 1) (by omega) (by omega)))
      ·subst hmi;exact absurd hi (YW h hi0 hn0 hcl)
    obtain⟨ao,hao,hco⟩:=hget i o (by rw[List.getElem?_take,if_pos him];simpa using hoi);obtain⟨hop,hd,hdst,hguard⟩:=GZ hco;have hfact:=hF ao (b5g hao)
    have hsee:∀t∈ao.looks,N6 ops al.length listed t:=by
     intro t ht k hk hkd;have ha:=ho.head i ao him hao t ht k hk hkd;unfold S6 at ha;rw[hoi]at ha;simp only[Array.any_eq_true']at ha;obtain⟨e,he,hb⟩:=ha;simp only[b47,beq_iff_eq]at hb;have:=hdeps e he (RE hb.1);rw[hb.2,NX (by omega) false true]at this;exact this
    have hlook:∀t∈ao.looks,get (Q9 (N6 ops al.length listed) F) t=get F t:=λt ht=>by rw[T6,if_pos (hsee t ht)]
    have hst:St σ h (Q9 (N6 ops al.length listed) F) N a:=⟨hh.inv,hh.env,hh.size,hh.defers⟩
    have hcount:(listed.setIfInBounds i true).toList.count false<=f:=by
     have hget':listed.toList[i]'(by simp;omega)=false:=by
      have:listed[i]? =some listed[i]:=Array.getElem?_eq_getElem (by omega);simp only[Array.getD_eq_getD_getElem?,this,Option.getD_some]at hun;simpa using hun
     have:=List.count_set (a:=true) (b:=false) (l:=listed.toList) (i:=i) (by simp;omega);simp only[Array.toList_setIfInBounds];rw[this,hget'];have hp:0<listed.toList.count false:=List.count_pos_iff.2 (by rw[List.mem_iff_getElem];exact⟨i,by simp;omega,hget'⟩);show listed.toList.count false - 1+0<=f;omega
    have hnext:∀(a':Act) (σ':Sg),Le σ σ'->iI ops al.length F h N (listed.setIfInBounds i true) σ' a'->wpAny P md ops Q f (listed.setIfInBounds i true) a' σ'.w:=by
     intro a' σ' hl' hh';refine ih _ a' σ' (by simp[hsz]) (λk hk1 hk2=>?_) (λk j hk hj hlk hah=>?_) (hle.trans hl') hh' hcount
     ·rw[AE (by omega),if_neg (by omega)];exact htail k hk1 hk2
     ·rw[AE (by omega)]at hlk ⊢
      by_cases hij:i=j
      ·rw[if_pos hij]
      ·rw[if_neg hij]
       by_cases hik:i=k
       ·subst hik;cases hb:listed.getD j true with
        |true=>rfl
        |false=>exact absurd hi (CZ hah hb)
       ·rw[if_neg hik]at hlk;exact hcl k j hk hj hlk hah
    have hseen':∀t,N6 ops al.length (listed.setIfInBounds i true) t->(ops[i]?).bind (·.dst)≠some t->N6 ops al.length listed t:=by
     intro t ht hne k hk hkd;have:=ht k hk hkd;rw[AE (by omega)]at this
     by_cases hik:i=k
     ·subst hik;exact absurd hkd hne
     ·rwa [if_neg hik]at this
    have hbind:(ops[i]?).bind (·.dst)=o.dst:=by rw[hoi];rfl
    have does:(∃av,Ai P ao.op F h av/\∀d,ao.dst=some d->get F d=some av)->Oper.wp P o a σ.w (wpAny P md ops Q f (listed.setIfInBounds i true)) Q:=by
     rintro⟨av,hqa,hfd⟩
     have hqa':E9 P ao.op (Q9 (N6 ops al.length listed) F) h (λav' h'=>av'=av/\h'=h):=by
      rw[PF (e1:=Q9 (N6 ops al.length listed) F) (e2:=F)]
      ·exact hqa
      ·intro x hx;cases x with
       |c a=>rfl
       |t n=>
        refine hlook n ?_;simp only[C2.looks,List.mem_append,List.mem_filterMap];exact .inl ⟨.t n,hx,rfl⟩
     refine Oper.wp_mono (λa' w' hb=>?_) (Py hop hst hd hqa' Q);obtain⟨σ',h',av',rfl,l1,s1,rfl,rfl⟩:=hb;refine hnext a' σ' l1 ⟨s1.inv,?_,s1.size,s1.defers⟩;intro t bv hg;rw[T6]at hg;split at hg
     ·rename_i hs
      by_cases hdt:o.dst=some t
      ·have:=hfd t (by rw[hdst];exact hdt);rw[this]at hg;cases hg;exact s1.env t av' (by rw[BX,if_pos hdt])
      ·exact s1.env t bv (by rw[BX,if_neg hdt,T6,if_pos (hseen' t hs (by rw[hbind];exact hdt))];exact hg)
     ·cases hg
    unfold wpOp;rw[hoi];simp only;unfold FI at hfact;rcases hguard with⟨hg1,hg2⟩|⟨j,b,t,hg1,hg2,hg3⟩
    ·have hw:Region.wanted o (yielded ops a.tmps):=by simp[Region.wanted,hg1]
     rw[if_pos hw];rw[hg2]at hfact;exact .inl (does hfact)
    ·rw[hg2]at hfact
     have skip:(∀d,ao.dst=some d->get F d=some (.tuple []))->wpAny P md ops Q f (listed.setIfInBounds i true) (a.put o.dst undef) σ.w:=by
      intro hno;have s1:=hst.skipped o.dst hd;refine hnext _ σ (Le.refl σ) ⟨s1.inv,?_,s1.size,s1.defers⟩;intro u bv hg;rw[T6]at hg;split at hg
      ·rename_i hs
       by_cases hdt:o.dst=some u
       ·have:=hno u (by rw[hdst];exact hdt);rw[this]at hg;cases hg;exact s1.env u _ (by rw[CX,if_pos hdt])
       ·exact s1.env u bv (by rw[CX,if_neg hdt,T6,if_pos (hseen' u hs (by rw[hbind];exact hdt))];exact hg)
      ·cases hg
     rcases hfact with⟨c,hgt,hyes,hno⟩|⟨hgt,hno⟩
     ·have hy:yielded ops a.tmps j=some c:=VV (env:=Q9 (N6 ops al.length listed) F) hg3 hh.env (by rw[hlook t (by simp[C2.looks,hg2])];exact hgt)
      by_cases hcb:c=b
      ·have hw:Region.wanted o (yielded ops a.tmps):=by simp[Region.wanted,hg1,hy,hcb]
       rw[if_pos hw];exact .inl (does (hyes hcb))
      ·have hw:Region.wanted o (yielded ops a.tmps)=false:=by simp[Region.wanted,hg1,hy,hcb]
       rw[hw];simp only[Bool.false_eq_true,if_false];exact skip (hno hcb)
     ·have hy:yielded ops a.tmps j=none:=Re (env:=Q9 (N6 ops al.length listed) F) hg3 hh.env (by rw[hlook t (by simp[C2.looks,hg2])];exact hgt);have hw:Region.wanted o (yielded ops a.tmps)=false:=by simp[Region.wanted,hg1,hy]
      rw[hw];simp only[Bool.false_eq_true,if_false];exact skip hno
def Is(ops:Array Oper)(al:b5l C2):b5n:=
 YC ops al.length al&&AK al&&decide (al.length<=ops.size)&&
 (List.range al.length).all λi=>(List.range i).all λj=> !(((ops[i]?).bind (·.dst)).isSome&&(ops[i]?).bind (·.dst)==(ops[j]?).bind (·.dst))
def bN(ops:Array Oper)(al:b5l C2):b5n:=
 (goes .any ops&&goes .text ops&&goes .gc ops)&&
 (List.range ops.size).all (λi=>decide (i<al.length)||((List.range i).all λj=>S6 ops i j)||(decide (al.length<i)&&S6 ops i (i - 1))||(decide (i=al.length)&&Lv ops al.length))&&decide (al.length<=ops.size)&&
 (List.range al.length).all (λi=>match al[i]? with
  |some o=>o.looks.all λt=>((List.range al.length).all λk=> !((ops[k]?).bind (·.dst)==some t)||S6 ops i k)||((List.range al.length).all λk=> !((ops[k]?).bind (·.dst)==some t)||k==i||S6 ops k i)
  |none=>false)
theorem b1y{id:Nat}{ops:Array Oper}{al tl:b5l C2}(hq:W3 P N ops (ops.toList.take al.length)=some al)(ht:W3 P N ops (ops.toList.drop al.length)=some tl)(hok:Is ops al){Q:Exit->Env->A3->Prop}(hs:St σ h env N a)(hv:vq P al env h λF=>AT P tl F h λenv' h'=>Q .normal env' h'):(Code.region id ops true).wp P (BI σ N Q) a σ.w:=by
 simp only[Is,b47,b45]at hok;obtain⟨⟨⟨h1,h2⟩,h3⟩,h4⟩:=hok;have ho:=Xx h1;obtain⟨F,k1,k2,k3⟩:=Ya al env h2 hv
 have huniq:∀i j t,(ops[i]?).bind (·.dst)=some t->(ops[j]?).bind (·.dst)=some t->i<al.length->j<al.length->i=j:=by
  have key:∀i j t,(ops[i]?).bind (·.dst)=some t->(ops[j]?).bind (·.dst)=some t->i<al.length->j<i->False:=by
   intro i j t hi hj hil hji;have:=List.all_eq_true.1 (List.all_eq_true.1 h4 i (List.mem_range.2 hil)) j (List.mem_range.2 hji);simp[hi,hj]at this
  intro i j t hi hj hil hjl
  by_cases h':i=j
  ·exact h'
  ·rcases Nat.lt_or_ge i j with hlt|hge
   ·exact(key j i t hj hi hjl hlt).elim
   ·exact(key i j t hi hj hil (by omega)).elim
 have hd:K9 σ.w {σ.w with drawn:=σ.w.drawn+1}:=⟨Nat.le_refl _,λ_ _=>rfl,rfl,rfl,rfl⟩
 let σ1:Sg:={σ with w:={σ.w with drawn:=σ.w.drawn+1}}
 have hle1:Le σ σ1:=Le.world hd;have hi1:Inv h σ1:=hs.inv.world hd;obtain⟨hlen,hget⟩:=GY hq
 have every:∀md:Region.Mode,wpAny P md ops (BI σ N Q) ops.size (Array.replicate ops.size false) a {σ.w with drawn:=σ.w.drawn+1}:=by
  intro md;refine o4 (σ₀:=σ1) hq h3 ho k3 huniq ?_ ops.size _ a σ1 (by simp) (λi _ hi=>by simp[hi]) (λk j hk _ hl _=>by simp[Nat.lt_of_lt_of_le hk h3]at hl) (Le.refl _) ?_ ?_
  ·intro σ2 a2 l2 s2;have hlen2:(ops.toList.drop al.length).length=ops.size - al.length:=by simp
   rw[<-hlen2];refine KU (σ₀:=σ1) (K:=λenv' h'=>Q .normal env' h') (λσ3 h3 env3 a3 l3 s3 q3=>⟨trivial,σ3,h3,env3,rfl,hle1.trans l3,s3,q3⟩) _ _ tl σ2 h F a2 (λj hj=>?_) ht l2 s2 k1;rw[List.getElem?_drop,Array.getElem?_toList]
  ·refine⟨hi1,?_,hs.size,hs.defers⟩;intro t av hg;rw[T6]at hg;split at hg
   ·rename_i hsn
    have hw:I2 t al=false:=by
     cases hwb:I2 t al with
     |false=>rfl
     |true=>
      exfalso;unfold I2 at hwb;rw[List.any_eq_true]at hwb;obtain⟨o,hmem,hod⟩:=hwb;obtain⟨i,hi⟩:=List.mem_iff_getElem?.1 hmem;have hil:i<al.length:=(List.getElem?_eq_some_iff.1 hi).1;have hops:ops[i]? =some ops[i]:=Array.getElem?_eq_getElem (by omega);obtain⟨ao,hao,hco⟩:=hget i ops[i] (by rw[List.getElem?_take,if_pos hil];simpa using hops);rw[hi]at hao;cases hao;have:=(GZ hco).2.2.1;have hf:=hsn i hil (by rw[hops];simp only[Option.bind_some];rw[<-this];simpa using hod);simp[Array.getD_eq_getD_getElem?,Array.getElem?_replicate,show i<ops.size by omega]at hf
    rw[k2 t hw]at hg;obtain⟨x,q1,q2⟩:=hs.env t av hg;exact⟨x,q1,q2.mono hle1⟩
   ·cases hg
  ·simp
 refine wp_region_draw λt=>?_
 unfold Region.schedule;split
 ·exact wpAny_sound ops.size t _ a _ (every .any)
 ·exact wpAny_sound ops.size (t / 2) _ a _ (every _)
end
def hA(h:A3)(az:b5l (Nat × b5l AV))(lst:Nat->b5n):A3:=⟨h.A5++az.map (λp=>if lst p.1=true then some p.2 else none),h.A9,h.B0⟩
def Vh(h:A3)(az:b5l (Nat × b5l AV))(hs:b5l A3)(lst:Nat->b5n):Nat->b5m A3
 |0=>some (hA h az lst)
 |j+1=>hs[j+1]?
def Mm(P:Program)(F:Env)(h0:A3)(az:b5l (Nat × b5l AV))(hs:b5l A3)(ord:b5l (b5l Nat))(fl:b5l (b5m Nat))(i:Nat)(o:C2):b5m Nat->Prop
 |some n=>∃av h h',hs[n]? =some h/\hs[n+1]? =some h'/\E9 P o.op F h (λa b=>a=av/\b=h')/\∀d,o.dst=some d->get F d=some av
 |none=>∃av j0 j1,j0<hs.length/\(∀j lst h,j0<=j->j<=j1->Vh h0 az hs lst j=some h->Ai P o.op F h av)/\(∀k n:Nat,fl[k]? =some (some n)->n<j0->k∈ord.getD i [])/\(hs.length<=j1+1\/∃k:Nat,fl[k]? =some (some j1)/\i∈ord.getD k [])/\
  ∀d,o.dst=some d->get F d=some av
def Gk(P:Program)(F:Env)(h0:A3)(az:b5l (Nat × b5l AV))(hs:b5l A3)(ord:b5l (b5l Nat))(fl:b5l (b5m Nat))(i:Nat)(o:C2)(n:b5m Nat):Prop:=
 let skip:=n=none/\∀d,o.dst=some d->get F d=some (.tuple [])
 match o.guard with
 |none=>Mm P F h0 az hs ord fl i o n
 |some (t,want)=>(∃b,get F t=some (.v (.bool b))/\(b=want->Mm P F h0 az hs ord fl i o n)/\(b≠want->skip))\/(get F t=some (.tuple [])/\skip)
structure Md(P:Program)(ord:List (List Nat))(al:List C2)(env F:Env)(h h':A3)(az:List (Nat × List AV))(hs:List A3)(fl:List (Option Nat)):Prop where
 len:fl.length=al.length
 chain:∀i k a b:Nat,i<k->fl[i]? =some (some a)->fl[k]? =some (some b)->a<b/\i∈ord.getD k []
 onto:∀j:Nat,j+1<hs.length->∃i:Nat,fl[i]? =some (some j)
 first:hs[0]? =some (hA h az λ_=>true)
 last:∃n,hs.length=n+1/\hs[n]? =some h'
 bound:∀i n:Nat,fl[i]? =some (some n)->n+1<hs.length
 keep:∀t,I2 t al=false->get F t=get env t
 new:∀(q:Nat) (p:Nat × List AV),az[q]? =some p->∃o,al[p.1]? =some o/\o.op=.alloc p.2/\o.guard=none/\fl[p.1]? =some none/\∀d,o.dst=some d->get F d=some (.ptr (h.A5.length+q) 0)
 inj:∀(q r:Nat) (p s:Nat × List AV),az[q]? =some p->az[r]? =some s->p.1=s.1->q=r
 qf:∀(k n:Nat),fl[k]? =some (some n)->∀p∈az,p.1∈ord.getD k []
 fact:∀(i:Nat) (o:C2) (n:Option Nat),al[i]? =some o->fl[i]? =some n->(∃(q:Nat) (p:Nat × List AV),az[q]? =some p/\p.1=i)\/Gk P F h az hs ord fl i o n
section
variable {P:Program}{σ:Sg}{h:A3}{env:Env}{N:Nat}{a:Act}
theorem mr(hi:Inv h σ)(n:Nat):Inv ⟨h.A5++List.replicate n none,h.A9,h.B0⟩ σ:=by
 have hget:∀(k:Nat) (c:b5l AV),(h.A5++List.replicate n none)[k]? =some (some c)->h.A5[k]? =some (some c):=by
  intro k c hk
  by_cases hl:k<h.A5.length
  ·rwa [b49 hl]at hk
  ·rw[b5a (by omega),List.getElem?_replicate]at hk;split at hk<;>cases hk
 exact {
  blk:=λk c hk=>hi.blk k c (hget k c hk)
  dom:=λk c hk=>by
   obtain⟨x,hx⟩:=hi.dom k c hk;exact⟨x,by rw[b49 (hi.name hk)];exact hx⟩
  inj:=λk m c x y hx hy=>hi.inj k m c x y (hget k x hx) (hget m y hy)
  buf:=hi.buf
  K5:=hi.K5
  K8:=hi.K8
  M0:=hi.M0
  L5:=hi.L5
  H4:=hi.H4
  L6:=hi.L6
  I6:=hi.I6
  outer:=hi.outer
  F5:=hi.F5}
theorem sm(hi:Inv h σ){n:Nat}(hn:h.A5[n]? =some none){cells:b5l AV}(obj:Obj)(hnew:∀σ',Le σ σ'->σ'.w.heap[σ.w.heap.size]? =some obj->S3 σ' σ.w.heap.size cells):
  ∃σ',σ'.w=σ.w.alloc obj/\Le σ σ'/\Inv ⟨h.A5.set n (some cells),h.A9,h.B0⟩ σ'/\Rel σ' (.ptr n 0) (.pointer (some ⟨σ.w.heap.size,0,none⟩)):=by
 have hl:n<h.A5.length:=(List.getElem?_eq_some_iff.1 hn).1
 have hf:σ.blk n=none:=by
  cases hb:σ.blk n with
  |none=>rfl
  |some b=>obtain⟨c,hc⟩:=hi.dom n b hb;rw[hn]at hc;cases hc
 let σ':Sg:={σ with w:=σ.w.alloc obj,blk:=λm=>if m=n then some σ.w.heap.size else σ.blk m}
 have hp:=K9.alloc σ.w obj;have hslt:=hi.H4;have hne:∀m b,σ.blk m=some b->m≠n:=by rintro m b hm rfl;rw[hf]at hm;cases hm
 have hold:∀m b,σ.blk m=some b->σ'.blk m=some b:=by
  intro m b hm;show(if m=n then some σ.w.heap.size else σ.blk m)=some b;rw[if_neg (hne m b hm)];exact hm
 have hinv:∀m b,σ'.blk m=some b->(m=n/\b=σ.w.heap.size)\/(m≠n/\σ.blk m=some b):=by
  intro m b hm;simp only[σ']at hm;split at hm
  ·cases hm;exact .inl ⟨‹_›,rfl⟩
  ·exact .inr ⟨‹_›,hm⟩
 have hle:Le σ σ':={
  blk:=hold
  buf:=λ_ e h=>⟨e,h,Nat.le_refl _,rfl,λ_=>rfl⟩
  outer:=rfl
  cell:=λb o hb _=>BZ (hp.old b hb) o
  ext:=(Le.world (σ:=σ) hp).ext
  shape:=(Le.world (σ:=σ) hp).shape
  whole:=λb hb _=>hp.old b hb
  own:=λb o hb ho=>by
   rcases ho with⟨m,hm⟩|hx
   ·rcases hinv m b hm with⟨_,rfl⟩|⟨_,hm⟩
    ·omega
    ·exact .inl ⟨m,hm⟩
   ·exact .inr hx
  size:=hp.size
  os:=hp.os
  tape:=hp.tape
  output:=hp.output}
 have hget:∀(m:Nat) (c:b5l AV),(h.A5.set n (some cells))[m]? =some (some c)->(m=n/\c=cells)\/(m≠n/\h.A5[m]? =some (some c)):=by
  intro m c hm
  by_cases hmn:m=n
  ·subst hmn;rw[List.getElem?_set_self hl]at hm;cases hm;exact .inl ⟨rfl,rfl⟩
  ·rw[List.getElem?_set_ne (Ne.symm hmn)]at hm;exact .inr ⟨hmn,hm⟩
 refine⟨σ',rfl,hle,?_,.ptr _ _ _ (if_pos rfl)⟩
 exact {
  blk:=λm c hm=>by
   rcases hget m c hm with⟨rfl,rfl⟩|⟨hmn,hm⟩
   ·exact⟨σ.w.heap.size,if_pos rfl,hnew σ' hle (heap_alloc_new _ _)⟩
   ·obtain⟨b,h1,h2⟩:=hi.blk m c hm;exact⟨b,hold m b h1,h2.keep hle (hp.old b h2.lt)⟩
  dom:=λm b hm=>by
   rcases hinv m b hm with⟨rfl,rfl⟩|⟨hmn,hm⟩
   ·exact⟨cells,List.getElem?_set_self hl⟩
   ·obtain⟨c,hc⟩:=hi.dom m b hm;exact⟨c,by rw[List.getElem?_set_ne (Ne.symm hmn)];exact hc⟩
  inj:=λm k b x y hx hy hx0 hy0 hm hk=>by
   rcases hinv m b hm with⟨m0,m2⟩|⟨m1,hm2⟩<;>rcases hinv k b hk with⟨k0,k2⟩|⟨k1,hk2⟩
   ·omega
   ·have:=hi.lt hk2;omega
   ·have:=hi.lt hm2;omega
   ·rcases hget m x hx with⟨h,_⟩|⟨_,hx⟩
    ·exact absurd h m1
    ·rcases hget k y hy with⟨h,_⟩|⟨_,hy⟩
     ·exact absurd h k1
     ·exact hi.inj m k b x y hx hy hx0 hy0 hm2 hk2
  buf:=hi.buf
  K5:=hi.K5
  K8:=hi.K8
  M0:=(hi.world hp).M0
  L5:=(hi.world hp).L5
  H4:=(hi.world hp).H4
  L6:=hi.L6
  I6:=λid e m b o he hs hm=>by
   rcases hinv m b hm with⟨_,rfl⟩|⟨_,hm⟩
   ·have:=hslt id e _ o he hs;omega
   ·exact hi.I6 id e m b o he hs hm
  outer:=λb o ho=>by
   obtain⟨h1,h2⟩:=hi.outer b o ho;exact⟨Nat.lt_of_lt_of_le h1 hp.size,λhx=>h2 (hle.own b o h1 hx)⟩
  F5:=λg cells hg=>(hi.F5 g cells hg).mono hle}
theorem gq{x:b5m I7}{y:I7}(h:x.getD .bad=y)(hy:y≠.bad):x=some y:=by
 cases x with
 |none=>exact absurd h.symm hy
 |some z=>exact congrArg some h
theorem zI{o:Oper}{cells:b5l AV}(hc:Cu P o=some (.alloc cells)):∃e,o.op=.alloc e:=by
 unfold Cu at hc;split at hc
 case h_4 e he=>exact⟨e,he⟩
 all_goals
  exfalso
  (try simp only[Xf]at hc)
  (repeat' (first|(cases hc;done)|(simp only[b44,b43]at hc;done)|(obtain⟨_,_,hc⟩:=hc)|(split at hc)|(simp only[b44,b43]at hc)))
theorem jZ{o:Oper}{cells:b5l AV}(hc:Cu P o=some (.alloc cells))(hs:St σ h env N a)(hd:∀d,o.dst=some d->d<N){n:Nat}(hn:h.A5[n]? =some none)(Q:Exit->Act->World->Prop):
  o.wp P a σ.w (λa' w'=>∃σ',σ'.w=w'/\Le σ σ'/\St σ' ⟨h.A5.set n (some cells),h.A9,h.B0⟩ (M9 env o.dst (.ptr n 0)) N a') Q:=by
 obtain⟨e,he⟩:=zI hc;obtain⟨dst,op,type,pos,after,guard⟩:=o;simp only at he;subst he;simp only[Cu]at hc;split at hc
 ·cases hc
 simp only[b44,b43,I7.alloc.injEq]at hc;obtain⟨z,hz,zs,hzs,rfl⟩:=hc;obtain⟨σ',g1,g2,g3,g4⟩:=sm hs.inv hn (cells:=zs) (.cells z.cells e) λσ' hle hb=>.cells _ z.cells.toList [] e (by simpa using hb) ((Dc (σ:=σ) hzs).mono hle)
 unfold Oper.wp
 have hrun:(execOp a.eval ⟨dst,.alloc e,type,pos,after,guard⟩).run P σ.w=.ok (.value (.pointer (some ⟨σ.w.heap.size,0,none⟩))) σ'.w:=by
  rw[g1];simp[execOp,Instr.alloc,Hb hz,newVar,newRow]
 rw[hrun];exact⟨σ',rfl,g2,hs.put g2 g3 hd g4⟩
structure XX(ops:Array Oper)(m:Nat)(F:Env)(h0:A3)(az:List (Nat × List AV))(hs:List A3)(fl:List (Option Nat))(j:Nat)(N:Nat)(listed:Array Bool)(σ:Sg)(a:Act):Prop where
 inv:∃h,Vh h0 az hs (λk=>listed.getD k true) j=some h/\Inv h σ
 env:P7 σ (Q9 (N6 ops m listed) F) a.tmps
 size:a.tmps.size=N
 defers:a.defers=[]
 nums:∀i n:Nat,fl[i]? =some (some n)->(listed.getD i true=true↔n<j)
 closed:∀k i:Nat,k<m->listed.getD k true->i∈(T0 ops m).getD k []->listed.getD i true=true
set_option maxHeartbeats 1000000 in
theorem a3a{md:Region.Mode}{ops:Array Oper}{al:b5l C2}{env F:Env}{h h':A3}{az:b5l (Nat × b5l AV)}{hs:b5l A3}{fl:b5l (b5m Nat)}(hq:W3 P N ops (ops.toList.take al.length)=some al)(hm:al.length<=ops.size)(ho:Zg ops al.length al)(hF:Md P (clo (T0 ops al.length)) al env F h h' az hs fl){Q:Exit->Act->World->Prop}{σ₀:Sg}(hend:∀σ a,Le σ₀ σ->St σ h' F N a->wpOps P ops Q (List.range' al.length (ops.size - al.length)) a σ.w):
  ∀(f:Nat) (listed:Array b5n) (a:Act) (σ:Sg) (j:Nat),listed.size=ops.size->(∀i,al.length<=i->i<ops.size->listed.getD i true=false)->Le σ₀ σ->XX ops al.length F h az hs fl j N listed σ a->listed.toList.count false<=f->wpAny P md ops Q f listed a σ.w:=by
 obtain⟨hlen,hget⟩:=GY hq;obtain⟨nl,hnl,hnl2⟩:=hF.last
 have hfin:∀(listed:Array b5n) (a:Act) (σ:Sg) (j:Nat),XX ops al.length F h az hs fl j N listed σ a->(∀i,i<al.length->listed.getD i true)->St σ h' F N a:=by
  intro listed a σ j hh hall;obtain⟨hj,h1,h2⟩:=hh.inv
  have hjl:j<hs.length:=by
   cases j with
   |zero=>omega
   |succ j=>exact(List.getElem?_eq_some_iff.1 h1).1
  have hjn:j=nl:=by
   by_cases hlt:j+1<hs.length
   ·obtain⟨i,hi⟩:=hF.onto j hlt;have hil:i<al.length:=by rw[<-hF.len];exact(List.getElem?_eq_some_iff.1 hi).1
    have:=(hh.nums i j hi).1 (hall i hil);omega
   ·omega
  subst hjn
  have h1':hs[j]? =some hj:=by
   cases j with
   |succ j=>exact h1
   |zero=>
    rw[hF.first,<-h1];show some _=some _
    congr 1
    unfold hA
    congr 2
    apply List.map_congr_left;intro p hp;obtain⟨q,hq⟩:=List.mem_iff_getElem?.1 hp;obtain⟨o,ho1,_⟩:=hF.new q p hq;have hil:p.1<al.length:=(List.getElem?_eq_some_iff.1 ho1).1;simp only[hall p.1 hil]
  rw[hnl2]at h1';cases h1';exact⟨h2,λt av hg=>hh.env t av (by rw[T6,if_pos (show N6 ops al.length listed t from λk hk _=>hall k hk)];exact hg),hh.size,hh.defers⟩
 intro f
 induction f with
 |zero=>
  intro listed a σ j hsz htail hle hh hc
  have hall:∀i,i<ops.size->listed.getD i true:=by
   intro i hi;cases hb:listed.getD i true with
   |true=>rfl
   |false=>
    exfalso
    have hmem:false∈listed.toList:=by
     rw[List.mem_iff_getElem?];refine⟨i,?_⟩;have:listed[i]? =some listed[i]:=Array.getElem?_eq_getElem (by omega);simp only[Array.getD_eq_getD_getElem?,this,Option.getD_some]at hb;simp only[Array.getElem?_toList,this,hb]
    have:=List.count_pos_iff.2 hmem;omega
  have hmn:al.length=ops.size:=by
   by_cases he:al.length=ops.size
   ·exact he
   ·have:=htail al.length (Nat.le_refl _) (by omega);rw[hall _ (by omega)]at this;cases this
  have:=hend σ a hle (hfin listed a σ j hh λi hi=>hall i (by omega));refine LM ho.toOrderB 0 al.length listed a σ.w (Nat.le_refl _) hm (by omega) hsz (λi hi=>by rw[hall i hi];simp;omega) this
 |succ f ih=>
  intro listed a σ j hsz htail hle hh hc
  by_cases hall:∀i,i<al.length->listed.getD i true=true
  ·refine LM ho.toOrderB (f+1) al.length listed a σ.w (Nat.le_refl _) hm ?_ hsz (λi hi=>?_) (hend σ a hle (hfin listed a σ j hh hall))
   ·have hcnt:ops.size - al.length<=listed.toList.count false:=by
     have hsplit:listed.toList=listed.toList.take al.length++listed.toList.drop al.length:=(List.take_append_drop _ _).symm;rw[hsplit,List.count_append]
     have hd:listed.toList.drop al.length=List.replicate (ops.size - al.length) false:=by
      apply List.eq_replicate_iff.2;refine⟨by simp[hsz],λb hb=>?_⟩;obtain⟨i,hi⟩:=List.mem_iff_getElem?.1 hb;rw[List.getElem?_drop]at hi;have hlt:=(List.getElem?_eq_some_iff.1 hi).1;have:=htail (al.length+i) (by omega) (by simpa[hsz]using hlt);simp only[Array.getElem?_toList]at hi;simp only[Array.getD_eq_getD_getElem?,hi,Option.getD_some]at this;exact this
     rw[hd,List.count_replicate];simp
    omega
   ·by_cases him:i<al.length
    ·rw[hall i him];simp[him]
    ·rw[htail i (by omega) hi];simp[him]
  ·obtain⟨i0,hi0,hn0⟩:∃i,i<al.length/\listed.getD i true=false:=by
    false_or_by_contra
    rename_i hcon
    exact hall λi hi=>by
     cases hb:listed.getD i true with
     |true=>rfl
     |false=>exact absurd ⟨i,hi,hb⟩ hcon
   refine⟨λhnil=>?_,λi hi=>?_⟩
   ·obtain⟨i,hi⟩:=WQ (md:=md) ho.toOrderB hsz ⟨i0,by omega,hn0⟩;rw[hnil]at hi;cases hi
   ·obtain⟨hun,o,hoi,hdeps⟩:=Gd.1 hi;have hin:=(Array.getElem?_eq_some_iff.1 hoi).1
    have him:i<al.length:=by
     by_cases h':i<al.length
     ·exact h'
     ·rcases ho.tail i hin (by omega) with h|⟨hmi,h⟩|⟨hmi,h⟩
      ·exact absurd hi (CZ (h i0 (by omega)) hn0)
      ·exact absurd hi (CZ h (htail (i - 1) (by omega) (by omega)))
      ·subst hmi;exact absurd hi (YW h hi0 hn0 λk j hk hj hl hah=>hh.closed k j hk hl (RZ hk hj hah))
    obtain⟨ao,hao,hco⟩:=hget i o (by rw[List.getElem?_take,if_pos him];simpa using hoi);obtain⟨hop,hd,hdst,hguard⟩:=GZ hco;obtain⟨fn,hfn⟩:∃fn,fl[i]? =some fn:=⟨_,b48 (by rw[hF.len];exact him)⟩
    have hfact:=hF.fact i ao fn hao hfn;obtain⟨hj,hjs,hinv⟩:=hh.inv
    have hjl:j<hs.length:=by
     cases j with
     |zero=>omega
     |succ j=>exact(List.getElem?_eq_some_iff.1 hjs).1
    have hnew:0<j->∀p∈az,listed.getD p.1 true:=by
     intro hj0 p hp;obtain⟨k,hk⟩:=hF.onto 0 (by omega);have hkm:k<al.length:=by rw[<-hF.len];exact(List.getElem?_eq_some_iff.1 hk).1
     exact NB (L:=λk=>listed.getD k true) hh.closed (k+1) k (by omega) hkm ((hh.nums k 0 hk).2 hj0) _ (hF.qf k 0 hk p hp)
    have hcur:∀i,(∀p∈az,p.1≠i)->Vh h az hs (λk=>(listed.setIfInBounds i true).getD k true) j=Vh h az hs (λk=>listed.getD k true) j:=by
     intro i hi;cases j with
     |succ j=>rfl
     |zero=>
      show some _=some _
      congr 1
      unfold hA
      congr 2
      apply List.map_congr_left;intro p hp
      by_cases hil:i<listed.size
      ·have:=AE (listed:=listed) (i:=i) (j:=p.1) (d:=true) hil;rw[if_neg (λe=>hi p hp e.symm)]at this;simp only[this]
      ·have:listed.setIfInBounds i true=listed:=by simp[Array.setIfInBounds,hil]
       simp only[this]
    have hahead0:∀k,k∈(T0 ops al.length).getD i []->listed.getD k true:=by
     intro k hk;have ha:=(IT hk).2;cases hb:listed.getD k true with
     |true=>rfl
     |false=>exact absurd hi (CZ ha hb)
    have hahead:∀k,k∈(clo (T0 ops al.length)).getD i []->listed.getD k true:=by
     intro k hk;rcases bw hk with h1|⟨j,h1,h2,h3⟩
     ·exact hahead0 k h1
     ·exact NB (L:=λk=>listed.getD k true) hh.closed (j+1) j (by omega) (IT h1).1 (hahead0 j h1) _ h3
    have hsee:∀t∈ao.looks,N6 ops al.length listed t:=by
     intro t ht k hk hkd;have ha:=ho.head i ao him hao t ht k hk hkd;unfold S6 at ha;rw[hoi]at ha;simp only[Array.any_eq_true']at ha;obtain⟨e,he,hb⟩:=ha;simp only[b47,beq_iff_eq]at hb;have:=hdeps e he (RE hb.1);rw[hb.2,NX (by omega) false true]at this;exact this
    have hlook:∀t∈ao.looks,get (Q9 (N6 ops al.length listed) F) t=get F t:=λt ht=>by rw[T6,if_pos (hsee t ht)]
    have hst:St σ hj (Q9 (N6 ops al.length listed) F) N a:=⟨hinv,hh.env,hh.size,hh.defers⟩
    have hcount:(listed.setIfInBounds i true).toList.count false<=f:=by
     have hget':listed.toList[i]'(by simp;omega)=false:=by
      have:listed[i]? =some listed[i]:=Array.getElem?_eq_getElem (by omega);simp only[Array.getD_eq_getD_getElem?,this,Option.getD_some]at hun;simpa using hun
     have:=List.count_set (a:=true) (b:=false) (l:=listed.toList) (i:=i) (by simp;omega);simp only[Array.toList_setIfInBounds];rw[this,hget'];have hp:0<listed.toList.count false:=List.count_pos_iff.2 (by rw[List.mem_iff_getElem];exact⟨i,by simp;omega,hget'⟩);show listed.toList.count false - 1+0<=f;omega
    have hnext:∀(a':Act) (σ':Sg) (j':Nat),Le σ σ'->XX ops al.length F h az hs fl j' N (listed.setIfInBounds i true) σ' a'->wpAny P md ops Q f (listed.setIfInBounds i true) a' σ'.w:=by
     intro a' σ' j' hl' hh';refine ih _ a' σ' j' (by simp[hsz]) (λk hk1 hk2=>?_) (hle.trans hl') hh' hcount;rw[AE (by omega),if_neg (by omega)];exact htail k hk1 hk2
    have hseen':∀t,N6 ops al.length (listed.setIfInBounds i true) t->(ops[i]?).bind (·.dst)≠some t->N6 ops al.length listed t:=by
     intro t ht hne k hk hkd;have:=ht k hk hkd;rw[AE (by omega)]at this
     by_cases hik:i=k
     ·subst hik;exact absurd hkd hne
     ·rwa [if_neg hik]at this
    have hbind:(ops[i]?).bind (·.dst)=o.dst:=by rw[hoi];rfl
    have hclosed:∀k l:Nat,k<al.length->(listed.setIfInBounds i true).getD k true->l∈(T0 ops al.length).getD k []->(listed.setIfInBounds i true).getD l true:=by
     intro k l hk hkl hl;rw[AE (by omega)]
     by_cases hil:i=l
     ·rw[if_pos hil]
     ·rw[if_neg hil]
      by_cases hik:i=k
      ·subst hik;exact hahead0 l hl
      ·rw[AE (by omega),if_neg hik]at hkl;exact hh.closed k l hk hkl hl
    have quietNums:fl[i]? =some none->∀k n:Nat,fl[k]? =some (some n)->((listed.setIfInBounds i true).getD k true=true↔n<j):=by
     intro hnone k n hk;have hik:i≠k:=by rintro rfl;rw[hnone]at hk;cases hk
     rw[AE (by omega),if_neg hik];exact hh.nums k n hk
    have Fz:∀K:AV->A3->Prop,E9 P ao.op F hj K->E9 P ao.op (Q9 (N6 ops al.length listed) F) hj K:=by
     intro K hk;rw[PF (e1:=Q9 (N6 ops al.length listed) F) (e2:=F)]
     ·exact hk
     ·intro x hx;cases x with
      |c a=>rfl
      |t n=>
       refine hlook n ?_;simp only[C2.looks,List.mem_append,List.mem_filterMap];exact .inl ⟨.t n,hx,rfl⟩
    have envOK:∀(σ':Sg) (a':Act) (av:AV),P7 σ' (M9 (Q9 (N6 ops al.length listed) F) o.dst av) a'.tmps->(∀d,ao.dst=some d->get F d=some av)->P7 σ' (Q9 (N6 ops al.length (listed.setIfInBounds i true)) F) a'.tmps:=by
     intro σ' a' av he hfd t bv hg;rw[T6]at hg;split at hg
     ·rename_i hs
      by_cases hdt:o.dst=some t
      ·have:=hfd t (by rw[hdst];exact hdt);rw[this]at hg;cases hg;exact he t av (by rw[BX,if_pos hdt])
      ·exact he t bv (by rw[BX,if_neg hdt,T6,if_pos (hseen' t hs (by rw[hbind];exact hdt))];exact hg)
     ·cases hg
    by_cases hisA:∃(q:Nat) (p:Nat × b5l AV),az[q]? =some p/\p.1=i
    ·obtain⟨q,p,hqp,hpi⟩:=hisA;obtain⟨o',ho1,ho2,ho3,ho4,ho5⟩:=hF.new q p hqp;subst hpi;rw[hao]at ho1;cases ho1
     have hj0:j=0:=by
      by_cases hz:j=0
      ·exact hz
      ·have:=hnew (by omega) p (b5g hqp);rw[hun]at this;cases this
     subst hj0;have hjs':hj=hA h az λk=>listed.getD k true:=(Option.some.inj hjs).symm
     have hslot:hj.A5[h.A5.length+q]? =some none:=by
      rw[hjs'];simp only[hA];rw[b5a (by omega),Nat.add_sub_cancel_left,b5b,hqp];simp only[Option.map_some,hun,Bool.false_eq_true,if_false]
     have heq:(⟨hj.A5.set (h.A5.length+q) (some p.2),hj.A9,hj.B0⟩:A3)=hA h az λk=>(listed.setIfInBounds p.1 true).getD k true:=by
      rw[hjs'];simp only[hA]
      congr 1
      rw[List.set_append_right _ _ (by omega),Nat.add_sub_cancel_left]
      congr 1
      apply List.ext_getElem?;intro r
      by_cases hrq:q=r
      ·subst hrq;have hl:q<az.length:=(List.getElem?_eq_some_iff.1 hqp).1;rw[List.getElem?_set_self (by simpa using hl),b5b,hqp];simp only[Option.map_some];have:=AE (listed:=listed) (i:=p.1) (j:=p.1) (d:=true) (by omega);rw[if_pos rfl]at this;simp only[this,if_true]
      ·rw[List.getElem?_set_ne hrq,b5b,b5b];cases hr:az[r]? with
       |none=>rfl
       |some s=>
        have:=AE (listed:=listed) (i:=p.1) (j:=s.1) (d:=true) (by omega);rw[if_neg (λe=>hrq (hF.inj q r p s hqp hr e))]at this;simp only[Option.map_some,this]
     unfold wpOp;rw[hoi];simp only
     have hw:Region.wanted o (yielded ops a.tmps):=by
      rcases hguard with⟨hg1,_⟩|⟨_,_,_,_,hg2,_⟩
      ·simp[Region.wanted,hg1]
      ·rw[ho3]at hg2;cases hg2
     rw[if_pos hw];refine .inl (Oper.wp_mono (λa' w' hb=>?_) (jZ (gq (ho2▸hop) (by simp)) hst hd hslot Q));obtain⟨σ',rfl,l1,s1⟩:=hb;exact hnext a' σ' 0 l1 ⟨⟨_,rfl,by rw[<-heq];exact s1.inv⟩,envOK σ' a' _ s1.env ho5,s1.size,s1.defers,quietNums ho4,hclosed⟩
    have hni:∀p∈az,p.1≠i:=by
     intro p hp hpi;obtain⟨q,hq⟩:=List.mem_iff_getElem?.1 hp;exact hisA ⟨q,p,hq,hpi⟩
    have hfact:=hfact.resolve_left hisA
    have does:Mm P F h az hs (clo (T0 ops al.length)) fl i ao fn->Oper.wp P o a σ.w (wpAny P md ops Q f (listed.setIfInBounds i true)) Q:=by
     intro hdo;cases fn with
     |none=>
      obtain⟨av,j0,j1,hj0,hqa,hlo,hhi,hfd⟩:=hdo
      have h0:j0<=j:=by
       by_cases hlt:j0<=j
       ·exact hlt
       ·exfalso;have hb:j+1<hs.length:=by omega
        obtain⟨k,hk⟩:=hF.onto j hb;have:=hahead k (hlo k j hk (by omega));have:=(hh.nums k j hk).1 this;omega
      have h1:j<=j1:=by
       rcases hhi with hhi|⟨k,hk,hik⟩
       ·omega
       ·by_cases hlt:j<=j1
        ·exact hlt
        ·exfalso;have hkl:=(hh.nums k j1 hk).2 (by omega);have hkm:k<al.length:=by rw[<-hF.len];exact(List.getElem?_eq_some_iff.1 hk).1
         have:=NB (L:=λk=>listed.getD k true) hh.closed (k+1) k (by omega) hkm hkl _ hik;rw[hun]at this;cases this
      have hqa':=Fz _ (hqa j _ hj h0 h1 hjs);refine Oper.wp_mono (λa' w' hb=>?_) (Py hop hst hd hqa' Q);obtain⟨σ',h',av',rfl,l1,s1,rfl,rfl⟩:=hb;exact hnext a' σ' j l1 ⟨⟨_,by rw[hcur i hni];exact hjs,s1.inv⟩,envOK σ' a' av' s1.env hfd,s1.size,s1.defers,quietNums hfn,hclosed⟩
     |some n=>
      obtain⟨av,h1,h2,e1,e2,hqa,hfd⟩:=hdo
      have hnj:¬n<j:=λhlt=>by
       have:=(hh.nums i n hfn).2 hlt;rw[hun]at this;cases this
      have hnj2:n=j:=by
       by_cases he:n=j
       ·exact he
       ·exfalso;have hb:j+1<hs.length:=by have:=(List.getElem?_eq_some_iff.1 e2).1;omega
        obtain⟨k,hk⟩:=hF.onto j hb;have hki:k≠i:=by rintro rfl;rw[hfn]at hk;cases hk;exact he rfl
        rcases Nat.lt_or_ge k i with hlt|hge
        ·have:=hahead k (hF.chain k i j n hlt hk hfn).2;have:=(hh.nums k j hk).1 this;omega
        ·have:=(hF.chain i k n j (by omega) hfn hk).1;omega
      subst hnj2
      have hjs':hs[n]? =some hj:=by
       cases n with
       |succ n=>exact hjs
       |zero=>
        rw[hF.first,<-hjs];show some _=some _
        congr 1
        unfold hA
        congr 2
        apply List.map_congr_left;intro p hp;simp only[hahead p.1 (hF.qf i 0 hfn p hp)]
      rw[hjs']at e1;cases e1;have hqa':=Fz _ hqa;refine Oper.wp_mono (λa' w' hb=>?_) (Py hop hst hd hqa' Q);obtain⟨σ',h',av',rfl,l1,s1,rfl,rfl⟩:=hb;refine hnext a' σ' (n+1) l1 ⟨⟨_,e2,s1.inv⟩,envOK σ' a' av' s1.env hfd,s1.size,s1.defers,?_,hclosed⟩;intro k n' hk;rw[AE (by omega)]
      by_cases hik:i=k
      ·subst hik;rw[hfn]at hk;cases hk;rw[if_pos rfl];simp
      ·rw[if_neg hik,hh.nums k n' hk]
       have hne:n'≠n:=by
        rintro rfl;rcases Nat.lt_or_ge i k with hlt|hge
        ·have:=(hF.chain i k n' n' hlt hfn hk).1;omega
        ·have:=(hF.chain k i n' n' (Nat.lt_of_le_of_ne hge (λe=>hik e.symm)) hk hfn).1;exact absurd this (Nat.lt_irrefl _)
       omega
    unfold wpOp;rw[hoi];simp only
    have skip:(fn=none/\∀d,ao.dst=some d->get F d=some (.tuple []))->wpAny P md ops Q f (listed.setIfInBounds i true) (a.put o.dst undef) σ.w:=by
     rintro⟨rfl,hno⟩;have s1:=hst.skipped o.dst hd;refine hnext _ σ j (Le.refl σ) ⟨⟨_,by rw[hcur i hni];exact hjs,s1.inv⟩,?_,s1.size,s1.defers,quietNums hfn,hclosed⟩;intro u bv hg;rw[T6]at hg;split at hg
     ·rename_i hs
      by_cases hdt:o.dst=some u
      ·have:=hno u (by rw[hdst];exact hdt);rw[this]at hg;cases hg;exact s1.env u _ (by rw[CX,if_pos hdt])
      ·exact s1.env u bv (by rw[CX,if_neg hdt,T6,if_pos (hseen' u hs (by rw[hbind];exact hdt))];exact hg)
     ·cases hg
    unfold Gk at hfact;rcases hguard with⟨hg1,hg2⟩|⟨jg,b,t,hg1,hg2,hg3⟩
    ·have hw:Region.wanted o (yielded ops a.tmps):=by simp[Region.wanted,hg1]
     rw[if_pos hw];rw[hg2]at hfact;exact .inl (does hfact)
    ·rw[hg2]at hfact;rcases hfact with⟨c,hgt,hyes,hno⟩|⟨hgt,hno⟩
     ·have hy:yielded ops a.tmps jg=some c:=VV (env:=Q9 (N6 ops al.length listed) F) hg3 hh.env (by rw[hlook t (by simp[C2.looks,hg2])];exact hgt)
      by_cases hcb:c=b
      ·have hw:Region.wanted o (yielded ops a.tmps):=by simp[Region.wanted,hg1,hy,hcb]
       rw[if_pos hw];exact .inl (does (hyes hcb))
      ·have hw:Region.wanted o (yielded ops a.tmps)=false:=by simp[Region.wanted,hg1,hy,hcb]
       rw[hw];simp only[Bool.false_eq_true,if_false];exact skip (hno hcb)
     ·have hy:yielded ops a.tmps jg=none:=Re (env:=Q9 (N6 ops al.length listed) F) hg3 hh.env (by rw[hlook t (by simp[C2.looks,hg2])];exact hgt);have hw:Region.wanted o (yielded ops a.tmps)=false:=by simp[Region.wanted,hg1,hy]
      rw[hw];simp only[Bool.false_eq_true,if_false];exact skip hno
theorem uy{id:Nat}{ops:Array Oper}{al tl:b5l C2}(hq:W3 P N ops (ops.toList.take al.length)=some al)(ht:W3 P N ops (ops.toList.drop al.length)=some tl)(hok:Is ops al){Q:Exit->Env->A3->Prop}(hs:St σ h env N a){F:Env}{h':A3}{az:b5l (Nat × b5l AV)}{hl:b5l A3}{fl:b5l (b5m Nat)}(hn:Md P (clo (T0 ops al.length)) al env F h h' az hl fl)(hv:AT P tl F h' λenv' h'=>Q .normal env' h'):(Code.region id ops true).wp P (BI σ N Q) a σ.w:=by
 simp only[Is,b47,b45]at hok;obtain⟨⟨⟨h1,h2⟩,h3⟩,h4⟩:=hok;have ho:=Xx h1;have hd:K9 σ.w {σ.w with drawn:=σ.w.drawn+1}:=⟨Nat.le_refl _,λ_ _=>rfl,rfl,rfl,rfl⟩
 let σ1:Sg:={σ with w:={σ.w with drawn:=σ.w.drawn+1}}
 have hle1:Le σ σ1:=Le.world hd;have hi1:Inv h σ1:=hs.inv.world hd;obtain⟨hlen,hget⟩:=GY hq;have hrep:∀i,i<ops.size->(Array.replicate ops.size false).getD i true=false:=λi hi=>by simp[Array.getD_eq_getD_getElem?,Array.getElem?_replicate,hi]
 have every:∀md:Region.Mode,wpAny P md ops (BI σ N Q) ops.size (Array.replicate ops.size false) a {σ.w with drawn:=σ.w.drawn+1}:=by
  intro md;refine a3a (σ₀:=σ1) hq h3 ho hn ?_ ops.size _ a σ1 0 (by simp) (λi _ hi=>hrep i hi) (Le.refl _) ?_ ?_
  ·intro σ2 a2 l2 s2;have hlen2:(ops.toList.drop al.length).length=ops.size - al.length:=by simp
   rw[<-hlen2];refine KU (σ₀:=σ1) (K:=λenv' h'=>Q .normal env' h') (λσ3 h3 env3 a3 l3 s3 q3=>⟨trivial,σ3,h3,env3,rfl,hle1.trans l3,s3,q3⟩) _ _ tl σ2 h' F a2 (λj hj=>?_) ht l2 s2 hv;rw[List.getElem?_drop,Array.getElem?_toList]
  ·refine⟨⟨_,rfl,?_⟩,?_,hs.size,hs.defers,?_,?_⟩
   ·have:hA h az (λk=>(Array.replicate ops.size false).getD k true)=⟨h.A5++List.replicate az.length none,h.A9,h.B0⟩:=by
     unfold hA
     congr 2
     apply List.ext_getElem?;intro q;rw[b5b,List.getElem?_replicate];cases hq:az[q]? with
     |none=>
      have:az.length<=q:=List.getElem?_eq_none_iff.1 hq;rw[if_neg (by omega)];rfl
     |some p=>
      have hql:q<az.length:=(List.getElem?_eq_some_iff.1 hq).1;obtain⟨o,ho1,_⟩:=hn.new q p hq;have hil:p.1<al.length:=(List.getElem?_eq_some_iff.1 ho1).1;rw[if_pos hql];simp only[Option.map_some,hrep p.1 (show p.1<ops.size by omega)];rfl
    rw[this];exact mr hi1 az.length
   ·intro t av hg;rw[T6]at hg;split at hg
    ·rename_i hsn
     have hw:I2 t al=false:=by
      cases hwb:I2 t al with
      |false=>rfl
      |true=>
       exfalso;unfold I2 at hwb;rw[List.any_eq_true]at hwb;obtain⟨o,hmem,hod⟩:=hwb;obtain⟨i,hi⟩:=List.mem_iff_getElem?.1 hmem;have hil:i<al.length:=(List.getElem?_eq_some_iff.1 hi).1;have hops:ops[i]? =some ops[i]:=Array.getElem?_eq_getElem (by omega);obtain⟨ao,hao,hco⟩:=hget i ops[i] (by rw[List.getElem?_take,if_pos hil];simpa using hops);rw[hi]at hao;cases hao;have:=(GZ hco).2.2.1;have hf:=hsn i hil (by rw[hops];simp only[Option.bind_some];rw[<-this];simpa using hod);rw[hrep i (by omega)]at hf;cases hf
     rw[hn.keep t hw]at hg;obtain⟨x,q1,q2⟩:=hs.env t av hg;exact⟨x,q1,q2.mono hle1⟩
    ·cases hg
   ·intro i n hi;have hil:i<al.length:=by rw[<-hn.len];exact(List.getElem?_eq_some_iff.1 hi).1
    rw[hrep i (by omega)];simp
   ·intro k i hil hkl;rw[hrep k (by omega)]at hkl;cases hkl
  ·simp
 refine wp_region_draw λt=>?_
 unfold Region.schedule;split
 ·exact wpAny_sound ops.size t _ a _ (every .any)
 ·exact wpAny_sound ops.size (t / 2) _ a _ (every _)
end
def UL(ops:Array Oper):Nat:=((List.range (ops.size+1)).find? λm=>(List.range ops.size).all λi=>decide (i<m)||((List.range i).all λj=>S6 ops i j)||(decide (m<i)&&S6 ops i (i - 1))||(decide (i=m)&&Lv ops m)).getD ops.size
def G0(P:Program)(N:Nat):Code->b5m F7
 |.skip=>some .skip
 |.region _ ops false=>(W3 P N ops ops.toList).map .region
 |.region _ ops true=>(W3 P N ops (ops.toList.take (UL ops))).bind λal=>(W3 P N ops (ops.toList.drop (UL ops))).bind λtl=>
  if Is ops al=true/\al.length=UL ops then some (.drawn (T0 ops al.length) al tl) else if bN ops al/\al.length=UL ops then some (.late (T0 ops al.length) al tl) else none
 |.seq a b=>(G0 P N a).bind λa=>(G0 P N b).map λb=>.seq a b
 |.cond c a b=>(G1 c).bind λc=>(G0 P N a).bind λa=>(G0 P N b).map λb=>.cond c a b
 |.block id a=>(G0 P N a).map λa=>.block id a
 |.loop a=>(G0 P N a).map λa=>.loop a
 |.exit id=>some (.exit id)
 |.ret=>some .ret
 |.scope a=>(G0 P N a).map .scope
 |.label l=>some (.label l)
 |.goto l=>some (.goto l)
 |_=>none
def L4(P:Program)(N:Nat)(ac:F7)(Q:Exit->Env->A3->Prop)(env:Env)(h:A3):Prop:=
 ∀c,G0 P N c=some ac->∀(σ:Sg) (a:Act),St σ h env N a->c.wp P (BI σ N Q) a σ.w
def Im(K:Env->A3->Prop)(Q:Exit->Env->A3->Prop):Exit->Env->A3->Prop
 |.normal,env,h=>K env h
 |e,env,h=>Q e env h
def Om(id:Nat)(Q:Exit->Env->A3->Prop):Exit->Env->A3->Prop
 |.exit i,env,h=>if i=id then Q .normal env h else Q (.exit i) env h
 |e,env,h=>Q e env h
def EN:Env->Env->Prop
 |[],_=>True
 |(t,av)::e,env=>get env t=some av/\EN e env
theorem EN.get{env:Env}:∀{e:Env},EN e env->∀t av,Lift.get e t=some av->Lift.get env t=some av
 |[],_,t,av,h=>by simp[Lift.get]at h
 |(u,b)::e,h,t,av,hg=>by
  simp only[Lift.get]at hg;split at hg
  ·rename_i hu;subst hu;cases hg;exact h.1
  ·exact EN.get h.2 t av hg
section
variable {P:Program}{N:Nat}{Q:Exit->Env->A3->Prop}{env:Env}{h:A3}
theorem BI.up{σ σ':Sg}(hl:Le σ σ'){e:Exit}{a:Act}{w:World}(hh:BI σ' N Q e a w):BI σ N Q e a w:=by
 obtain⟨h1,σ2,h2,env2,q1,q2,q3,q4⟩:=hh;exact⟨h1,σ2,h2,env2,q1,hl.trans q2,q3,q4⟩
theorem kL(hq:Q .normal env h):L4 P N .skip Q env h:=by
 intro c hc σ a hs;cases c<;>(try simp only[G0,b44,b43]at hc)
 case skip=>exact wp_skip ⟨trivial,σ,h,env,rfl,Le.refl σ,hs,hq⟩
 case region id ops d=>
  cases d<;>simp only[G0,b44,b43]at hc
  ·obtain⟨_,_,hx⟩:=hc;cases hx
  ·obtain⟨_,_,_,_,hx⟩:=hc;(repeat' split at hx)<;>cases hx
 all_goals first
  |(cases hc;done)
  |(obtain⟨_,_,hx⟩:=hc;cases hx;done)
  |(obtain⟨_,_,_,_,hx⟩:=hc;cases hx;done)
  |(obtain⟨_,_,_,_,_,_,hx⟩:=hc;cases hx;done)
theorem pF{id:Nat}(hq:Q (.exit id) env h):L4 P N (.exit id) Q env h:=by
 intro c hc σ a hs;cases c<;>(try simp only[G0,b44,b43]at hc)
 case exit=>cases hc;exact wp_exit ⟨trivial,σ,h,env,rfl,Le.refl σ,hs,hq⟩
 case region id ops d=>
  cases d<;>simp only[G0,b44,b43]at hc
  ·obtain⟨_,_,hx⟩:=hc;cases hx
  ·obtain⟨_,_,_,_,hx⟩:=hc;(repeat' split at hx)<;>cases hx
 all_goals first
  |(cases hc;done)
  |(obtain⟨_,_,hx⟩:=hc;cases hx;done)
  |(obtain⟨_,_,_,_,hx⟩:=hc;cases hx;done)
  |(obtain⟨_,_,_,_,_,_,hx⟩:=hc;cases hx;done)
theorem nJ(hq:Q .ret env h):L4 P N .ret Q env h:=by
 intro c hc σ a hs;cases c<;>(try simp only[G0,b44,b43]at hc)
 case ret=>exact wp_ret ⟨trivial,σ,h,env,rfl,Le.refl σ,hs,hq⟩
 case region id ops d=>
  cases d<;>simp only[G0,b44,b43]at hc
  ·obtain⟨_,_,hx⟩:=hc;cases hx
  ·obtain⟨_,_,_,_,hx⟩:=hc;(repeat' split at hx)<;>cases hx
 all_goals first
  |(cases hc;done)
  |(obtain⟨_,_,hx⟩:=hc;cases hx;done)
  |(obtain⟨_,_,_,_,hx⟩:=hc;cases hx;done)
  |(obtain⟨_,_,_,_,_,_,hx⟩:=hc;cases hx;done)
theorem jb{ops:b5l C2}(hv:AT P ops env h (λenv' h'=>Q .normal env' h')):L4 P N (.region ops) Q env h:=by
 intro c hc σ a hs;cases c<;>(try simp only[G0,b44,b43]at hc)
 case region id ops' d=>
  cases d<;>simp only[G0,b44,b43]at hc
  ·obtain⟨al,hal,hx⟩:=hc;cases hx;refine wp_region ?_;have:=KU (Q:=BI σ N Q) (σ₀:=σ) (K:=λenv' h'=>Q .normal env' h') (λσ3 h3 env3 a3 l3 s3 q3=>⟨trivial,σ3,h3,env3,rfl,l3,s3,q3⟩) ops'.toList 0 ops σ h env a (λj hj=>by simp) hal (Le.refl σ) hs hv;rw[List.range_eq_range'];simpa using this
  ·obtain⟨_,_,_,_,hx⟩:=hc;(repeat' split at hx)<;>cases hx
 all_goals first
  |(cases hc;done)
  |(obtain⟨_,_,hx⟩:=hc;cases hx;done)
  |(obtain⟨_,_,_,_,hx⟩:=hc;cases hx;done)
  |(obtain⟨_,_,_,_,_,_,hx⟩:=hc;cases hx;done)
theorem b0j{ord:b5l (b5l Nat)}{al tl:b5l C2}(hv:vq P al env h λF=>AT P tl F h λenv' h'=>Q .normal env' h'):L4 P N (.drawn ord al tl) Q env h:=by
 intro c hc σ a hs;cases c<;>(try simp only[G0,b44,b43]at hc)
 case region id ops' d=>
  cases d<;>simp only[G0,b44,b43]at hc
  ·obtain⟨_,_,hx⟩:=hc;cases hx
  ·obtain⟨al',hal,tl',htl,hx⟩:=hc;split at hx
   ·rename_i hcond;cases hx;obtain⟨c2,c3⟩:=hcond;rw[<-c3]at hal htl;exact b1y hal htl c2 hs hv
   ·split at hx<;>cases hx
 all_goals first
  |(cases hc;done)
  |(obtain⟨_,_,hx⟩:=hc;cases hx;done)
  |(obtain⟨_,_,_,_,hx⟩:=hc;cases hx;done)
  |(obtain⟨_,_,_,_,_,_,hx⟩:=hc;cases hx;done)
theorem ZR{ord:b5l (b5l Nat)}{al tl:b5l C2}{F:Env}{h':A3}{az:b5l (Nat × b5l AV)}{hl:b5l A3}{fl:b5l (b5m Nat)}(hn:Md P (clo ord) al env F h h' az hl fl)(hv:AT P tl F h' λenv' h'=>Q .normal env' h'):L4 P N (.drawn ord al tl) Q env h:=by
 intro c hc σ a hs;cases c<;>(try simp only[G0,b44,b43]at hc)
 case region id ops' d=>
  cases d<;>simp only[G0,b44,b43]at hc
  ·obtain⟨_,_,hx⟩:=hc;cases hx
  ·obtain⟨al',hal,tl',htl,hx⟩:=hc;split at hx
   ·rename_i hcond;cases hx;obtain⟨c2,c3⟩:=hcond;rw[<-c3]at hal htl;exact uy hal htl c2 hs hn hv
   ·split at hx<;>cases hx
 all_goals first
  |(cases hc;done)
  |(obtain⟨_,_,hx⟩:=hc;cases hx;done)
  |(obtain⟨_,_,_,_,hx⟩:=hc;cases hx;done)
  |(obtain⟨_,_,_,_,_,_,hx⟩:=hc;cases hx;done)
theorem b3k{x y:F7}(hx:L4 P N x (Im (L4 P N y Q) Q) env h):L4 P N (.seq x y) Q env h:=by
 intro c hc σ a hs;cases c<;>(try simp only[G0,b44,b43]at hc)
 case seq cx cy=>
  obtain⟨x',hx',y',hy',he⟩:=hc;cases he;refine wp_seq (wp_mono (hx cx hx' σ a hs) ?_);intro e a' w' hh;obtain⟨h1,σ2,h2,env2,rfl,q2,q3,q4⟩:=hh;cases e with
  |normal=>exact wp_mono (q4 cy hy' σ2 a' q3) λe a w hh=>hh.up q2
  |panic _=>exact h1.elim
  |outgrown=>exact h1.elim
  |exit _=>exact⟨trivial,σ2,h2,env2,rfl,q2,q3,q4⟩
  |goto _=>exact⟨trivial,σ2,h2,env2,rfl,q2,q3,q4⟩
  |ret=>exact⟨trivial,σ2,h2,env2,rfl,q2,q3,q4⟩
 case region id ops d=>
  cases d<;>simp only[G0,b44,b43]at hc
  ·obtain⟨_,_,hx⟩:=hc;cases hx
  ·obtain⟨_,_,_,_,hx⟩:=hc;(repeat' split at hx)<;>cases hx
 all_goals first
  |(cases hc;done)
  |(obtain⟨_,_,hx⟩:=hc;cases hx;done)
  |(obtain⟨_,_,_,_,hx⟩:=hc;cases hx;done)
  |(obtain⟨_,_,_,_,_,_,hx⟩:=hc;cases hx;done)
theorem b27{c:B9}{x y:F7}(hv:wv (c.ev env) λv=>match v with
  |.v (.bool b)=>(b=true->L4 P N x Q env h)/\(b=false->L4 P N y Q env h)
  |_=>False):L4 P N (.cond c x y) Q env h:=by
 intro cc hc σ a hs;cases cc<;>(try simp only[G0,b44,b43]at hc)
 case cond co cx cy=>
  obtain⟨c',hc',x',hx',y',hy',he⟩:=hc;cases he;obtain⟨av,hr,hk⟩:=H3 hs.env hc' hv;generalize hce:a.eval co=ce at hr;split at hk
  ·rename_i b;cases hr with
   |v _ _=>
   cases b with
   |true=>exact wp_cond_true hce (hk.1 rfl cx hx' σ a hs)
   |false=>exact wp_cond_false hce (hk.2 rfl cy hy' σ a hs)
  ·exact hk.elim
 case region id ops d=>
  cases d<;>simp only[G0,b44,b43]at hc
  ·obtain⟨_,_,hx⟩:=hc;cases hx
  ·obtain⟨_,_,_,_,hx⟩:=hc;(repeat' split at hx)<;>cases hx
 all_goals first
  |(cases hc;done)
  |(obtain⟨_,_,hx⟩:=hc;cases hx;done)
  |(obtain⟨_,_,_,_,hx⟩:=hc;cases hx;done)
  |(obtain⟨_,_,_,_,_,_,hx⟩:=hc;cases hx;done)
theorem a64{id:Nat}{x:F7}(hx:L4 P N x (Om id Q) env h):L4 P N (.block id x) Q env h:=by
 intro c hc σ a hs;cases c<;>(try simp only[G0,b44,b43]at hc)
 case block i cx=>
  obtain⟨x',hx',he⟩:=hc;cases he;refine wp_block (wp_mono (hx cx hx' σ a hs) ?_);intro e a' w' hh;obtain⟨h1,σ2,h2,env2,rfl,q2,q3,q4⟩:=hh;cases e with
  |panic _=>exact h1.elim
  |outgrown=>exact h1.elim
  |normal=>exact⟨trivial,σ2,h2,env2,rfl,q2,q3,q4⟩
  |goto _=>exact⟨trivial,σ2,h2,env2,rfl,q2,q3,q4⟩
  |ret=>exact⟨trivial,σ2,h2,env2,rfl,q2,q3,q4⟩
  |exit i=>
   simp only[Om]at q4;simp only[Exit.inBlock];split
   ·rename_i hi;rw[if_pos hi]at q4;exact⟨trivial,σ2,h2,env2,rfl,q2,q3,q4⟩
   ·rename_i hi;rw[if_neg hi]at q4;exact⟨trivial,σ2,h2,env2,rfl,q2,q3,q4⟩
 case region id ops d=>
  cases d<;>simp only[G0,b44,b43]at hc
  ·obtain⟨_,_,hx⟩:=hc;cases hx
  ·obtain⟨_,_,_,_,hx⟩:=hc;(repeat' split at hx)<;>cases hx
 all_goals first
  |(cases hc;done)
  |(obtain⟨_,_,hx⟩:=hc;cases hx;done)
  |(obtain⟨_,_,_,_,hx⟩:=hc;cases hx;done)
  |(obtain⟨_,_,_,_,_,_,hx⟩:=hc;cases hx;done)
theorem sH{x:F7}(I:Nat->Env->A3->Prop)(n₀:Nat)(e₀:Env)(h₀:EN e₀ env/\I n₀ e₀ h)(round:∀n e h,I n e h->L4 P N x (Im (λenv' h'=>∃n' e',n'<n/\EN e' env'/\I n' e' h') Q) e h):L4 P N (.loop x) Q env h:=by
 intro c hc σ a hs;cases c<;>(try simp only[G0,b44,b43]at hc)
 case loop cx=>
  obtain⟨x',hx',he⟩:=hc;cases he;refine wp_loop_ghost (λn a w=>∃σ' e h',σ'.w=w/\Le σ σ'/\St σ' h' e N a/\I n e h') n₀ ⟨σ,e₀,h,rfl,Le.refl σ,⟨hs.inv,λt av hg=>hs.env t av (h₀.1.get t av hg),hs.size,hs.defers⟩,h₀.2⟩ ?_;rintro n a w ⟨σ',e,h',rfl,l1,s1,hI⟩;refine wp_mono (round n e h' hI cx hx' σ' a s1) ?_;intro ex a' w' hh;obtain⟨h1,σ2,h2,env2,rfl,q2,q3,q4⟩:=hh;cases ex with
  |panic _=>exact h1.elim
  |outgrown=>exact h1.elim
  |normal=>
   obtain⟨n',e',hn,hel,hI'⟩:=q4;exact⟨n',hn,σ2,e',h2,rfl,l1.trans q2,⟨q3.inv,λt av hg=>q3.env t av (hel.get t av hg),q3.size,q3.defers⟩,hI'⟩
  |goto _=>exact⟨trivial,σ2,h2,env2,rfl,l1.trans q2,q3,q4⟩
  |ret=>exact⟨trivial,σ2,h2,env2,rfl,l1.trans q2,q3,q4⟩
  |exit i=>exact⟨trivial,σ2,h2,env2,rfl,l1.trans q2,q3,q4⟩
 case region id ops d=>
  cases d<;>simp only[G0,b44,b43]at hc
  ·obtain⟨_,_,hx⟩:=hc;cases hx
  ·obtain⟨_,_,_,_,hx⟩:=hc;(repeat' split at hx)<;>cases hx
 all_goals first
  |(cases hc;done)
  |(obtain⟨_,_,hx⟩:=hc;cases hx;done)
  |(obtain⟨_,_,_,_,hx⟩:=hc;cases hx;done)
  |(obtain⟨_,_,_,_,_,_,hx⟩:=hc;cases hx;done)
theorem Ob{x:F7}{Q':Exit->Env->A3->Prop}(hx:L4 P N x Q env h)(hq:∀e env h,Q e env h->Q' e env h):L4 P N x Q' env h:=by
 intro c hc σ a hs;refine wp_mono (hx c hc σ a hs) ?_;rintro e a' w' ⟨h1,σ2,h2,env2,q1,q2,q3,q4⟩;exact⟨h1,σ2,h2,env2,q1,q2,q3,hq _ _ _ q4⟩
end
theorem a2w{P:Program}{a:Act}{w:World}{Q:Exit->Act->World->Prop}{c rest:Code}(l:Nat)(J:Nat->Act->World->Prop)(hf:findLabel c l=some rest)(first:c.wp P (Exit.jump l (λa w=>∃n,J n a w) Q) a w)(pass:∀n a w,J n a w->rest.wp P (Exit.jump l (λa' w'=>∃n',n'<n/\J n' a' w') Q) a w):(Code.scope c).wp P Q a w:=by
 intro b k cs;have hg:gotoIn l (.inScope c::k)=some (.code rest::.inScope c::k):=by simp[gotoIn,hf]
 have key:∀n a w,J n a w->∃e a' w',Q e a' w'/\Arrives P (lone (b.at a (.code rest::.inScope c::k)) cs w) b k cs e a' w':=by
  intro n
  induction n using Nat.strongRecOn with
  |_ n ih=>
   intro a w hJ;obtain⟨e,a₁,w₁,hq,harr⟩:=pass n a w hJ b (.inScope c::k) cs;cases e with
   |normal=>exact⟨.normal,a₁,w₁,hq,Steps.trans harr (.one step_inScope)⟩
   |exit id=>exact⟨.exit id,a₁,w₁,hq,λk' hk=>harr k' (by simp[exitTo,hk])⟩
   |goto l'=>
    obtain⟨rfl,n',hlt,hJ'⟩:=hq;obtain⟨e₂,a₂,w₂,hq₂,harr₂⟩:=ih n' hlt a₁ w₁ hJ';exact⟨e₂,a₂,w₂,hq₂,.of_steps (harr _ hg) harr₂⟩
   |ret=>exact⟨_,a₁,w₁,hq,harr⟩
   |panic ch=>exact⟨_,a₁,w₁,hq,harr⟩
   |outgrown=>exact⟨_,a₁,w₁,hq,harr⟩
 obtain⟨e,a₁,w₁,hq,harr⟩:=first b (.inScope c::k) cs;cases e with
 |normal=>exact⟨.normal,a₁,w₁,hq,.head step_scope (Steps.trans harr (.one step_inScope))⟩
 |exit id=>exact⟨.exit id,a₁,w₁,hq,λk' hk=>.head step_scope (harr k' (by simp[exitTo,hk]))⟩
 |goto l'=>
  obtain⟨rfl,n',hJ'⟩:=hq;obtain⟨e₂,a₂,w₂,hq₂,harr₂⟩:=key n' a₁ w₁ hJ';exact⟨e₂,a₂,w₂,hq₂,.of_steps (.head step_scope (harr _ hg)) harr₂⟩
 |ret=>exact⟨_,a₁,w₁,hq,.of_steps (.one step_scope) harr⟩
 |panic ch=>exact⟨_,a₁,w₁,hq,.of_steps (.one step_scope) harr⟩
 |outgrown=>exact⟨_,a₁,w₁,hq,.of_steps (.one step_scope) harr⟩
def AD:F7->Nat->b5m F7
 |.seq a b,l=>match AD a l with
  |some rest=>some (.seq rest b)
  |none=>AD b l
 |.label l',l=>if l'==l then some .skip else none
 |_,_=>none
theorem cA{P:Program}{N:Nat}(l:Nat):∀{c:Code}{ac:F7},G0 P N c=some ac->
  (∀ar,AD ac l=some ar->∃r,findLabel c l=some r/\G0 P N r=some ar)/\(AD ac l=none->findLabel c l=none):=by
 intro c
 induction c with
 |seq x y ihx ihy=>
  intro ac hc;simp only[G0,b44,b43]at hc;obtain⟨x',hx,y',hy,rfl⟩:=hc;obtain⟨f1,f2⟩:=ihx hx;obtain⟨g1,g2⟩:=ihy hy;simp only[AD,findLabel];cases hax:AD x' l with
  |some rx=>
   obtain⟨r,h1,h2⟩:=f1 rx hax;simp only[h1];refine⟨λar h=>?_,λh=>by cases h⟩;cases h;exact⟨_,rfl,by simp[G0,h2,hy]⟩
  |none=>
   simp only[f2 hax];exact⟨g1,g2⟩
 |label l'=>
  intro ac hc;simp only[G0]at hc;cases hc;simp only[AD,findLabel];split
  ·exact⟨λar h=>by cases h;exact⟨_,rfl,rfl⟩,λh=>by cases h⟩
  ·exact⟨(λar h=>by cases h),λ_=>rfl⟩
 |region id ops d=>
  intro ac hc;cases d<;>simp only[G0,b44,b43]at hc
  ·obtain⟨_,_,rfl⟩:=hc;exact⟨(λar h=>by simp[AD]at h),λ_=>rfl⟩
  ·obtain⟨_,_,_,_,hx⟩:=hc
   (repeat' split at hx)<;>cases hx<;>exact⟨(λar h=>by simp[AD]at h),λ_=>rfl⟩
 |_=>
  intro ac hc;simp only[G0,b44,b43]at hc
  first
   |(cases hc;done)
   |(cases hc;exact⟨(λar h=>by simp[AD]at h),λ_=>rfl⟩)
   |(obtain⟨_,_,rfl⟩:=hc;exact⟨(λar h=>by simp[AD]at h),λ_=>rfl⟩)
   |(obtain⟨_,_,_,_,rfl⟩:=hc;exact⟨(λar h=>by simp[AD]at h),λ_=>rfl⟩)
   |(obtain⟨_,_,_,_,_,_,rfl⟩:=hc;exact⟨(λar h=>by simp[AD]at h),λ_=>rfl⟩)
def Qe(l:Nat)(J:Env->A3->Prop)(Q:Exit->Env->A3->Prop):Exit->Env->A3->Prop
 |.goto l',env,h=>l'=l/\J env h
 |e,env,h=>Q e env h
def dh(Q:Exit->Env->A3->Prop):Exit->Env->A3->Prop
 |.goto _,_,_=>False
 |e,env,h=>Q e env h
section
variable {P:Program}{N:Nat}{Q:Exit->Env->A3->Prop}{env:Env}{h:A3}
theorem Wb{c:Code}{x:F7}(hc:G0 P N c=some (.scope x)):∃c',c=.scope c'/\G0 P N c'=some x:=by
 cases c<;>(try simp only[G0,b44,b43]at hc)
 case scope c'=>obtain⟨x',h1,h2⟩:=hc;cases h2;exact⟨c',rfl,h1⟩
 case region id ops d=>
  cases d<;>simp only[G0,b44,b43]at hc
  ·obtain⟨_,_,hx⟩:=hc;cases hx
  ·obtain⟨_,_,_,_,hx⟩:=hc;(repeat' split at hx)<;>cases hx
 all_goals first
  |(cases hc;done)
  |(obtain⟨_,_,hx⟩:=hc;cases hx;done)
  |(obtain⟨_,_,_,_,hx⟩:=hc;cases hx;done)
  |(obtain⟨_,_,_,_,_,_,hx⟩:=hc;cases hx;done)
theorem gb{l:Nat}(hq:Q .normal env h):L4 P N (.label l) Q env h:=by
 intro c hc σ a hs;cases c<;>(try simp only[G0,b44,b43]at hc)
 case label=>exact wp_label ⟨trivial,σ,h,env,rfl,Le.refl σ,hs,hq⟩
 case region id ops d=>
  cases d<;>simp only[G0,b44,b43]at hc
  ·obtain⟨_,_,hx⟩:=hc;cases hx
  ·obtain⟨_,_,_,_,hx⟩:=hc;(repeat' split at hx)<;>cases hx
 all_goals first
  |(cases hc;done)
  |(obtain⟨_,_,hx⟩:=hc;cases hx;done)
  |(obtain⟨_,_,_,_,hx⟩:=hc;cases hx;done)
  |(obtain⟨_,_,_,_,_,_,hx⟩:=hc;cases hx;done)
theorem lc{l:Nat}(hq:Q (.goto l) env h):L4 P N (.goto l) Q env h:=by
 intro c hc σ a hs;cases c<;>(try simp only[G0,b44,b43]at hc)
 case goto=>cases hc;exact wp_goto ⟨trivial,σ,h,env,rfl,Le.refl σ,hs,hq⟩
 case region id ops d=>
  cases d<;>simp only[G0,b44,b43]at hc
  ·obtain⟨_,_,hx⟩:=hc;cases hx
  ·obtain⟨_,_,_,_,hx⟩:=hc;(repeat' split at hx)<;>cases hx
 all_goals first
  |(cases hc;done)
  |(obtain⟨_,_,hx⟩:=hc;cases hx;done)
  |(obtain⟨_,_,_,_,hx⟩:=hc;cases hx;done)
  |(obtain⟨_,_,_,_,_,_,hx⟩:=hc;cases hx;done)
theorem wT{x:F7}(hx:L4 P N x (dh Q) env h):L4 P N (.scope x) Q env h:=by
 intro c hc σ a hs;obtain⟨c',rfl,hc'⟩:=Wb hc;refine wp_scope_straight (wp_mono (hx c' hc' σ a hs) ?_);rintro e a' w' ⟨h1,σ2,h2,env2,rfl,q2,q3,q4⟩;cases e with
 |panic _=>exact h1.elim
 |outgrown=>exact h1.elim
 |goto _=>exact q4.elim
 |normal=>exact⟨trivial,σ2,h2,env2,rfl,q2,q3,q4⟩
 |ret=>exact⟨trivial,σ2,h2,env2,rfl,q2,q3,q4⟩
 |exit i=>exact⟨trivial,σ2,h2,env2,rfl,q2,q3,q4⟩
theorem b18{x rest:F7}(l:Nat)(hf:AD x l=some rest)(I:Nat->Env->A3->Prop)(first:L4 P N x (Qe l (λenv' h'=>∃n e,EN e env'/\I n e h') Q) env h)(pass:∀n e h,I n e h->L4 P N rest (Qe l (λenv' h'=>∃n' e',n'<n/\EN e' env'/\I n' e' h') Q) e h):L4 P N (.scope x) Q env h:=by
 intro c hc σ a hs;obtain⟨c',rfl,hc'⟩:=Wb hc;obtain⟨r,hr,hrc⟩:=(cA l hc').1 rest hf;refine a2w l (λn a w=>∃σ' e h',σ'.w=w/\Le σ σ'/\St σ' h' e N a/\I n e h') hr (wp_mono (first c' hc' σ a hs) ?_) ?_
 ·rintro e a' w' ⟨h1,σ2,h2,env2,rfl,q2,q3,q4⟩;cases e with
  |panic _=>exact h1.elim
  |outgrown=>exact h1.elim
  |goto l'=>
   obtain⟨rfl,n,e,hel,hI⟩:=q4;exact⟨rfl,n,σ2,e,h2,rfl,q2,⟨q3.inv,λt av hg=>q3.env t av (hel.get t av hg),q3.size,q3.defers⟩,hI⟩
  |normal=>exact⟨trivial,σ2,h2,env2,rfl,q2,q3,q4⟩
  |ret=>exact⟨trivial,σ2,h2,env2,rfl,q2,q3,q4⟩
  |exit i=>exact⟨trivial,σ2,h2,env2,rfl,q2,q3,q4⟩
 ·rintro n a w ⟨σ',e,h',rfl,l1,s1,hI⟩;refine wp_mono (pass n e h' hI r hrc σ' a s1) ?_;rintro e a' w' ⟨h1,σ2,h2,env2,rfl,q2,q3,q4⟩;cases e with
  |panic _=>exact h1.elim
  |outgrown=>exact h1.elim
  |goto l'=>
   obtain⟨rfl,n',e',hn,hel,hI'⟩:=q4;exact⟨rfl,n',hn,σ2,e',h2,rfl,l1.trans q2,⟨q3.inv,λt av hg=>q3.env t av (hel.get t av hg),q3.size,q3.defers⟩,hI'⟩
  |normal=>exact⟨trivial,σ2,h2,env2,rfl,l1.trans q2,q3,q4⟩
  |ret=>exact⟨trivial,σ2,h2,env2,rfl,l1.trans q2,q3,q4⟩
  |exit i=>exact⟨trivial,σ2,h2,env2,rfl,l1.trans q2,q3,q4⟩
end
mutual
def plain:AV->Bool
 |.v _=>true
 |.ptr _ _=>false
 |.G6 cells _=>C3 cells
 |.nil=>true
 |.sl els tok=>(match tok with|.own _=>false|_=>true)&&H9 els
 |.agg cells=>C3 cells
 |.tuple vs=>C3 vs
 |.iface _ x=>plain x
 |.clo _ first captured=>C3 first&&C3 captured
 |.F5 _=>true
 |.row _ _ _ _ _=>false
 |.it _ _=>false
 |.mp _=>false
 |.bb _ _ _=>false
 |.ps _ _=>false
def C3:List AV->Bool
 |[]=>true
 |a::r=>plain a&&C3 r
def H9:List (List AV)->Bool
 |[]=>true
 |a::r=>C3 a&&H9 r
end
theorem Ax:∀{l:b5l AV},C3 l->∀(i:Nat) (av:AV),l[i]? =some av->plain av=true
 |[],_,i,av,h=>by simp at h
 |a::r,hp,i,av,h=>by
  simp only[C3,b47]at hp;cases i with
  |zero=>simp at h;subst h;exact hp.1
  |succ i=>exact Ax hp.2 i av (by simpa using h)
theorem JV:∀{l:b5l (b5l AV)},H9 l->∀(i:Nat) (el:b5l AV),l[i]? =some el->C3 el=true
 |[],_,i,av,h=>by simp at h
 |a::r,hp,i,av,h=>by
  simp only[H9,b47]at hp;cases i with
  |zero=>simp at h;subst h;exact hp.1
  |succ i=>exact JV hp.2 i av (by simpa using h)
theorem T1{α:Type}(f:α->b5l AV)(l:b5l α)(h:∀x∈l,C3 (f x)):H9 (l.map f):=by
 induction l with
 |nil=>rfl
 |cons x l ih=>simp only[List.map_cons,H9,b47];exact⟨h x (by simp),ih λy hy=>h y (by simp[hy])⟩
def bare(w:World)(outer:Nat->Nat->Prop):Sg:=⟨w,λ_=>none,λ_=>none,outer⟩
theorem Gu(w:World)(outer:Nat->Nat->Prop)(b o:Nat):¬(bare w outer).own b o:=by
 rintro (⟨n,h⟩|⟨id,e,h,_⟩)<;>cases h
theorem Pp(w:World)(outer:Nat->Nat->Prop)(b o:Nat):(bare w outer).open_ b o↔outer b o:=⟨λh=>h.elim id λh=>(Gu w outer b o h).elim,.inl⟩
def JT(w:World)(outer:Nat->Nat->Prop)(gl:b5l (Nat × b5l AV)):Prop:=∀g cells,(g,cells)∈gl->Rel (bare w outer) (.G6 cells 0) (.pointer (some ⟨g,0,none⟩))
theorem Ug{w:World}{outer:Nat->Nat->Prop}{gl:b5l (Nat × b5l AV)}(h:∀b o,outer b o->b<w.heap.size)(hg:JT w outer gl):Inv ⟨[],[],gl⟩ (bare w outer) where
 blk n cells hn:=by simp at hn
 dom n b hn:=by cases hn
 inj n m b c c' hc hc' _ _ hn:=by cases hn
 buf id c hc:=by simp at hc
 K5 id e he:=by cases he
 K8 id e he:=by cases he
 M0 id e b o he:=by cases he
 L5 id e b o he:=by cases he
 H4 id e b o he:=by cases he
 L6 i j e f b o he:=by cases he
 I6 id e n b o he:=by cases he
 outer b o ho:=⟨h b o ho,Gu w outer b o⟩
 F5:=hg
theorem Rel.down{σ:Sg}{av:AV}{x:Value}(hr:Rel σ av x):plain av->∀{w:World}{outer:Nat->Nat->Prop},w=σ.w->(∀b o,outer b o->σ.open_ b o)->Rel (bare w outer) av x:=by
 intro hp w outer hw ho;subst hw
 induction hr with
 |v x hx=>exact .v x hx
 |ptr n off b hb=>simp[plain]at hp
 |G6 cells off b o xs hc _ ih=>
  simp only[plain]at hp;exact .G6 cells off b o xs (λi av hi=>⟨(hc i av hi).1,λh=>(hc i av hi).2.1 (ho _ _ ((Pp _ _ _ _).1 h)),(hc i av hi).2.2⟩) λi av hi=>ih i av hi (Ax hp i av hi)
 |nil=>exact .nil
 |F5 n=>exact .F5 n
 |mp n b hb=>simp[plain]at hp
 |CC _=>simp[plain]at hp
 |Ab _ _ _ _ _ _ _ _=>simp[plain]at hp
 |Em _ _ _ _ _ _ _ _ _ _=>simp[plain]at hp
 |Fu _ _ _ _ _ _ _ _=>simp[plain]at hp
 |ps _ _ _ _ _ _ _=>simp[plain]at hp
 |row n off size len capm b cap hb hc hm hx=>simp[plain]at hp
 |sl0 tok ht=>
  refine .sl0 tok ?_;cases tok with
  |no=>trivial
  |full=>exact ht
  |own id=>simp[plain]at hp
 |L3 tok a cap ht hc=>
  refine .L3 tok a cap ?_ hc;cases tok with
  |no=>trivial
  |full=>exact ht
  |own id=>simp[plain]at hp
 |sl els tok b o cap size xs hs hcap ht hz hc _ ih=>
  simp only[plain,b47]at hp;refine .sl els tok b o cap size xs hs hcap ?_ ?_ (λi el hi j av hj=>⟨(hc i el hi j av hj).1,λh=>(hc i el hi j av hj).2.1 (ho _ _ ((Pp _ _ _ _).1 h)),(hc i el hi j av hj).2.2⟩) λi el hi j av hj=>ih i el hi j av hj (Ax (JV hp.2 i el hi) j av hj)
  ·cases tok with
   |no=>trivial
   |full=>exact ht
   |own id=>simp at hp
  ·intro id e hid he;cases he
 |agg cells xs hn hc x hx _ ih=>simp only[plain]at hp;exact .agg cells xs hn hc x hx λi av hi=>ih i av hi (Ax hp i av hi)
 |tuple vs xs hn x hx _ ih=>simp only[plain]at hp;exact .tuple vs xs hn x hx λi av hi=>ih i av hi (Ax hp i av hi)
 |iface t av x _ ih=>simp only[plain]at hp;exact .iface t av x (ih hp)
 |clo fn first captured fs cs hn hm x y hx hy _ _ ih1 ih2=>
  simp only[plain,b47]at hp;exact .clo fn first captured fs cs hn hm x y hx hy (λi av hi=>ih1 i av hi (Ax hp.1 i av hi)) λi av hi=>ih2 i av hi (Ax hp.2 i av hi)
theorem Rel.up{σ σ₁:Sg}{av:AV}{x:Value}(hr:Rel σ₁ av x):(∀n,σ₁.blk n=none)->(∀n,σ₁.buf n=none)->σ₁.w=σ.w->(∀b o,σ.open_ b o->σ₁.open_ b o)->Rel σ av x:=by
 intro hb hbuf hw ho
 induction hr with
 |v x hx=>exact .v x hx
 |ptr n off b h=>rw[hb]at h;cases h
 |G6 cells off b o xs hc _ ih=>exact .G6 cells off b o xs (λi av hi=>⟨by rw[<-hw];exact(hc i av hi).1,λh=>(hc i av hi).2.1 (ho _ _ h),(hc i av hi).2.2⟩) ih
 |nil=>exact .nil
 |F5 n=>exact .F5 n
 |mp n b h=>rw[hb]at h;cases h
 |CC u=>exact .CC u
 |Ab id els u a n cap _ hu ih=>exact .Ab id els u a n cap ih (hw▸hu)
 |Em id els u a p n cap _ hu hp ih=>exact .Em id els u a p n cap ih (hw▸hu) hp
 |Fu id n u b cap hn he hu=>obtain⟨e,h,_⟩:=he;rw[hbuf]at h;cases h
 |ps n t b p h hs hp=>rw[hb]at h;cases h
 |row n off size len capm b cap h hc hm hx=>rw[hb]at h;cases h
 |sl0 tok ht=>
  refine .sl0 tok ?_;cases tok with
  |no=>trivial
  |full=>exact ht
  |own id=>obtain⟨e,h,_⟩:=ht;rw[hbuf]at h;cases h
 |L3 tok a cap ht hc=>
  refine .L3 tok a cap ?_ hc;cases tok with
  |no=>trivial
  |full=>exact ht
  |own id=>obtain⟨e,h,_⟩:=ht;rw[hbuf]at h;cases h
 |sl els tok b o cap size xs hs hcap ht hz hc _ ih=>
  refine .sl els tok b o cap size xs hs hcap ?_ ?_ (λi el hi j av hj=>⟨by rw[<-hw];exact(hc i el hi j av hj).1,λh=>(hc i el hi j av hj).2.1 (ho _ _ h),(hc i el hi j av hj).2.2⟩) ih
  ·cases tok with
   |no=>trivial
   |full=>exact ht
   |own id=>obtain⟨e,h,_⟩:=ht;rw[hbuf]at h;cases h
  ·intro id e hid he;subst hid;obtain⟨e',h,_⟩:=ht;rw[hbuf]at h;cases h
 |agg cells xs hn hc x hx _ ih=>exact .agg cells xs hn hc x hx ih
 |tuple vs xs hn x hx _ ih=>exact .tuple vs xs hn x hx ih
 |iface t av x _ ih=>exact .iface t av x ih
 |clo fn first captured fs cs hn hm x y hx hy _ _ ih1 ih2=>exact .clo fn first captured fs cs hn hm x y hx hy ih1 ih2
def N9:Nat->A3->AV->AV
 |0,_,a=>a
 |k+1,h,a=>match a with
  |.row n off size len cap=>match Ia h n off size len with
   |some els=>.sl (els.map λel=>el.map λc=>N9 k h (P6 c)) .no
   |none=>a
  |.sl els tok=>.sl (els.map λel=>el.map λc=>N9 k h (P6 c)) tok
  |.agg cells=>.agg (cells.map λc=>N9 k h (P6 c))
  |.tuple vs=>.tuple (vs.map λc=>N9 k h (Bj c))
  |a=>a
theorem ur:∀(k:Nat) (h:A3) (a:AV),(N9 k h a).isCell=a.isCell
 |0,_,_=>rfl
 |k+1,h,a=>by
  cases a with
  |row n off size len cap=>
   simp only[N9];cases Ia h n off size len<;>rfl
  |_=>rfl
theorem WD{f:AV->AV}{l:b5l AV}(h:C3 (l.map f)){i:Nat}{a:AV}(ha:l[i]? =some a):plain (f a):=Ax h i _ (by rw[b5b,ha];rfl)
theorem Rel.thaw{h:A3}{σ:Sg}(hi:Inv h σ):∀(k:Nat) (av:AV) (x:Value),Rel σ av x->plain (N9 k h av)->Rel (bare σ.w σ.outer) (N9 k h av) x:=by
 have hout:∀b o,σ.outer b o->σ.open_ b o:=λb o ho=>.inl ho
 intro k
 induction k with
 |zero=>intro av x hr hp;exact hr.down hp rfl hout
 |succ k ih=>
  intro av x hr hp;have cell:∀(c:AV) (y:Value),Rel σ c y->plain (N9 k h (Lift.P6 c))->Rel (bare σ.w σ.outer) (N9 k h (Lift.P6 c)) y:=λc y hc hpc=>ih _ _ hc.P6 hpc
  have iscell:∀c,(N9 k h (Lift.P6 c)).isCell=c.isCell:=λc=>by rw[ur,qT]
  cases hr with
  |row n off size len capm b cap hb hc hm hx=>
   simp only[N9]at hp ⊢;cases hra:Ia h n off size len with
   |none=>rw[hra]at hp;simp[plain]at hp
   |some els=>
    rw[hra]at hp;simp only[plain,Bool.true_and]at hp
    by_cases hlen:len=0
    ·subst hlen;simp only[Ia,if_true,b5j]at hra;subst hra;exact .L3 _ _ _ trivial (.inl rfl)
    simp only[Ia,if_neg hlen]at hra;split at hra
    ·rename_i cells hcs;split at hra
     ·rename_i hcond;obtain⟨hno,hle⟩:=hcond;simp only[b5j]at hra;obtain⟨b',hb',hbk⟩:=hi.blk n cells hcs;rw[hb]at hb';cases hb';obtain⟨cs,rest,elem,hheap,hcc⟩:=hbk.plain hno;have hsub:=hcc.sub off (len*size) hle;have hl:((cells.drop off).take (len*size)).length=len*size:=by simp;omega
      obtain⟨c1,c2,c3⟩:=ZD size len _ hl;rw[hra]at c1 c2 c3
      have hown:∀o,¬(bare σ.w σ.outer).open_ b o:=by
       intro o ho;exact(hi.outer b o ((Pp _ _ _ _).1 ho)).2 (.inl ⟨n,hb⟩)
      have key:∀(i:Nat) (el:b5l AV),els[i]? =some el->∀(j:Nat) (av:AV),el[j]? =some av->∃y,σ.w.cell? ⟨b,off+i*size+j,none⟩=some y/\Rel σ av y/\av.isCell=true:=by
       intro i el hiel j av hj;have hel:el.length=size:=c2 el (b5g hiel);have hjl:j<size:=by rw[<-hel];exact(List.getElem?_eq_some_iff.1 hj).1
       have hf:=GM els c2 i j hjl;rw[hiel,Option.bind_some,hj,c1]at hf;obtain⟨hcell,y,hy,hrel⟩:=hsub.2 _ av hf;refine⟨y,?_,hrel,hcell⟩;rw[List.getElem?_take]at hy;split at hy
       ·rw[List.getElem?_drop]at hy;have hlt:=(List.getElem?_eq_some_iff.1 hy).1;rw[BH hheap,<-Array.getElem?_toList,List.toList_toArray,Nat.add_assoc,b49 hlt];exact hy
       ·cases hy
      have:=Rel.sl (σ:=bare σ.w σ.outer) (els.map λel=>el.map λc=>N9 k h (Lift.P6 c)) .no b off cap size (λi j=>(σ.w.cell? ⟨b,off+i*size+j,none⟩).getD undef)
       (λi el hiel=>by
        simp only[b5b,b43]at hiel;obtain⟨el',h1,rfl⟩:=hiel;rw[List.length_map];exact c2 el' (b5g h1))
       (by rw[List.length_map,c3];exact hc) trivial (λid e hid=>by cases hid)
       (λi el hiel j av hj=>by
        simp only[b5b,b43]at hiel;obtain⟨el',h1,rfl⟩:=hiel;simp only[b5b,b43]at hj;obtain⟨av',h2,rfl⟩:=hj;obtain⟨y,k1,k2,k3⟩:=key i el' h1 j av' h2;exact⟨by show σ.w.cell? _=_;rw[k1];rfl,hown _,by rw[iscell];exact k3⟩)
       (λi el hiel j av hj=>by
        simp only[b5b,b43]at hiel;obtain⟨el',h1,rfl⟩:=hiel;simp only[b5b,b43]at hj;obtain⟨av',h2,rfl⟩:=hj;obtain⟨y,k1,k2,k3⟩:=key i el' h1 j av' h2;rw[k1];exact cell av' y k2 (WD (f:=λc=>N9 k h (Lift.P6 c)) (JV hp i _ (by rw[b5b,h1];rfl)) h2))
      rw[List.length_map,c3]at this;exact this
     ·cases hra
    ·cases hra
  |sl0 tok ht=>
   simp only[N9,List.map_nil]at hp ⊢;exact(Rel.sl0 tok ht).down hp rfl hout
  |L3 tok a cap ht hc=>
   simp only[N9,List.map_nil]at hp ⊢;exact(Rel.L3 tok a cap ht hc).down hp rfl hout
  |sl els tok b o cap size xs hs hcap ht hz hc hr=>
   simp only[N9,plain,b47]at hp ⊢
   have:=Rel.sl (σ:=bare σ.w σ.outer) (els.map λel=>el.map λc=>N9 k h (Lift.P6 c)) tok b o cap size xs
    (λi el hiel=>by
     simp only[b5b,b43]at hiel;obtain⟨el',h1,rfl⟩:=hiel;rw[List.length_map];exact hs i el' h1)
    (by rw[List.length_map];exact hcap)
    (by
     rw[List.length_map];cases tok with
     |no=>trivial
     |full=>exact ht
     |own id=>simp at hp)
    (λid e hid he=>by cases he)
    (λi el hiel j av hj=>by
     simp only[b5b,b43]at hiel;obtain⟨el',h1,rfl⟩:=hiel;simp only[b5b,b43]at hj;obtain⟨av',h2,rfl⟩:=hj;obtain⟨k1,k2,k3⟩:=hc i el' h1 j av' h2;exact⟨k1,λh=>k2 (.inl ((Pp _ _ _ _).1 h)),by rw[iscell];exact k3⟩)
    (λi el hiel j av hj=>by
     simp only[b5b,b43]at hiel;obtain⟨el',h1,rfl⟩:=hiel;simp only[b5b,b43]at hj;obtain⟨av',h2,rfl⟩:=hj;exact cell av' _ (hr i el' h1 j av' h2) (WD (f:=λc=>N9 k h (Lift.P6 c)) (JV hp.2 i _ (by rw[b5b,h1];rfl)) h2))
   rw[List.length_map]at this;exact this
  |agg cells xs hn hc x hx hr=>
   simp only[N9,plain]at hp ⊢;refine .agg _ xs (by rw[List.length_map];exact hn) (λi av hiv=>?_) x (λi av hiv=>?_) (λi av hiv=>?_)
   all_goals
    simp only[b5b,b43]at hiv;obtain⟨av',h2,rfl⟩:=hiv
   ·rw[iscell];exact hc i av' h2
   ·exact hx i av' h2
   ·exact cell av' _ (hr i av' h2) (WD hp h2)
  |tuple vs xs hn x hx hr=>
   simp only[N9,plain]at hp ⊢;refine .tuple _ xs (by rw[List.length_map];exact hn) x (λi av hiv=>?_) (λi av hiv=>?_)
   all_goals
    simp only[b5b,b43]at hiv;obtain⟨av',h2,rfl⟩:=hiv
   ·exact hx i av' h2
   ·exact ih _ _ (hr i av' h2).Bj (WD hp h2)
  |v x hx=>exact .v x hx
  |ptr n off b hb=>simp[N9,plain]at hp
  |mp n b hb=>simp[N9,plain]at hp
  |CC _=>simp[N9,plain]at hp
  |Ab _ _ _ _ _ _ _ _=>simp[N9,plain]at hp
  |Em _ _ _ _ _ _ _ _ _=>simp[N9,plain]at hp
  |Fu _ _ _ _ _ _ _ _=>simp[N9,plain]at hp
  |ps _ _ _ _ _ _ _=>simp[N9,plain]at hp
  |G6 cells off b o xs hc hr=>exact(Rel.G6 cells off b o xs hc hr).down hp rfl hout
  |nil=>exact .nil
  |F5 n=>exact .F5 n
  |iface t av x hr=>exact(Rel.iface t av x hr).down hp rfl hout
  |clo fn first captured fs cs hn hm x y hx hy h1 h2=>exact(Rel.clo fn first captured fs cs hn hm x y hx hy h1 h2).down hp rfl hout
def XE:AV->b5n
 |.v _=>true
 |.agg cells=>cells.all λ|.v _=>true|_=>false
 |_=>false
def Vr:AV->b5n
 |.tuple vs=>vs.all XE
 |a=>XE a
theorem kU{σ σ':Sg}{av:AV}{x:Value}(hv:XE av)(hr:Rel σ av x):Rel σ' av x:=by
 cases hr<;>simp only[XE]at hv<;>(try (cases hv;done))
 case v hx=>exact .v _ hx
 case agg cells xs hn hc x hx hr=>
  refine .agg cells xs hn hc x hx λi av hiv=>?_
  have:=List.all_eq_true.1 hv av (b5g hiv);have h1:=hr i av hiv;cases av<;>simp at this
  cases h1 with
  |v _ h=>exact .v _ h
theorem zc{σ σ':Sg}{av:AV}{x:Value}(hv:Vr av)(hr:Rel σ av x):Rel σ' av x:=by
 by_cases ht:∃vs,av=.tuple vs
 ·obtain⟨vs,rfl⟩:=ht;cases hr with
  |tuple vs xs hn x hx hr=>
   simp only[Vr]at hv;exact .tuple vs xs hn x hx λi av hiv=>kU (List.all_eq_true.1 hv av (b5g hiv)) (hr i av hiv)
 ·refine kU ?_ hr;cases av with
  |tuple vs=>exact absurd ⟨vs,rfl⟩ ht
  |_=>exact hv
def Ce(P:Program)(gl:b5l (Nat × b5l AV))(f:FuncId)(args:b5l AV)(R:AV->Prop):Prop:=
 Yy P f/\∀(w:World) (outer:Nat->Nat->Prop) (cargs:Array Value),(∀b o,outer b o->b<w.heap.size)->JT w outer gl->U3 (bare w outer) args cargs.toList->
  Calls P f cargs w λe w'=>∃av x,e=.returned x/\K9 w w'/\Rel (bare w' outer) av x/\R av
def M6(gl:b5l (Nat × b5l AV)):b5n:=gl.all λp=>C3 p.2
theorem Td{P:Program}{f:FuncId}{args args':b5l AV}{R:AV->Prop}{h:A3}{K:AV->A3->Prop}(hf:Ce P h.B0 f args R)(hgl:M6 h.B0)(ha:args'.map wk=args)(hp:C3 args)(hk:∀av,R av->K av h):AF P f args' h K:=by
 refine⟨hf.1,λσ cargs hi hr=>?_⟩
 have hopen:∀b o,σ.open_ b o->b<σ.w.heap.size:=by
  rintro b o (ho|⟨n,hn⟩|⟨id,e,he,hs⟩)
  ·exact(hi.outer b o ho).1
  ·exact hi.lt hn
  ·exact hi.H4 id e b o he hs
 have hrels:U3 (bare σ.w σ.open_) args cargs.toList:=by
  refine⟨by rw[hr.1,<-ha];simp,λi av hav=>?_⟩;have hav':=hav;rw[<-ha]at hav;simp only[b5b,b43]at hav;obtain⟨b,hb,rfl⟩:=hav;obtain⟨x,h1,h2⟩:=hr.2 i b hb;exact⟨x,h1,h2.wk.down (Ax hp i _ hav') rfl λ_ _ h=>h⟩
 have hglobs:JT σ.w σ.open_ h.B0:=λg cells hg=>(hi.F5 g cells hg).down (by simp only[plain];exact List.all_eq_true.1 hgl _ hg) rfl λ_ _ h=>h
 refine(hf.2 σ.w σ.open_ cargs hopen hglobs hrels).mono λe w' hq=>?_
 obtain⟨av,x,rfl,hpast,hrel,hR⟩:=hq;exact⟨{σ with w:=w'},h,av,x,rfl,rfl,Le.world hpast,hi.world hpast,hrel.up (λ_=>rfl) (λ_=>rfl) rfl (λb o ho=>.inl ho),hk av hR⟩
theorem a2o{P:Program}{f:FuncId}{args args':b5l AV}{R:AV->Prop}{h:A3}{K:AV->A3->Prop}(k:Nat)(hf:Ce P h.B0 f args R)(hgl:M6 h.B0)(ha:args'.map (λa=>N9 k h (wk a))=args)(hp:C3 args)(hv:∀av,R av->Vr av)(hk:∀av,R av->K av h):AF P f args' h K:=by
 refine⟨hf.1,λσ cargs hi hr=>?_⟩
 have hrels:U3 (bare σ.w σ.outer) args cargs.toList:=by
  refine⟨by rw[hr.1,<-ha];simp,λi av hav=>?_⟩;have hav':=hav;rw[<-ha]at hav;simp only[b5b,b43]at hav;obtain⟨b,hb,rfl⟩:=hav;obtain⟨x,h1,h2⟩:=hr.2 i b hb;exact⟨x,h1,Rel.thaw hi k _ _ h2.wk (Ax hp i _ hav')⟩
 have hglobs:JT σ.w σ.outer h.B0:=λg cells hg=>(hi.F5 g cells hg).down (by simp only[plain];exact List.all_eq_true.1 hgl _ hg) rfl λ_ _ h=>.inl h
 refine(hf.2 σ.w σ.outer cargs (λb o ho=>(hi.outer b o ho).1) hglobs hrels).mono λe w' hq=>?_
 obtain⟨av,x,rfl,hpast,hrel,hR⟩:=hq;exact⟨{σ with w:=w'},h,av,x,rfl,rfl,Le.world hpast,hi.world hpast,zc (hv av hR) hrel,hk av hR⟩
inductive M5 where
 |tmp (t:Nat)
 |cell (t:Nat) (n:Option Nat)
def Gv(P:Program):b5l ResultVar->b5m (b5l M5)
 |[]=>some []
 |.tmp t::r=>(Gv P r).map λl=>.tmp t::l
 |.cell a t::r=>(CU P t).bind λn=>(Gv P r).map λl=>.cell a n::l
def Z2(env:Env)(h:A3):b5l M5->(b5l AV->Prop)->Prop
 |[],K=>K []
 |.tmp t::r,K=>wv (get env t) λav=>Z2 env h r λl=>K (av::l)
 |.cell t n::r,K=>wv (get env t) λp=>Cy h n p λav=>Z2 env h r λl=>K (av::l)
def S7:b5l AV->AV
 |[a]=>a
 |l=>.tuple l
def P0(P:Program)(f:FuncId):b5m (Nat × F7 × b5l M5):=
 (P.funcs[f]?).bind λfn=>fn.body.bind λc=>(G0 P fn.ntmps c).bind λac=>(Gv P fn.results.toList).bind λrs=>if fn.name== "runtime.NumGoroutine" then none else some (fn.ntmps,ac,rs)
theorem ld{P:Program}{f:FuncId}{N:Nat}{ac:F7}{rs:b5l M5}(h:P0 P f=some (N,ac,rs)):
  ∃fn c,P.funcs[f]? =some fn/\fn.body=some c/\fn.ntmps=N/\G0 P N c=some ac/\Gv P fn.results.toList=some rs/\(fn.name== "runtime.NumGoroutine")=false:=by
 simp only[P0,b44]at h;obtain⟨fn,h1,c,h2,ac',h3,rs',h4,h5⟩:=h;split at h5
 ·cases h5
 ·rename_i hn;cases h5;exact⟨fn,c,h1,h2,rfl,h3,h4,by simpa using hn⟩
def AG:Nat->b5l AV->Env
 |_,[]=>[]
 |k,a::r=>(k,a)::AG (k+1) r
theorem pK:∀(l:b5l AV) (k t:Nat) (av:AV),get (AG k l) t=some av->k<=t/\l[t - k]? =some av
 |[],k,t,av,h=>by simp[AG,get]at h
 |a::r,k,t,av,h=>by
  simp only[AG,get]at h;split at h
  ·rename_i hk;subst hk;cases h;simp
  ·rename_i hk;obtain⟨h1,h2⟩:=pK r (k+1) t av h;refine⟨by omega,?_⟩;rw[show t - k=(t - (k+1))+1 by omega];simpa using h2
def Gh(rs:b5l M5)(K:AV->A3->Prop)(e:Exit)(env:Env)(h:A3):Prop:=
 match e with
 |.normal|.ret=>Z2 env h rs λl=>K (S7 l) h
 |_=>False
section
variable {P:Program}{σ:Sg}{h:A3}{env:Env}{N:Nat}{a:Act}
theorem dR(hi:Inv h σ){tmps:Array Value}(he:P7 σ env tmps):∀{rl:b5l ResultVar}{rs:b5l M5},Gv P rl=some rs->∀{K:b5l AV->Prop},Z2 env h rs K->
  ∃l xs,K l/\xs.length=l.length/\(∀(i:Nat) (av:AV),l[i]? =some av->∃x,xs[i]? =some x/\Rel σ av x)/\
   (rl.mapM λ(r:ResultVar)=>(match r with|.tmp t=>pure (tmps.getD t undef)|.cell a t=>do loadVar t (<-asAddr (tmps.getD a undef)):Sem Value)).run P σ.w=.ok xs σ.w
 |[],rs,hc,K,hk=>by simp[Gv]at hc;subst hc;exact⟨[],[],hk,rfl,λi av h=>by simp at h,rfl⟩
 |.tmp t::r,rs,hc,K,hk=>by
  simp only[Gv,b43]at hc;obtain⟨rs',hr,rfl⟩:=hc;obtain⟨av,hg,hk⟩:=Fe hk;obtain⟨x,h1,h2⟩:=he t av hg;obtain⟨l,xs,q1,q2,q3,q4⟩:=dR hi he hr hk;refine⟨av::l,x::xs,q1,by simp[q2],λi b hb=>?_,?_⟩
  ·cases i with
   |zero=>simp at hb;subst hb;exact⟨x,rfl,h2⟩
   |succ i=>exact q3 i b (by simpa using hb)
  ·have:tmps.getD t undef=x:=by simp[h1]
   simp only[List.mapM_cons,Sem.run_bind,Sem.run_pure,Result.andThen_ok,this];rw[q4];rfl
 |.cell a t::r,rs,hc,K,hk=>by
  simp only[Gv,b44,b43]at hc;obtain⟨n,hn,rs',hr,rfl⟩:=hc;obtain⟨p,hg,hk⟩:=Fe hk;obtain⟨px,h1,h2⟩:=he a p hg;obtain⟨av,y,hk,hrel,hload⟩:=od (P:=P) hi hn h2 hk;obtain⟨l,xs,q1,q2,q3,q4⟩:=dR hi he hr hk;refine⟨av::l,y::xs,q1,by simp[q2],λi b hb=>?_,?_⟩
  ·cases i with
   |zero=>simp at hb;subst hb;exact⟨y,rfl,hrel⟩
   |succ i=>exact q3 i b (by simpa using hb)
  ·have hpx:tmps.getD a undef=px:=by simp[h1]
   have hp:∃ad,px=.pointer (some ad):=by
    cases h2<;>first|exact⟨_,rfl⟩|(simp[Cy,S4]at hk)|skip
    all_goals (rename_i hk0;simp[Cy,S4]at hk0)
   obtain⟨ad,rfl⟩:=hp;have hl2:(loadVar t ad).run P σ.w=.ok y σ.w:=by simpa[Instr.loadAt,Instr.sureAddr]using hload
   have ha2:(asAddr (.pointer (some ad))).run P σ.w=.ok ad σ.w:=rfl;simp only[List.mapM_cons,Sem.run_bind,hpx,ha2,Sem.run_pure,Result.andThen_ok,hl2];rw[q4];rfl
theorem Nl{f:FuncId}{ac:F7}{rs:b5l M5}(hf:P0 P f=some (N,ac,rs)){args:b5l AV}{K:AV->A3->Prop}(hn:args.length<=N)(hbody:L4 P N ac (Gh rs K) (AG 0 args) h):∀(σ:Sg) (cargs:Array Value),Inv h σ->U3 σ args cargs.toList->
  Calls P f cargs σ.w λe w'=>∃σ' h' av x,e=.returned x/\σ'.w=w'/\Le σ σ'/\Inv h' σ'/\Rel σ' av x/\K av h':=by
 intro σ cargs hi hr;obtain⟨fn,c,h1,h2,h3,h4,h5,h6⟩:=ld hf;have hsz:cargs.size=args.length:=by simpa using hr.1
 have hst:St σ h (AG 0 args) N {tmps:=cargs++Array.replicate (fn.ntmps - cargs.size) undef,defers:=[]}:=by
  refine⟨hi,λt av hg=>?_,by simp;omega,rfl⟩;obtain⟨_,g2⟩:=pK args 0 t av hg;obtain⟨x,q1,q2⟩:=hr.2 _ av g2;refine⟨x,?_,q2⟩;simp only[Nat.sub_zero]at q1
  have hlt:t<cargs.size:=by
   have:=(List.getElem?_eq_some_iff.1 q1).1;simpa using this
  simp only[Array.getElem?_toList]at q1;simp[Array.getElem?_append_left hlt,q1]
 refine calls_of_wp h1 h2 (wp_mono (hbody c h4 σ _ hst) ?_);intro e a' w' hh;obtain⟨g1,σ2,h2',env2,rfl,q2,q3,q4⟩:=hh
 have fin:(Z2 env2 h2' rs λl=>K (S7 l) h2')->a'.defers=[]/\∃v,(results fn a'.tmps).run P σ2.w=.ok v σ2.w/\∃σ' h' av x,Ending.returned v=.returned x/\σ'.w=σ2.w/\Le σ σ'/\Inv h' σ'/\Rel σ' av x/\K av h':=by
  intro ho;obtain⟨l,xs,k1,k2,k3,k4⟩:=dR (P:=P) q3.inv q3.env h5 ho
  have hrun:(fn.results.mapM λ(r:ResultVar)=>(match r with|.tmp t=>pure (a'.tmps.getD t undef)|.cell a t=>do loadVar t (<-asAddr (a'.tmps.getD a undef)):Sem Value)).run P σ2.w=.ok xs.toArray σ2.w:=by
   rw[Array.mapM_eq_mapM_toList];simp only[Sem.run_map,k4,Result.andThen_ok]
  have hres:(results fn a'.tmps).run P σ2.w=.ok (if hx:xs.toArray.size=1 then xs.toArray[0] else .tuple xs.toArray) σ2.w:=by
   unfold results;rw[Sem.run_bind];have:=hrun;refine Eq.trans (congrArg (λr=>Result.andThen r _) this) ?_;simp only[Result.andThen_ok,Sem.run_pure]
  refine⟨q3.defers,_,hres,σ2,h2',S7 l,_,rfl,rfl,q2,q3.inv,?_,k1⟩
  match l,xs,k2,k3 with
  |[b],[y],_,k3=>
   obtain⟨x,e1,e2⟩:=k3 0 b rfl;simp at e1;subst e1;simpa[S7]using e2
  |[],[],_,_=>exact Rel.tuple_mk rfl λi av hi=>by simp at hi
  |b1::b2::l,y1::y2::xs,k2,k3=>
   rw[dif_neg (by simp)]
   exact Rel.tuple_mk (by simpa using k2) λi av hi=>by
    obtain⟨x,e1,e2⟩:=k3 i av hi;exact⟨x,by simpa using e1,e2⟩
 cases e with
 |normal=>exact fin q4
 |ret=>exact fin q4
 |panic _=>exact g1.elim
 |outgrown=>exact g1.elim
 |exit _=>exact q4.elim
 |goto _=>exact q4.elim
theorem OX{f:FuncId}{ac:F7}{rs:b5l M5}(hf:P0 P f=some (N,ac,rs)):Yy P f:=by
 obtain⟨fn,c,h1,h2,_,_,_,h6⟩:=ld hf;exact⟨fn,h1,by rw[h2];rfl,h6⟩
theorem Zp{f:FuncId}{ac:F7}{rs:b5l M5}(hf:P0 P f=some (N,ac,rs)){args:b5l AV}{K:AV->A3->Prop}(hn:args.length<=N)(hbody:L4 P N ac (Gh rs K) (AG 0 args) h):AF P f args h K:=⟨OX hf,Nl hf hn hbody⟩
theorem kq{gl:b5l (Nat × b5l AV)}{f:FuncId}{ac:F7}{rs:b5l M5}(hf:P0 P f=some (N,ac,rs)){args:b5l AV}{R:AV->Prop}(hn:args.length<=N)(hbody:L4 P N ac (Gh rs λav _=>plain (wk av)/\R (wk av)) (AG 0 args) ⟨[],[],gl⟩):Ce P gl f args R:=by
 refine⟨OX hf,λw outer cargs ho hg hr=>?_⟩;refine(Nl hf hn hbody (bare w outer) cargs (Ug ho hg) hr).mono λe w' hq=>?_
 obtain⟨σ',h',av,x,rfl,rfl,g2,g3,g4,g5,g6⟩:=hq;refine⟨wk av,x,rfl,⟨g2.size,λb hb=>g2.whole b hb (λo=>Gu w outer b o),g2.os,g2.tape,g2.output⟩,?_,g6⟩;refine g4.wk.down g5 rfl λb o hbo=>.inl ?_
 rw[g2.outer];exact hbo
theorem uv{gl:b5l (Nat × b5l AV)}{f:FuncId}{ac:F7}{rs:b5l M5}(k:Nat)(hf:P0 P f=some (N,ac,rs)){args:b5l AV}{R:AV->Prop}(hn:args.length<=N)(hbody:L4 P N ac (Gh rs λav h=>plain (N9 k h (wk av))/\R (N9 k h (wk av))) (AG 0 args) ⟨[],[],gl⟩):Ce P gl f args R:=by
 refine⟨OX hf,λw outer cargs ho hg hr=>?_⟩;refine(Nl hf hn hbody (bare w outer) cargs (Ug ho hg) hr).mono λe w' hq=>?_
 obtain⟨σ',h',av,x,rfl,rfl,g2,g3,g4,g5,g6⟩:=hq;refine⟨_,x,rfl,⟨g2.size,λb hb=>g2.whole b hb (λo=>Gu w outer b o),g2.os,g2.tape,g2.output⟩,?_,g6⟩;have:=Rel.thaw g3 k _ _ g4.wk g5;rw[g2.outer]at this;exact this
theorem mP{c:B9}{x y:F7}{Q:Exit->Env->A3->Prop}{b:b5n}(hc:c.ev env=some (.v (.bool b)))(h1:b=true->L4 P N x Q env h)(h2:b=false->L4 P N y Q env h):L4 P N (.cond c x y) Q env h:=by
 refine b27 ?_;rw[hc];exact⟨h1,h2⟩
end
structure A(P:Program)(o:I7)(env:Env)(h:A3)(K:AV->A3->Prop):Prop where
 out:E9 P o env h K
structure V(P:Program)(l:List C2)(env:Env)(h:A3)(K:Env->A3->Prop):Prop where
 out:AT P l env h K
structure C(P:Program)(N:Nat)(ac:F7)(Q:Exit->Env->A3->Prop)(env:Env)(h:A3):Prop where
 out:L4 P N ac Q env h
section
variable {P:Program}{h:A3}{env:Env}{N:Nat}{K:AV->A3->Prop}{x y z:B9}{a b c:AV}
theorem Or{g:FuncId}{f:B9}{args:b5l B9}{l:b5l AV}(hf:f.ev env=some (.clo (.func g) [] []))(ha:evs env args=some l)(hk:AF P g l h K):A P (.call f args) env h K:=⟨by
 simp only[E9,hf,ha,wv,EC,List.nil_append,List.append_nil];exact hk⟩
theorem wd{g:FuncId}{f:B9}{args:b5l B9}{l r s:b5l AV}(hf:f.ev env=some (.clo (.func g) r s))(ha:evs env args=some l)(hk:AF P g (r++l++s) h K):A P (.call f args) env h K:=⟨by
 simp only[E9,hf,ha,wv,EC];exact hk⟩
theorem Sb{mx:b5n}{args:b5l B9}{l:b5l AV}{v:Value}(ha:evs env args=some l)(hv:CA mx l=some v)(hk:K (.v v) h):A P (.AN mx args) env h K:=⟨by simp only[E9,ha,hv,Pm];exact hk⟩
end
section
variable {P:Program}{h:A3}{env:Env}{N:Nat}
variable {Q:Exit->Env->A3->Prop}
theorem sT{ops:b5l C2}(hv:V P ops env h λenv' h'=>Q .normal env' h'):C P N (.region ops) Q env h:=⟨jb hv.out⟩
theorem rZ(hq:Q .normal env h):C P N .skip Q env h:=⟨kL hq⟩
theorem a6m{id:Nat}(hv:Q (.exit id) env h):C P N (.exit id) Q env h:=⟨pF hv⟩
theorem u5(hv:Q .ret env h):C P N .ret Q env h:=⟨nJ hv⟩
theorem re{l:Nat}(hq:Q .normal env h):C P N (.label l) Q env h:=⟨gb hq⟩
theorem yP{l:Nat}(hq:Q (.goto l) env h):C P N (.goto l) Q env h:=⟨lc hq⟩
end
end Go.Proofs.YtlcmiciojnnlnaaGreatDoor.Lift
