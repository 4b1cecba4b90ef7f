/- Part 8 of the texts that prove GatewayChecksEnd. -/
import Derived.Test.YtkhgohfaecbgkaaGreatDoorGatewayChecksEndP6
import Derived.Laws.AppendOwn
import Derived.Lib.DecodeN
import Derived.Lib.SplitLaws
import Derived.Test.YtkhgohfaecbgkaaGreatDoorRows
import Derived.WalkKit
import Derived.JoinedCond
import Derived.SevenTiedAt
namespace Go.Proofs.YtkhgohfaecbgkaaGreatDoor.Lift
open Go.RowKit
set_option linter.unusedVariables false
set_option linter.unusedSimpArgs false
set_option linter.unnecessarySimpa false
set_option linter.unusedSectionVars false
set_option maxRecDepth 100000
section
open Go.RowKit Lift
def a95:List UInt8->List (List UInt8)
 |[]=>[[]]
 |c::r=>if c=47 then []::a95 r else match a95 r with
  |[]=>[[c]]
  |h::t=>(c::h)::t
theorem c75:∀l,a95 l≠[]
 |[]=>by simp[a95]
 |c::r=>by
  unfold a95;split
  ·simp
  ·split<;>simp
def b5v(x:List UInt8):List (List UInt8)->List (List UInt8)
 |[]=>[x]
 |h::t=>(x++h)::t
theorem c1k(x r:List UInt8):b5v x (a95 (47::r))=x::b5v [] (a95 r):=by
 have h:a95 (47::r)=[]::a95 r:=by rw[a95,if_pos rfl]
 rw[h,b5v,List.append_nil];cases hs:a95 r with
 |nil=>exact absurd hs (c75 r)
 |cons a b=>rw[b5v,List.nil_append]
theorem c5w(x:List UInt8)(c:UInt8)(r:List UInt8)(hc:c≠47):b5v x (a95 (c::r))=b5v (x++[c]) (a95 r):=by
 rw[a95,if_neg hc];cases hs:a95 r with
 |nil=>exact absurd hs (c75 r)
 |cons a b=>simp[b5v]
theorem c8m(x:List UInt8):b5v x (a95 [])=[x]:=by simp[a95,b5v]
theorem c9k(r:List UInt8):b5v [] (a95 r)=a95 r:=by
 cases hs:a95 r with
 |nil=>exact absurd hs (c75 r)
 |cons a b=>rw[b5v,List.nil_append]
def d0w(l:List UInt8):Value:=.string (D2 l)
def c6b(B:Nat)(v:Value)(n:Nat)(l:List (List UInt8))(w:World):Prop:=∃g cap cur,v=.slice (some ⟨g,0,none⟩) n cap/\B<=g/\w.heap[g]? =some (.cells cur 9 (0,0))/\n<=cap/\cap<=maxLen/\cur.size=cap*1/\cur.toList.take (n*1)=l.map d0w/\l.length=n
theorem c6b.row{B:Nat}{v:Value}{n:Nat}{l:List (List UInt8)}{w:World}(h:c6b B v n l w):w.ownsRow B 9 1 v n (l.map d0w):=by
 obtain⟨g,cap,cur,h1,h2,h3,h4,h5,h6,h7,h8⟩:=h;exact⟨by simp[h8],.inr ⟨g,cap,cur,h1,h2,h3,h4,h5,h6,h7⟩⟩
theorem c6b.of{B:Nat}{v:Value}{n:Nat}{l:List (List UInt8)}{w:World}(h:w.ownsRow B 9 1 v n (l.map d0w))(hn:1<=n):c6b B v n l w:=by
 obtain⟨h0,h⟩:=h;rcases h with⟨_,h⟩|⟨g,cap,cur,h1,h2,h3,h4,h5,h6,h7⟩
 ·omega
 ·exact⟨g,cap,cur,h1,h2,h3,h4,h5,h6,h7,by simpa using h0⟩
theorem c6b.lit(B:Nat)(w:World)(hB:B<=w.heap.size):c6b B (.slice (some ⟨w.heap.size,0,none⟩) 1 1) 1 [[]] (w.alloc (.cells #[.string ⟨#[]⟩] 9)):=
 ⟨w.heap.size,1,_,rfl,hB,heap_alloc_new w _,Nat.le_refl _,by decide,rfl,rfl,rfl⟩
theorem c6b.put{B ga cap:Nat}{cur:Array Value}{l:List (List UInt8)}{x y:List UInt8}{w:World}(g2:B<=ga)(g3:w.heap[ga]? =some (.cells cur 9 (0,0)))(g4:l.length+1<=cap)(g5:cap<=maxLen)(g6:cur.size=cap*1)(g7:cur.toList.take ((l.length+1)*1)=(l++[x]).map d0w)(g8:(l++[x]).length=l.length+1):
  c6b B (.slice (some ⟨ga,0,none⟩) (l.length+1) cap) (l.length+1) (l++[y]) (w.setCell ⟨ga,l.length,none⟩ (.string (D2 y))).drew:=by
 refine⟨ga,cap,cur.setIfInBounds l.length (.string (D2 y)),rfl,g2,?_,g4,g5,by simpa using g6,?_,by simp⟩
 ·show(w.setCell ⟨ga,l.length,none⟩ (.string (D2 y))).heap[ga]? =_;simp[World.setCell,Array.getElem?_modify,g3]
 ·apply List.ext_getElem?;intro i;have h:=congrArg (·[i]?) g7;simp only[List.getElem?_take,List.getElem?_map,Nat.mul_one]at h ⊢;rw[Array.toList_setIfInBounds,List.getElem?_set]
  by_cases hi:i<l.length+1
  ·rw[if_pos hi]at h ⊢
   by_cases hil:l.length=i
   ·subst hil;rw[if_pos rfl];have:l.length<cur.toList.length:=by simp;omega
    simp[d0w];omega
   ·rw[if_neg hil,h,List.getElem?_append_left (by omega),List.getElem?_append_left (by omega)]
  ·rw[if_neg hi,List.getElem?_eq_none (by simp;omega)];rfl
set_option maxHeartbeats 4000000 in
set_option maxRecDepth 100000 in
theorem l6g(s:ByteArray)(hs:s.size<=1048576)(h1:1<=s.size)(h0:s[0]=47)(w:World):
  Calls Tryz.prog 68 #[.string s] w fun e w'=>(∃v,e=.returned (.tuple #[v,.bool true])/\c6b w.heap.size v (a95 (s.data.toList.drop 1)).length (a95 (s.data.toList.drop 1)) w')/\Below w.heap.size w w':=by
 obtain⟨R,HR⟩:∃R,Hid (R=a95 (s.data.toList.drop 1)):=⟨_,d2x rfl⟩
 rw[<-HR.out];obtain⟨i0,hi,hz0,hz1,hz2⟩:=info_parts (show((Tryz.prog).info? 9).map (fun i=>(i.zero,i.size,i.bytes))=some (some (.string ⟨#[]⟩),1,16) by kernel_rfl)
 have hie:s.toList.isEmpty=false:=by
  rw[Lib.toList_data,List.isEmpty_eq_false_iff];intro h;have:=congrArg List.length h;simp at this;have e:s.data.size=s.size:=rfl;rw[this]at h1;simp at h1
 have hb0:((s[0].toNat:Int) !=47)=false:=by rw[h0];rfl
 have i1:(0:Int)<(s.size:Int):=by omega
 go_enter Tryz.func68,Tryz.ntmps68
 go_wp2_with fail
 clear hie hb0 h0 i1
 go_loopg [4,5] (s.size - 1) (fun g s4 s5 wx=>∃(p:Nat) (l:List (List UInt8)) (x:List UInt8),s5=.int .i64 p/\1<=p/\p+g=s.size/\Hid (c6b w.heap.size s4 (l++[x]).length (l++[x]) wx)/\Hid (Below w.heap.size w wx)/\Hid (R=l++b5v x (a95 (s.data.toList.drop p)))/\(l++[x]).length<=p/\x.length<=p)
 case atStart=>exact⟨1,[],[],rfl,Nat.le_refl _,by omega,d2x (c6b.lit _ _ (Nat.le_refl _)),d2x ((Below.refl w.heap.size w).alloc (Nat.le_refl _) _),d2x (by rw[List.nil_append,c9k];exact HR.out),by simp,by simp⟩
 case round=>
  obtain⟨p,l,x,rfl,hp1,hpg,HO,HW,HR2,hlen,hxl⟩:=hrel;have hBw:w.heap.size<=wr.heap.size:=HW.out.size;have i0':(0:Int)<=(p:Int):=by omega
  cases gk with
  |zero=>
   have hlt:¬(p:Int)<(s.size:Int):=by omega
   have HA:Hid (R=l++[x]):=d2x (by rw[HR2.out,List.drop_eq_nil_of_le (by simp;show s.size<=p;omega),c8m])
   go_wp2_with fail
   go_ret2
   exact⟨⟨_,rfl,by rw[HA.out];exact HO.out⟩,HW.out⟩
  |succ g=>
   have hlt:(p:Int)<(s.size:Int):=by omega
   have hp:p<s.size:=by omega
   by_cases hb:s[p]=47
   ·have hbq:((s[p].toNat:Int)==47)=true:=by rw[hb];rfl
    have HN:Hid (R=(l++[x])++b5v [] (a95 (s.data.toList.drop (p+1)))):=d2x (by rw[HR2.out,T1 s p hp,hb,c1k];simp);clear hb
    go_wp2_with (at_builtin;refine wpList_append_own _ rfl _ _ 79 rfl w.heap.size 9 i0 (.string ⟨#[]⟩) 1 16 Tryz.underlying79 hi hz0 hz1 hz2 rfl (by decide) _ _ _ rfl (HO.out.row.alloc _) ⟨wr.heap.size,0,none⟩ 1 1 [.string ⟨#[]⟩] rfl rfl ?c1 ?c2 ?c3 ?c4 ?c5 ?_)
    case c1=>
     intro j u hj
     match j,hj with
     |0,hj=>simp at hj;subst hj;simp[Addr.add]
    case c2=>intro u hu;simp at hu;subst hu;rfl
    case c3=>unfold maxLen;omega
    case c4=>omega
    case c5=>simp;omega
    intro v' w2 hown' hgrow _
    have HO2:Hid (c6b w.heap.size v' ((l++[x])++[[]]).length ((l++[x])++[[]]) w2):=d2x (by
     have e:((l++[x])++[[]]).map d0w=l.map d0w++[d0w x,.string ⟨#[]⟩]:=by simp[d0w,D2]
     have e2:((l++[x])++[([]:List UInt8)]).length=(l++[x]).length+1:=by simp
     rw[e2];exact c6b.of (by rw[e];simpa using hown') (by omega))
    have HW2:=d2x ((HW.out.alloc (by omega) _).grown hgrow (by simp;omega) (fun k hk=>(HO.out.row.lt k hk).1));clear hown' hgrow
    go_wp2_with fail
    go_roundg g
    case measure=>omega
    case rel=>exact⟨p+1,l++[x],[],by go_num,by omega,by omega,HO2,HW2,HN,by simp at hlen ⊢;omega,by simp⟩
   ·have hbn:¬(s[p].toNat:Int)=47:=fun h=>hb (UInt8.toNat_inj.1 (by have:((47:UInt8).toNat)=47:=rfl;omega))
    have hbq:((s[p].toNat:Int)==47)=false:=by rw[beq_eq_false_iff_ne];exact hbn
    have HN:Hid (R=l++b5v (x++[s[p]]) (a95 (s.data.toList.drop (p+1)))):=d2x (by rw[HR2.out,T1 s p hp,c5w _ _ _ hb]);clear hb hbn;obtain⟨ga,cap,cur,rfl,g2,g3,g4,g5,g6,g7,g8⟩:=HO.out;have hm:(l++[x]).length=l.length+1:=by simp
    rw[hm]at g4 g7 g8 hlen HO
    have hcell:wr.drew.cell? ⟨ga,l.length,none⟩=some (.string (D2 x)):=by
     have h3:wr.drew.heap[ga]? =some (.cells cur 9 (0,0)):=g3;rw[Lib.cell_of_heap h3,<-Array.getElem?_toList];have h4:(cur.toList.take ((l.length+1)*1))[l.length]? =some (d0w x):=by rw[g7];simp
     rw[List.getElem?_take,if_pos (by omega)]at h4;exact h4
    have hfz:wr.drew.frozen? ⟨ga,l.length,none⟩=false:=Lib.frozen_of_heap (show wr.drew.heap[ga]? =some (.cells cur 9 (0,0)) from g3) _;have v1:IntKind.i64.wrap ((p:Int)+1)=(p:Int)+1:=c04 (by omega);have v2:IntKind.i64.wrap (((l.length+1:Nat):Int) - 1)=(l.length:Int):=by rw[c04 (by omega)];omega
    have v3:IntKind.i64.wrap ((l.length:Int)+1 - 1)=(l.length:Int):=by rw[c04 (by omega)];omega
    have v4:IntKind.i64.wrap (l.length:Int)=(l.length:Int):=c04 (by omega);have b1:(0:Int)<=(l.length:Int):=by omega
    have hbd:¬9223372036854775807<(D2 x).size+(min (p+1) s.size - p):=by rw[I1];omega
    have d1:(p:Int)<=(p:Int)+1:=by omega
    have d2:(p:Int)+1<=(s.size:Int):=by omega
    have b2:(l.length:Int)<(l.length:Int)+1:=by omega
    go_wp2_with fail
    go_region_with (fail)
    all_goals (
     have hcat:D2 x++s.extract p (p+1)=D2 (x++[s[p]]):=by rw[d27 s p hp,c1o]
     rw[hcat]
     have HO2:Hid (c6b w.heap.size (.slice (some ⟨ga,0,none⟩) (l.length+1) cap) (l++[x++[s[p]]]).length (l++[x++[s[p]]]) (wr.setCell ⟨ga,l.length,none⟩ (.string (D2 (x++[s[p]])))).drew):=d2x (by
      have e2:(l++[x++[s[p]]]).length=l.length+1:=by simp
      rw[e2];exact c6b.put g2 g3 g4 g5 g6 g7 hm)
     have HW2:=d2x (HW.out.setCell (p:=⟨ga,l.length,none⟩) g2 (.string (D2 (x++[s[p]])))).drew
     go_wp2_with fail
     go_roundg g
     case measure=>omega
     case rel=>exact⟨p+1,l,x++[s[p]],by go_num,by omega,by omega,HO2,HW2,HN,by simp;omega,by simp;omega⟩)
end
section
open Go.RowKit Lift
set_option maxHeartbeats 4000000 in
set_option maxRecDepth 100000 in
theorem d58(w:World):
  Calls Tryz.prog 68 #[.string ⟨#[]⟩] w fun e w'=>e=.returned (.tuple #[.slice none 0 0,.bool false])/\Below w.heap.size w w':=by
 go_enter Tryz.func68,Tryz.ntmps68
 go_wp2_with fail
 go_ret2
 exact⟨rfl,Below.refl _ _⟩
set_option maxHeartbeats 4000000 in
set_option maxRecDepth 100000 in
theorem g7s(s:ByteArray)(h1:1<=s.size)(h0:s[0]≠47)(w:World):
  Calls Tryz.prog 68 #[.string s] w fun e w'=>e=.returned (.tuple #[.slice none 0 0,.bool false])/\Below w.heap.size w w':=by
 have hie:s.toList.isEmpty=false:=by
  rw[Lib.toList_data,List.isEmpty_eq_false_iff];intro h;have:=congrArg List.length h;simp at this;have e:s.data.size=s.size:=rfl;rw[this]at h1;simp at h1
 have hbn:¬(s[0].toNat:Int)=47:=fun h=>h0 (UInt8.toNat_inj.1 (by have:((47:UInt8).toNat)=47:=rfl;omega))
 have hb0:((s[0].toNat:Int) !=47)=true:=by rw[bne_iff_ne];exact hbn
 have i1:(0:Int)<(s.size:Int):=by omega
 go_enter Tryz.func68,Tryz.ntmps68
 go_wp2_with fail
 go_ret2
 exact⟨rfl,Below.refl _ _⟩
def a7e(s:ByteArray):List ByteArray × Bool:=if(1<=s.size/\C7 s 0=47) then((a95 (s.data.toList.drop 1)).map D2,true) else([],false)
theorem c9j{w:World}{outer:Nat->Nat->Prop}{B:Nat}{v:Value}{n:Nat}{l:List (List UInt8)}(ho:∀b o,outer b o->b<B)(h:c6b B v n l w):Rel (bare w outer) (.sl ((l.map D2).map J4) .no) v:=by
 obtain⟨g,cap,cur,rfl,h2,h3,h4,h5,h6,h7,rfl⟩:=h
 have hcell:∀i x,l[i]? =some x->w.cell? ⟨g,i,none⟩=some (d0w x):=fun i x hx=>by
  rw[Lib.cell_of_heap h3,<-Array.getElem?_toList];have h8:=congrArg (·[i]?) h7;simp only[List.getElem?_take,List.getElem?_map,hx,Option.map_some,Nat.mul_one]at h8;rw[if_pos (List.getElem?_eq_some_iff.1 hx).1]at h8;exact h8
 have hels:∀(i:Nat) (el:List AV),((l.map D2).map J4)[i]? =some el->∃x,l[i]? =some x/\el=[.v (d0w x)]:=fun i el he=>by
  simp only[List.getElem?_map,Option.map_eq_some_iff]at he;obtain⟨y,⟨x,hx,rfl⟩,rfl⟩:=he;exact⟨x,hx,rfl⟩
 have hlen:((l.map D2).map J4).length=l.length:=by simp
 have:=Rel.sl (σ:=bare w outer) ((l.map D2).map J4) .no g 0 cap 1 (fun i _=>d0w (l.getD i [])) (fun i el he=>by obtain⟨x,_,rfl⟩:=hels i el he;rfl) (by rw[hlen];exact h4) trivial (fun id e h=>by cases h)
  (fun i el he j av hj=>by
   obtain⟨x,hx,rfl⟩:=hels i el he;cases j with
   |zero=>
    simp at hj;subst hj;have hd:l.getD i []=x:=by rw[List.getD_eq_getElem?_getD,hx];rfl
    refine⟨by simp only[hd];rw[show 0+i*1+0=i by omega];exact hcell i x hx,fun q=>q.elim (fun x=>?_) (fun x=>a9s _ _ _ _ x),rfl⟩;have:=ho _ _ x;omega
   |succ j=>simp at hj)
  (fun i el he j av hj=>by
   obtain⟨x,hx,rfl⟩:=hels i el he;cases j with
   |zero=>
    simp at hj;subst hj;have hd:l.getD i []=x:=by rw[List.getD_eq_getElem?_getD,hx];rfl
    simp only[hd];exact .v _ rfl
   |succ j=>simp at hj)
 rw[hlen]at this;exact this
theorem n0g(s:ByteArray)(hs:s.size<=1048576):b0q s (a7e s):=by
 refine⟨⟨_,Tryz.func68,by kernel_rfl,by kernel_rfl⟩,fun w outer cargs ho hg hr=>?_⟩;rw[f61 hr]
 have hno:∀(hn:¬(1<=s.size/\C7 s 0=47)),Calls Tryz.prog 68 #[.string s] w fun e w'=>e=.returned (.tuple #[.slice none 0 0,.bool false])/\Below w.heap.size w w':=fun hn=>by
  by_cases h1:1<=s.size
  ·refine g7s s h1 (fun h=>hn ⟨h1,?_⟩) w;rw[T8 s 0 (by omega),h];rfl
  ·have:s=⟨#[]⟩:=b0u (by
    have:s.data.toList.length=0:=by
     rw[Array.length_toList];show s.size=0;omega
    rw[List.eq_nil_of_length_eq_zero this])
   rw[this];exact d58 w
 unfold a7e
 by_cases hc:1<=s.size/\C7 s 0=47
 ·rw[if_pos hc]
  have h0:s[0]=47:=by
   have h2:=hc.2;rw[T8 s 0 (by omega)]at h2;exact UInt8.toNat_inj.1 (by have:((47:UInt8).toNat)=47:=rfl;omega)
  refine(l6g s hs hc.1 h0 w).mono fun e w' ⟨⟨v,he,hv⟩,hb⟩=>⟨.tuple [.sl (((a95 (s.data.toList.drop 1)).map D2).map J4) .no,.v (.bool true)],_,he,a54.of_below hb,?_,rfl⟩
  refine Rel.tuple_mk rfl fun i av hi=>?_
  match i,hi with
  |0,hi=>simp at hi;subst hi;exact⟨_,rfl,by simpa using c9j ho hv⟩
  |1,hi=>simp at hi;subst hi;exact⟨_,rfl,.v _ rfl⟩
 ·rw[if_neg hc];refine(hno hc).mono fun e w' ⟨he,hb⟩=>⟨.tuple [.sl [] .no,.v (.bool false)],_,he,a54.of_below hb,?_,rfl⟩
  refine Rel.tuple_mk rfl fun i av hi=>?_
  match i,hi with
  |0,hi=>simp at hi;subst hi;exact⟨_,rfl,.sl0 .no trivial⟩
  |1,hi=>simp at hi;subst hi;exact⟨_,rfl,.v _ rfl⟩
end
theorem b7o(s:ByteArray):s.data.toList.length=s.size:=by simp
theorem b77(s:ByteArray):(bI s).length=s.size:=by simp[bI]
theorem m67(s:ByteArray)(p:Nat)(h:p<s.size):(bI s)[p]? =some (s[p].toNat:Int):=by
 unfold bI;have h':p<s.data.toList.length:=by simpa using h
 rw[List.getElem?_map,List.getElem?_eq_getElem h'];rfl
theorem e5v(s:ByteArray)(a b:Nat):((bI s).take b).drop a=bI (D2 ((s.data.toList.take b).drop a)):=by
 unfold bI;rw[c29,List.map_drop,List.map_take]
theorem d9x(s:ByteArray)(hs:s.size<=1048576)(f:Nat)(out:List ByteArray):J0 ((s.size+1:Nat):Int) f out s (out,true):=by
 refine O9 _ _ _ _ _ ⟨fun h=>?_,fun _=>rfl⟩;rw[b77]at h;simp only[decide_eq_true_eq]at h;omega
theorem d4v(s:ByteArray)(hs:s.size<=1048576):∀(k i f:Nat) (out:List ByteArray),i+k=s.size->f<=i->out.length<=f->J0 i f out s (out++(b5v ((s.data.toList.take i).drop f) (a95 (s.data.toList.drop i))).map D2,true)
 |0,i,f,out,hk,hf,ho=>by
  refine O9 _ _ _ _ _ ⟨fun h=>⟨fun b=>b=true,fun b hb=>⟨fun _=>?_,fun hf=>by rw[hb]at hf;cases hf⟩,fun _=>rfl,fun hn=>?_⟩,fun h=>?_⟩
  ·rw[b77];simp only[Int.toNat_natCast];refine⟨by omega,D2 ((s.data.toList.take i).drop f),e5v s f i,by simp;omega,?_⟩;rw[a3y (by omega),show((i:Int)+1)=((s.size+1:Nat):Int) by omega,show s.data.toList.drop i=[] from List.drop_eq_nil_of_le (by rw[b7o];omega),c8m];exact d9x s hs _ _
  ·rw[b77]at hn;simp only[beq_eq_false_iff_ne,ne_eq]at hn;omega
  ·rw[b77]at h;simp only[decide_eq_false_iff_not]at h;omega
 |k+1,i,f,out,hk,hf,ho=>by
  have hi:i<s.size:=by omega
  have hw:wI ((i:Int)+1)=((i+1:Nat):Int):=by rw[a3y (by omega)];omega
  have hc:=s[i].toNat_lt;refine O9 _ _ _ _ _ ⟨fun h=>⟨fun b=>b=decide (s[i]=47),fun b hb=>⟨fun ht=>?_,fun hn=>?_⟩,fun he=>?_,fun hn=>⟨_,by rw[Int.toNat_natCast];exact m67 s i hi,by omega,?_⟩⟩,fun h=>?_⟩
  ·rw[b77];simp only[Int.toNat_natCast];have h47:s[i]=47:=by rw[hb]at ht;simpa using ht
   refine⟨by omega,D2 ((s.data.toList.take i).drop f),e5v s f i,by simp;omega,?_⟩;rw[hw,T1 s i hi,h47,c1k];have:=d4v s hs k (i+1) (i+1) (out++[D2 ((s.data.toList.take i).drop f)]) (by omega) (Nat.le_refl _) (by simp;omega);rw[show(s.data.toList.take (i+1)).drop (i+1)=[] from List.drop_eq_nil_of_le (by rw[List.length_take];omega),List.append_assoc]at this;exact this
  ·have h47:s[i]≠47:=by rw[hb]at hn;simpa using hn
   rw[hw,T1 s i hi,c5w _ _ _ h47];have:=d4v s hs k (i+1) f out (by omega) (by omega) ho
   have e:(s.data.toList.take (i+1)).drop f=(s.data.toList.take i).drop f++[s[i]]:=by
    have h':i<s.data.toList.length:=by rw[b7o];exact hi
    rw[List.take_add_one,List.drop_append_of_le_length (by rw[List.length_take];omega),List.getElem?_eq_getElem h'];rfl
   rw[e]at this;exact this
  ·rw[b77]at he;simp only[beq_iff_eq]at he;omega
  ·have e47:((47:UInt8).toNat)=47:=rfl
   by_cases h47:s[i]=47
   ·simp[h47]
   ·have:¬(s[i].toNat:Int)=47:=fun h=>h47 (UInt8.toNat_inj.1 (by omega))
    rw[decide_eq_false h47];exact beq_eq_false_iff_ne.2 this
  ·rw[b77]at h;simp only[decide_eq_false_iff_not]at h;omega
theorem m4n(s:ByteArray)(hs:s.size<=1048576):a22 s (a7e s):=by
 unfold a7e;refine a8v _ _ ⟨fun b=>b=decide (¬(1<=s.size/\C7 s 0=47)),fun b hb=>⟨fun ht=>?_,fun hn=>?_⟩,fun he=>?_,fun hn=>⟨⟨Int.le_refl _,?_⟩,?_⟩⟩
 ·rw[hb]at ht;rw[if_neg (of_decide_eq_true ht)]
 ·rw[hb]at hn
  have hc:1<=s.size/\C7 s 0=47:=by
   simp only[decide_eq_false_iff_not,Decidable.not_not]at hn;exact hn
  rw[if_pos hc];have:=d4v s hs (s.size - 1) 1 1 [] (by omega) (Nat.le_refl _) (by simp);rw[show(s.data.toList.take 1).drop 1=[] from List.drop_eq_nil_of_le (by rw[List.length_take];omega),c9k,List.nil_append]at this;exact this
 ·simp only[decide_eq_true_eq]at he;rw[eq_comm,decide_eq_true_eq];rintro⟨h1,_⟩;rw[he]at h1;exact absurd h1 (by decide)
 ·simp only[decide_eq_false_iff_not]at hn
  have:s.size≠0:=fun h=>hn (b0u (by
   have:s.data.toList.length=0:=by rw[b7o];exact h
   rw[List.eq_nil_of_length_eq_zero this]))
  omega
 ·simp only[decide_eq_false_iff_not]at hn
  have:s.size≠0:=fun h=>hn (b0u (by
   have:s.data.toList.length=0:=by rw[b7o];exact h
   rw[List.eq_nil_of_length_eq_zero this]))
  have h1:1<=s.size:=by omega
  show((C7 s 0) !=47)=_
  by_cases h47:C7 s 0=47
  ·rw[decide_eq_false (by simp[h1,h47])];simp[h47]
  ·rw[decide_eq_true (by simp[h47])];simpa using h47
def b4q(c:Int):Bool:=d5x c&& !(decide (65<=c)&&decide (c<=90))
def d4r(s:ByteArray):Bool:=s.data.toList.all (fun c=>b4q (c.toNat:Int))&& !(decide (s=(⟨#[]⟩:ByteArray)))
theorem d5f(c:Int):a63 c (d5x c):=b3l _ _ rfl
theorem e6u(s:ByteArray)(hs:s.size<=1048576):∀(k p:Nat),p+k=s.size->N4 p s ((s.data.toList.drop p).all (fun c=>b4q (c.toNat:Int))&& !(decide (s=(⟨#[]⟩:ByteArray))))
 |0,p,hk=>by
  refine a07 _ _ _ ⟨fun h=>by simp only[decide_eq_true_eq]at h;omega,fun _=>?_⟩;rw[List.drop_eq_nil_of_le (by rw[b7o];omega)];simp
 |k+1,p,hk=>by
  have hp:p<s.size:=by omega
  have hw:wI ((p:Int)+1)=((p+1:Nat):Int):=by rw[a3y (by omega)];omega
  have ih:=e6u s hs k (p+1) (by omega);refine a07 _ _ _ ⟨fun h=>⟨by omega,_,d5f _,?_⟩,fun h=>by simp only[decide_eq_false_iff_not]at h;omega⟩;simp only[Int.toNat_natCast,T8 s p hp,hw];rw[T1 s p hp,List.all_cons];refine⟨fun hn=>?_,fun hy=>⟨by omega,fun h1=>⟨by omega,fun h2=>?_,fun h2=>?_⟩,fun h1=>?_⟩⟩
  ·simp only[Bool.not_eq_true']at hn;simp[b4q,hn]
  ·simp[b4q,h1,h2]
  ·have:b4q (s[p].toNat:Int)=true:=by simp only[Bool.not_eq_false']at hy;simp[b4q,hy,h2]
   rw[this,Bool.true_and];exact ih
  ·have:b4q (s[p].toNat:Int)=true:=by simp only[Bool.not_eq_false']at hy;simp[b4q,hy,h1]
   rw[this,Bool.true_and];exact ih
theorem m0r(s:ByteArray)(hs:s.size<=1048576):V0 s (d4r s):=a98 _ _ (by
 have:=e6u s hs s.size 0 (by omega);rw[List.drop_zero]at this;exact this)
theorem e29(s:ByteArray)(hs:s.size<=1048576):∀(k p:Nat),p+k=s.size->Y7 p s ((s.data.toList.drop p).all (fun c=>b4q (c.toNat:Int))&& !(decide (s=(⟨#[]⟩:ByteArray))))
 |0,p,hk=>by
  refine a2j _ _ _ ⟨fun h=>by simp only[decide_eq_true_eq]at h;omega,fun _=>?_⟩;rw[List.drop_eq_nil_of_le (by rw[b7o];omega)];simp
 |k+1,p,hk=>by
  have hp:p<s.size:=by omega
  have hw:wI ((p:Int)+1)=((p+1:Nat):Int):=by rw[a3y (by omega)];omega
  have ih:=e29 s hs k (p+1) (by omega);refine a2j _ _ _ ⟨fun h=>⟨by omega,_,d55 _,?_⟩,fun h=>by simp only[decide_eq_false_iff_not]at h;omega⟩;simp only[Int.toNat_natCast,T8 s p hp,hw];rw[T1 s p hp,List.all_cons];refine⟨fun hn=>?_,fun hy=>⟨by omega,fun b=>b=(decide (65<=(s[p].toNat:Int))&&decide ((s[p].toNat:Int)<=90)),fun b hb=>⟨fun ht=>?_,fun hf=>?_⟩,fun h1=>⟨by omega,by simp[h1]⟩,fun h1=>by simp[h1]⟩⟩
  ·simp only[Bool.not_eq_true']at hn;simp[b4q,hn]
  ·rw[hb]at ht;simp only[b4q,ht];simp
  ·rw[hb]at hf;have:b4q (s[p].toNat:Int)=true:=by simp only[Bool.not_eq_false']at hy;simp only[b4q,hf,hy];rfl
   rw[this,Bool.true_and];exact ih
theorem m7r(s:ByteArray)(hs:s.size<=1048576):a0p s (d4r s):=b2p _ _ (by
 have:=e29 s hs s.size 0 (by omega);rw[List.drop_zero]at this;exact this)
theorem j06(n b0 b1 b2 b3:Nat)(h:128<=b0):128<=(Lib.decodeN n b0 b1 b2 b3).1:=by
 unfold Lib.decodeN
 repeat' split
 all_goals first|omega|(simp only[];omega)|skip
theorem e2l(s:ByteArray)(p:Nat)(h:p<s.size):s.get! p=s[p]:=by
 show s.data[p]! =s.data[p];exact getElem!_pos s.data p h
theorem e2m(s:ByteArray)(p:Nat)(h:p<s.size)(hb:s[p].toNat<128):Utf8.decode s p=(s[p].toNat,1):=by
 rw[Lib.decode_at,e2l s p h];unfold Lib.decodeN;rw[if_pos hb]
theorem e2d(s:ByteArray)(p:Nat)(h:p<s.size)(hb:¬s[p].toNat<128):128<=(Utf8.decode s p).1:=by
 rw[Lib.decode_at,e2l s p h];exact j06 _ _ _ _ _ (by omega)
def a1o(c:Int):Bool:=decide (97<=c)&&decide (c<=122)
def d0o(c:Int):Bool:=decide (65<=c)&&decide (c<=90)
def d08(c:Int):Bool:=decide (48<=c)&&decide (c<=57)
def a5a(c:Int):Int:=if a1o c=true then 1 else if d0o c=true then 2 else if d08 c=true then 3 else if c=95 then 4 else 0
theorem c8o(c:Int):b1d c (a5a c):=by
 refine b6i _ _ ⟨fun h=>?_,fun h=>⟨fun h1=>?_,fun h1=>⟨fun h2=>?_,fun h2=>⟨fun h3=>?_,fun h3=>?_⟩⟩⟩⟩
 ·unfold a5a;rw[if_pos (show a1o c=true from h)]
 ·unfold a5a;rw[if_neg (by rw[show a1o c=false from h];simp),if_pos (show d0o c=true from h1)]
 ·unfold a5a;rw[if_neg (by rw[show a1o c=false from h];simp),if_neg (by rw[show d0o c=false from h1];simp),if_pos (show d08 c=true from h2)]
 ·unfold a5a;rw[if_neg (by rw[show a1o c=false from h];simp),if_neg (by rw[show d0o c=false from h1];simp),if_neg (by rw[show d08 c=false from h2];simp),if_pos (by simpa using h3)]
 ·unfold a5a;rw[if_neg (by rw[show a1o c=false from h];simp),if_neg (by rw[show d0o c=false from h1];simp),if_neg (by rw[show d08 c=false from h2];simp),if_neg (by simpa using h3)]
def e5r(c:Int):Bool:=a1o c||d0o c||d08 c||c==95
def e7p(c:Int):Bool:=a1o c||d0o c
theorem c4x(c:Int):(a5a c==0)= !(e5r c):=by
 unfold a5a e5r;cases a1o c<;>cases d0o c<;>cases d08 c<;>by_cases h:c=95<;>simp[h]
theorem c54(c:Int):((a5a c==0)||((a5a c !=1)&&(a5a c !=2)))= !(e7p c):=by
 unfold a5a e7p;cases a1o c<;>cases d0o c<;>cases d08 c<;>by_cases h:c=95<;>simp[h]
theorem b3q(c:Int)(h:128<=c):a5a c=0:=by
 unfold a5a a1o d0o d08;rw[if_neg (by simp;omega),if_neg (by simp;omega),if_neg (by simp;omega),if_neg (by omega)]
def b4f(s:ByteArray):Bool:=decide (1<=(s.size:Int))&&decide ((s.size:Int)<=40)&&(e7p (C7 s 0))&&(s.data.toList.drop 1).all (fun c=>e5r (c.toNat:Int))
theorem e3c(s:ByteArray)(hs:s.size<=1048576):∀(k p:Nat),p+k=s.size->1<=p->a08 s p ((s.data.toList.drop p).all (fun c=>e5r (c.toNat:Int))&&(decide (1<=(s.size:Int))&&decide ((s.size:Int)<=40)))
 |0,p,hk,h1=>by
  refine X0 _ _ _ ⟨fun h=>by omega,fun _=>?_⟩;rw[List.drop_eq_nil_of_le (by rw[b7o];omega)];simp
 |k+1,p,hk,h1=>by
  have hp:p<s.size:=by omega
  refine X0 _ _ _ ⟨fun h=>⟨_,c8o _,?_⟩,fun h=>by omega⟩;have hz:(((p:Nat):Int)==0)=false:=by rw[beq_eq_false_iff_ne];omega
  rw[hz,Bool.false_and,Bool.false_and,Bool.or_false,T1 s p hp,List.all_cons]
  by_cases hb:s[p].toNat<128
  ·rw[e2m s p hp hb,c4x];refine⟨fun ht=>?_,fun hf=>?_⟩
   ·simp only[Bool.not_eq_true']at ht;rw[ht];rfl
   ·simp only[Bool.not_eq_false']at hf;rw[hf,Bool.true_and];exact e3c s hs k (p+1) (by omega) (by omega)
  ·have h2:=e2d s p hp hb;have h3:=b3q (((Utf8.decode s p).1:Nat):Int) (by omega)
   have h4:e5r (s[p].toNat:Int)=false:=by
    have:=c4x (s[p].toNat:Int);rw[b3q _ (by omega)]at this;simpa using this.symm
   rw[h3,h4];exact⟨fun _=>by simp,fun hf=>by simp at hf⟩
theorem d2m(s:ByteArray)(hs:s.size<=1048576):a5j s (b4f s):=by
 refine b4u _ _ (X0 _ _ _ ⟨fun h=>⟨_,c8o _,?_⟩,fun h=>?_⟩)
 ·rw[show((((0:Nat):Nat):Int)==0)=true from rfl,Bool.true_and];have hb0:=T8 s 0 h
  by_cases hb:s[0].toNat<128
  ·rw[e2m s 0 h hb,c54];unfold b4f;rw[hb0];refine⟨fun ht=>?_,fun hf=>?_⟩
   ·simp only[Bool.not_eq_true']at ht;rw[ht];simp
   ·simp only[Bool.not_eq_false']at hf;have:=e3c s hs (s.size - 1) 1 (by omega) (Nat.le_refl _);rw[hf,Bool.and_true,Bool.and_comm];simpa using this
  ·have h2:=e2d s 0 h hb;have h3:=b3q (((Utf8.decode s 0).1:Nat):Int) (by omega)
   have h4:e7p (s[0].toNat:Int)=false:=by
    have:=c54 (s[0].toNat:Int);rw[b3q _ (by omega)]at this;simpa using this.symm
   rw[h3];refine⟨fun _=>?_,fun hf=>by simp at hf⟩;unfold b4f;rw[hb0,h4];simp
 ·have:s.size=0:=by omega
  unfold b4f;rw[this];simp
theorem d2i(s:ByteArray)(hs:s.size<=1048576):∀(k p:Nat),p+k=s.size->P1 p s ((s.data.toList.drop p).all (fun c=>e5r (c.toNat:Int)))
 |0,p,hk=>by
  refine O2 _ _ _ ⟨fun h=>by simp only[decide_eq_true_eq]at h;omega,fun _=>?_⟩;rw[List.drop_eq_nil_of_le (by rw[b7o];omega)];rfl
 |k+1,p,hk=>by
  have hp:p<s.size:=by omega
  have hw:wI ((p:Int)+1)=((p+1:Nat):Int):=by rw[a3y (by omega)];omega
  have ih:=d2i s hs k (p+1) (by omega);refine O2 _ _ _ ⟨fun h=>⟨by omega,_,a2v _ _ rfl,?_⟩,fun h=>by simp only[decide_eq_false_iff_not]at h;omega⟩;simp only[Int.toNat_natCast,T8 s p hp,hw];rw[T1 s p hp,List.all_cons];have hi:e5r (s[p].toNat:Int)=(a1o (s[p].toNat:Int)||d0o (s[p].toNat:Int)||d08 (s[p].toNat:Int)||(s[p].toNat:Int)==95):=rfl;refine⟨fun b=>b= !(a1o (s[p].toNat:Int)||d0o (s[p].toNat:Int)),fun b6 h6=>⟨fun b=>b=(b6&&((s[p].toNat:Int) !=95)),fun b7 h7=>⟨fun ht=>⟨by omega,fun b=>b= !(d08 (s[p].toNat:Int)),fun b8 h8=>⟨fun h=>?_,fun h=>?_⟩,fun h=>?_,fun h=>⟨by omega,?_⟩⟩,fun hf=>?_⟩,fun h=>⟨by omega,by rw[h,Bool.true_and]⟩,fun h=>by rw[h,Bool.false_and]⟩,fun h=>⟨by omega,_,a0j _ _ rfl,?_⟩,fun h=>?_⟩
  ·rw[h7]at ht;simp only[Bool.and_eq_true]at ht;have h1:=ht.1;rw[h6]at h1;rw[h8]at h;simp only[Bool.not_eq_true',Bool.or_eq_false_iff]at h1 h;have h2:((s[p].toNat:Int)==95)=false:=by have:=ht.2;simpa[bne]using this
   rw[hi,h1.1,h1.2,h,h2];rfl
  ·rw[h8]at h;simp only[Bool.not_eq_false']at h;rw[hi,h];simp only[Bool.or_true,Bool.true_or,Bool.true_and];exact ih
  ·simp only[decide_eq_true_eq]at h;have:d08 (s[p].toNat:Int)=false:=by unfold d08;simp;omega
   rw[this];rfl
  ·simp only[decide_eq_false_iff_not]at h;unfold d08
   by_cases h9:57<(s[p].toNat:Int)
   ·rw[decide_eq_true h9,decide_eq_false (p:=(s[p].toNat:Int)<=57) (by omega)];simp
   ·rw[decide_eq_false h9,decide_eq_true (p:=(s[p].toNat:Int)<=57) (by omega),decide_eq_true (p:=(48:Int)<=(s[p].toNat:Int)) (by omega)];rfl
  ·rw[h7,h6]at hf
   have:e5r (s[p].toNat:Int)=true:=by
    rw[hi];cases h1:a1o (s[p].toNat:Int) with
    |true=>simp
    |false=>
     cases h2:d0o (s[p].toNat:Int) with
     |true=>simp
     |false=>
      rw[h1,h2]at hf;have:((s[p].toNat:Int)==95)=true:=by simpa[bne]using hf
      rw[this];simp
   rw[this,Bool.true_and];exact ih
  ·have h0:a1o (s[p].toNat:Int)=false:=by rw[Bool.not_eq_true']at h;exact h
   rw[h0,Bool.false_or];rfl
  ·have h0:a1o (s[p].toNat:Int)=true:=by rw[Bool.not_eq_false']at h;exact h
   rw[h0];rfl
theorem c3n(s:ByteArray)(hs:s.size<=1048576):U9 s (b4f s):=by
 refine a6p _ _ ⟨fun b=>b= !(decide (1<=(s.size:Int))&&decide ((s.size:Int)<=40)&&e7p (C7 s 0)),fun b hb=>⟨fun ht=>?_,fun hf=>?_⟩,fun h=>?_,fun h=>⟨⟨Int.le_refl _,?_⟩,_,a2v _ _ rfl,fun b=>b= !(decide (1<=(s.size:Int))&&decide ((s.size:Int)<=40)&&e7p (C7 s 0)),fun b hb=>hb,fun h2=>⟨⟨Int.le_refl _,?_⟩,_,a0j _ _ rfl,?_⟩,fun h2=>?_⟩⟩
 ·rw[hb]at ht;simp only[Bool.not_eq_true']at ht;unfold b4f;rw[ht];rfl
 ·rw[hb]at hf;simp only[Bool.not_eq_false']at hf;unfold b4f;rw[hf,Bool.true_and]
  have h1:1<=s.size:=by
   simp only[Bool.and_eq_true,decide_eq_true_eq]at hf;omega
  exact d2i s hs (s.size - 1) 1 (by omega)
 ·simp only[Bool.or_eq_true,beq_iff_eq,decide_eq_true_eq]at h;rcases h with h|h
  ·rw[decide_eq_false (p:=(1:Int)<=(s.size:Int)) (by omega)];rfl
  ·rw[decide_eq_false (p:=(s.size:Int)<=40) (by omega)];simp
 ·simp only[Bool.or_eq_false_iff,beq_eq_false_iff_ne,decide_eq_false_iff_not]at h;omega
 ·simp only[Bool.or_eq_false_iff,beq_eq_false_iff_ne,decide_eq_false_iff_not]at h;omega
 ·simp only[Bool.or_eq_false_iff,beq_eq_false_iff_ne,decide_eq_false_iff_not]at h;rw[decide_eq_true (p:=(1:Int)<=(s.size:Int)) (by omega),decide_eq_true (p:=(s.size:Int)<=40) (by omega)];have h0:a1o (C7 s 0)=false:=by rw[Bool.not_eq_true']at h2;exact h2
  unfold e7p;rw[h0];rfl
 ·simp only[Bool.or_eq_false_iff,beq_eq_false_iff_ne,decide_eq_false_iff_not]at h;rw[decide_eq_true (p:=(1:Int)<=(s.size:Int)) (by omega),decide_eq_true (p:=(s.size:Int)<=40) (by omega)];have h0:a1o (C7 s 0)=true:=by rw[Bool.not_eq_false']at h2;exact h2
  unfold e7p;rw[h0];rfl
def a6h:List UInt8->List (List UInt8)
 |[]=>[[]]
 |c::r=>if c=46 then []::a6h r else match a6h r with
  |[]=>[[c]]
  |h::t=>(c::h)::t
theorem b4o:∀l,a6h l≠[]
 |[]=>by simp[a6h]
 |c::r=>by
  unfold a6h;split
  ·simp
  ·split<;>simp
theorem d2n(x r:List UInt8):b5v x (a6h (46::r))=x::b5v [] (a6h r):=by
 have h:a6h (46::r)=[]::a6h r:=by rw[a6h,if_pos rfl]
 rw[h,b5v,List.append_nil];cases hs:a6h r with
 |nil=>exact absurd hs (b4o r)
 |cons a b=>rw[b5v,List.nil_append]
theorem d0n(x:List UInt8)(c:UInt8)(r:List UInt8)(hc:c≠46):b5v x (a6h (c::r))=b5v (x++[c]) (a6h r):=by
 rw[a6h,if_neg hc];cases hs:a6h r with
 |nil=>exact absurd hs (b4o r)
 |cons a b=>simp[b5v]
theorem d41(r:List UInt8):b5v [] (a6h r)=a6h r:=by
 cases hs:a6h r with
 |nil=>exact absurd hs (b4o r)
 |cons a b=>rw[b5v,List.nil_append]
theorem b5j:∀l:List UInt8,Lib.splitK [46] 0 (Lib.count l [46]) l=a6h l
 |[]=>by
  have h:Lib.count ([]:List UInt8) [46]=0:=Lib.count_miss (by decide);rw[h];rfl
 |c::r=>by
  by_cases hc:c=46
  ·subst hc;rw[Lib.count_cons_eq,Nat.add_comm,Lib.splitK];have hi:Lib.index (46::r) [46]=0:=by unfold Lib.index;simp
   rw[hi,if_neg (by decide),a6h,if_pos rfl];have:=b5j r;simpa using this
  ·rw[Lib.count_cons_ne _ _ _ hc,a6h,if_neg hc,<-b5j r]
   have hi:Lib.index (c::r) [46]=if Lib.index r [46]== -1 then -1 else Lib.index r [46]+1:=by
    rw[Lib.index];rw[if_neg (by simp[Ne.symm hc])]
   by_cases hm:Lib.index r [46]= -1
   ·rw[Lib.count_miss hm];rfl
   ·have h0:=Lib.index_ge r [46];obtain⟨i,hii⟩:∃i:Nat,Lib.index r [46]=i:=⟨(Lib.index r [46]).toNat,by omega⟩
    rw[Lib.count_hit (by simp) hii,Nat.add_comm,Lib.splitK,Lib.splitK,hi,hii];have e1:¬(((i:Int)== -1)=true):=by rw[beq_iff_eq];omega
    rw[if_neg e1,if_neg e1,if_neg (by rw[beq_iff_eq];omega)];have e2:((i:Int)+1).toNat=i+1:=by omega
    simp[e2]
def b8d(s:ByteArray):Bool:=(a6h s.data.toList).all (fun x=>b4f (D2 x))&&decide ((s.size:Int)<=120)
theorem c7c(s:ByteArray)(hs:s.size<=1048576):∀(k p:Nat) (x:List UInt8),p+k=s.size->x.length<=p->O6 p (D2 x) s ((b5v x (a6h (s.data.toList.drop p))).all (fun x=>b4f (D2 x)))
 |0,p,x,hk,hx=>by
  refine O4 _ _ _ _ ⟨fun h=>by simp only[decide_eq_true_eq]at h;omega,fun _=>⟨_,c3n (D2 x) (by rw[I1];omega),?_⟩⟩;rw[List.drop_eq_nil_of_le (by rw[b7o];omega)];simp[a6h,b5v]
 |k+1,p,x,hk,hx=>by
  have hp:p<s.size:=by omega
  have hw:wI ((p:Int)+1)=((p+1:Nat):Int):=by rw[a3y (by omega)];omega
  refine O4 _ _ _ _ ⟨fun h=>⟨by omega,?_⟩,fun h=>by simp only[decide_eq_false_iff_not]at h;omega⟩;simp only[Int.toNat_natCast,T8 s p hp,hw];rw[T1 s p hp];have e46:((46:UInt8).toNat)=46:=rfl;refine⟨fun hb=>⟨by omega,?_⟩,fun hb=>⟨_,c3n (D2 x) (by rw[I1];omega),?_⟩⟩
  ·have hc:s[p]≠46:=fun h=>by rw[h]at hb;simp at hb
   rw[d27 s p hp,I1,I1,c1o,d0n _ _ _ hc];exact⟨by simp;omega,c7c s hs k (p+1) _ (by omega) (by simp;omega)⟩
  ·have hc:s[p]=46:=by
    simp only[bne_eq_false_iff_eq]at hb;exact UInt8.toNat_inj.1 (by omega)
   rw[hc,d2n,List.all_cons];refine⟨fun h=>?_,fun h=>?_⟩
   ·simp only[Bool.not_eq_true']at h;rw[h];rfl
   ·simp only[Bool.not_eq_false']at h;rw[h,Bool.true_and];exact c7c s hs k (p+1) [] (by omega) (by simp)
theorem c8q(s:ByteArray)(hs:s.size<=1048576):a0c s (b8d s):=by
 refine a6u _ _ ⟨fun h=>?_,fun h=>?_⟩
 ·simp only[decide_eq_true_eq]at h;unfold b8d;rw[decide_eq_false (p:=(s.size:Int)<=120) (by omega),Bool.and_false]
 ·simp only[decide_eq_false_iff_not]at h;unfold b8d;rw[decide_eq_true (p:=(s.size:Int)<=120) (by omega),Bool.and_true];have:=c7c s hs s.size 0 [] (by omega) (by simp);rw[List.drop_zero,d41]at this;exact this
theorem c8s{σ:Sg}{x y:Value}{cargs:Array Value}(hr:b7b σ [.v x,.v y] cargs.toList):cargs=#[x,y]:=by
 obtain⟨hl,hx⟩:=hr;obtain⟨x0,h0,r0⟩:=hx 0 _ rfl;obtain⟨x1,h1,r1⟩:=hx 1 _ rfl;have e0:=d71 r0;have e1:=d71 r1;subst e0 e1;apply Array.ext'
 match hc:cargs.toList,hl,h0,h1 with
 |[a,b],_,h0,h1=>simp at h0 h1;simp[h0,h1]
theorem f5l{σ:Sg}{cells:List AV}{off:Nat}{v:Value}(h:Rel σ (.elt cells off) v):∃(b o:Nat) (xs:Nat->Value),v=.pointer (some ⟨b,o+off,none⟩)/\∀(i:Nat) (av:AV),cells[i]? =some av->σ.w.cell? ⟨b,o+i,none⟩=some (xs i)/\Rel σ av (xs i):=by
 cases h with
 |elt _ _ b o xs hc hr=>exact⟨b,o,xs,rfl,fun i av hi=>⟨(hc i av hi).1,hr i av hi⟩⟩
theorem c2d{w:World}{outer:Nat->Nat->Prop}{m:Int}(h:c0x w outer (GLm m)):w.cell? ⟨2,0,none⟩=some (.int .i64 m):=by
 obtain⟨b,o,xs,hv,hc⟩:=f5l (h 2 [.v (.int .i64 m)] (by simp[GLm]));obtain⟨h1,h2⟩:=hc 0 _ rfl;rw[d71 h2]at h1;injection hv with hv
 injection hv with hv
 injection hv with h3 h4
 have h5:o=0:=by omega
 subst h5;rw[<-h3]at h1;exact h1
theorem c9h(mg:Int)(s:ByteArray)(hs:s.size<=1048576):strings_Split mg s ⟨#[46]⟩ ((a6h s.data.toList).map D2):=by
 refine⟨⟨_,Tryz.func150,by kernel_rfl,by kernel_rfl⟩,fun w outer cargs ho hg hr=>?_⟩;rw[c8s hr];have hc:=Tryz.strings_Split s ⟨#[46]⟩ mg w (by omega) (c2d hg) (by decide);refine hc.mono fun e w' ⟨he,hw⟩=>⟨.sl (((a6h s.data.toList).map D2).map J4) .no,_,he,?_,?_,rfl⟩
 ·rw[hw];exact a54.alloc _ _
 ·have hd:(Lib.splitB ⟨#[46]⟩ 0 (Lib.countB s ⟨#[46]⟩) s).map (·.data.toList)=a6h s.data.toList:=by
   rw[Lib.splitB_data];exact b5j _
  have hlen:=Lib.splitB_all ⟨#[46]⟩ (by decide) 0 (Lib.countB s ⟨#[46]⟩) s rfl;have hle:=Lib.countB_le ⟨#[46]⟩ (by decide) s.size s (Nat.le_refl _);subst hw;refine c9j (B:=w.heap.size) (n:=Lib.countB s ⟨#[46]⟩+1) ho ⟨w.heap.size,_,_,rfl,Nat.le_refl _,heap_alloc_new w _,Nat.le_refl _,by unfold maxLen;omega,by simp[hlen],?_,by rw[<-hd];simpa using hlen⟩;rw[Nat.mul_one,List.take_of_length_le (by simp[hlen]),<-hd,List.map_map];rfl
theorem d5m(mg:Int)(s:ByteArray)(hs:s.size<=1048576)(L:List (List UInt8))(hl:∀x∈L,x.length<=1048576)(hL:L.length<=2097152):∀(k i:Nat),i+k=L.length->a0w i (L.map D2) s mg ((L.drop i).all (fun x=>b4f (D2 x))&&decide ((s.size:Int)<=120))
 |0,i,hk=>by
  refine a3c _ _ _ _ _ ⟨fun h=>by simp only[decide_eq_true_eq,List.length_map]at h;omega,fun _=>?_⟩;rw[List.drop_eq_nil_of_le (by omega)];rfl
 |k+1,i,hk=>by
  have hi:i<L.length:=by omega
  have hw:wI ((i:Int)+1)=((i+1:Nat):Int):=by rw[a3y (by omega)];omega
  refine a3c _ _ _ _ _ ⟨fun h=>⟨D2 L[i],by rw[Int.toNat_natCast,List.getElem?_map,List.getElem?_eq_getElem hi];rfl,by omega,_,d2m _ (by rw[I1];exact hl _ (List.getElem_mem hi)),?_⟩,fun h=>by simp only[decide_eq_false_iff_not,List.length_map]at h;omega⟩;rw[hw,List.drop_eq_getElem_cons hi,List.all_cons];refine⟨fun h=>?_,fun h=>?_⟩
  ·simp only[Bool.not_eq_true']at h;rw[h];rfl
  ·simp only[Bool.not_eq_false']at h;rw[h,Bool.true_and];exact d5m mg s hs L hl hL k (i+1) (by omega)
theorem b63:∀l:List UInt8,(a6h l).length<=l.length+1/\∀x∈a6h l,x.length<=l.length
 |[]=>by simp[a6h]
 |c::r=>by
  obtain⟨h1,h2⟩:=b63 r;unfold a6h;split
  ·refine⟨by simp;omega,fun x hx=>?_⟩;rcases List.mem_cons.1 hx with rfl|hx
   ·simp
   ·have:=h2 x hx;simp;omega
  ·split
   ·simp
   ·rename_i h t he;rw[he]at h1 h2;refine⟨by simp at h1 ⊢;omega,fun x hx=>?_⟩;rcases List.mem_cons.1 hx with rfl|hx
    ·have:=h2 h (by simp);simp;omega
    ·have:=h2 x (by simp[hx]);simp;omega
theorem c81(mg:Int)(s:ByteArray)(hs:s.size<=1048576):a5f mg s (b8d s):=by
 refine b4h _ _ _ ⟨_,c9h mg s hs,?_⟩;obtain⟨h1,h2⟩:=b63 s.data.toList;rw[b7o]at h1 h2;have:=d5m mg s hs (a6h s.data.toList) (fun x hx=>by have:=h2 x hx;omega) (by omega) _ 0 (Nat.zero_add _);exact this
def c8e(s:ByteArray):ByteArray:=s.extract 1 (s.size - 1)
def noV(s:ByteArray):Bool:=(C7 s 0 !=123)||(C7 s (s.size - 1) !=125)|| !(b8d (c8e s))
def vOK(s:ByteArray):Bool:=decide (3<=s.size)&& !(noV s)
theorem d6f:b8d ⟨#[]⟩=false:=by decide+kernel
theorem b24(s:ByteArray):(c8e s).size=s.size - 1 - 1:=by
 unfold c8e;rw[ByteArray.size_extract];omega
theorem e7l{s:ByteArray}(h:s.size=0):s=⟨#[]⟩:=b0u (by
 have:s.data.toList.length=0:=by rw[b7o];exact h
 rw[List.eq_nil_of_length_eq_zero this])
theorem f4q(s:ByteArray)(h:s.size<3):noV s=true:=by
 have:c8e s=⟨#[]⟩:=e7l (by rw[b24];omega);unfold noV;rw[this,d6f];simp
theorem o2l(mg:Int)(s:ByteArray)(hs:s.size<=1048576):Y6 mg s (if vOK s=true then(c8e s,true) else(⟨#[]⟩,false)):=by
 by_cases h2:s.size<2
 ·have hv:vOK s=false:=by unfold vOK;rw[decide_eq_false (by omega)];rfl
  rw[if_neg (by rw[hv];simp)];refine a2s _ _ _ ⟨fun b=>b=true,fun b1 hb1=>⟨fun b=>b=true,fun b2 hb2=>⟨fun b=>b=true,fun b3 hb3=>⟨fun _=>rfl,fun h=>by rw[hb3]at h;cases h⟩,fun _=>rfl,fun h=>by rw[hb2]at h;cases h⟩,fun _=>rfl,fun h=>by rw[hb1]at h;cases h⟩,fun _=>rfl,fun h=>?_⟩;simp only[decide_eq_false_iff_not]at h;omega
 ·have hw:wI ((s.size:Int) - 1)=((s.size - 1:Nat):Int):=by rw[a3y (by omega)];omega
  refine a2s _ _ _ ⟨fun b=>b=(C7 s 0 !=123),fun b1 hb1=>⟨fun b=>b=(b1||(C7 s (s.size - 1) !=125)),fun b2 hb2=>⟨fun b=>b=noV s,fun b3 hb3=>⟨fun h=>?_,fun h=>?_⟩,fun h=>?_,fun h=>⟨by rw[hw];omega,_,c81 mg _ ?_,?_⟩⟩,fun h=>by rw[h,Bool.true_or],fun h=>⟨by rw[hw];omega,by rw[hw,h,Bool.false_or,Int.toNat_natCast]⟩⟩,fun h=>by simp only[decide_eq_true_eq]at h;omega,fun h=>⟨⟨Int.le_refl _,by omega⟩,rfl⟩⟩
  ·have hv:vOK s=false:=by unfold vOK;rw[<-hb3,h];simp
   rw[if_neg (by rw[hv];simp)]
  ·have h3:3<=s.size:=by
    rcases Nat.lt_or_ge s.size 3 with h4|h4
    ·rw[f4q s h4,h]at hb3;cases hb3
    ·exact h4
   have hv:vOK s=true:=by unfold vOK;rw[<-hb3,h,decide_eq_true h3];rfl
   rw[if_pos hv,hw];refine⟨by omega,?_⟩;rw[Int.toNat_natCast];rfl
  ·rw[hb1]at hb2;unfold noV;rw[<-hb2,h];rfl
  ·rw[hw,Int.toNat_natCast];have:=b24 s;unfold c8e at this;show(s.extract 1 (s.size - 1)).size<=_;omega
  ·rw[hb1]at hb2;unfold noV;rw[<-hb2,h,Bool.false_or,hw,Int.toNat_natCast];rfl
theorem n47(s:ByteArray)(hs:s.size<=1048576):X3 s (if vOK s=true then c8e s else⟨#[]⟩):=by
 by_cases h2:s.size<3
 ·have hv:vOK s=false:=by unfold vOK;rw[decide_eq_false (by omega)];rfl
  rw[if_neg (by rw[hv];simp)];refine a4h _ _ ⟨fun b=>b=true,fun b1 hb1=>⟨fun b=>b=true,fun b2 hb2=>⟨fun b=>b=true,fun b3 hb3=>⟨fun _=>rfl,fun h=>by rw[hb3]at h;cases h⟩,fun _=>rfl,fun h=>by rw[hb2]at h;cases h⟩,fun _=>rfl,fun h=>by rw[hb1]at h;cases h⟩,fun _=>rfl,fun h=>?_⟩;simp only[decide_eq_false_iff_not]at h;omega
 ·have hw:wI ((s.size:Int) - 1)=((s.size - 1:Nat):Int):=by rw[a3y (by omega)];omega
  refine a4h _ _ ⟨fun b=>b=(C7 s 0 !=123),fun b1 hb1=>⟨fun b=>b=(b1||(C7 s (s.size - 1) !=125)),fun b2 hb2=>⟨fun b=>b=noV s,fun b3 hb3=>⟨fun h=>?_,fun h=>?_⟩,fun h=>?_,fun h=>⟨by rw[hw];omega,_,c8q _ ?_,?_⟩⟩,fun h=>by rw[h,Bool.true_or],fun h=>⟨by rw[hw];omega,by rw[hw,h,Bool.false_or,Int.toNat_natCast]⟩⟩,fun h=>by simp only[decide_eq_true_eq]at h;omega,fun h=>⟨⟨Int.le_refl _,by omega⟩,rfl⟩⟩
  ·have hv:vOK s=false:=by unfold vOK;rw[<-hb3,h];simp
   rw[if_neg (by rw[hv];simp)]
  ·have hv:vOK s=true:=by unfold vOK;rw[<-hb3,h,decide_eq_true (by omega)];rfl
   rw[if_pos hv,hw];refine⟨by omega,?_⟩;rw[Int.toNat_natCast];rfl
  ·rw[hb1]at hb2;unfold noV;rw[<-hb2,h];rfl
  ·rw[hw,Int.toNat_natCast];have:=b24 s;unfold c8e at this;show(s.extract 1 (s.size - 1)).size<=_;omega
  ·rw[hb1]at hb2;unfold noV;rw[<-hb2,h,Bool.false_or,hw,Int.toNat_natCast];rfl
theorem e5t(s:ByteArray)(h:vOK s=true):c8e s≠⟨#[]⟩:=fun he=>by
 unfold vOK at h;simp only[Bool.and_eq_true,decide_eq_true_eq]at h;have h1:=b24 s;rw[he]at h1;have:(⟨#[]⟩:ByteArray).size=0:=rfl;omega
def b2q(s:ByteArray):Bool:=vOK s||d4r s
def a58(s:ByteArray):List ByteArray × Bool:=if(a7e s).2=true/\(a7e s).1.length<=8/\(a7e s).1.all b2q=true then((a7e s).1,true) else([],false)
theorem c9n:∀l:List UInt8,(a95 l).length<=l.length+1/\∀x∈a95 l,x.length<=l.length
 |[]=>by simp[a95]
 |c::r=>by
  obtain⟨h1,h2⟩:=c9n r;unfold a95;split
  ·refine⟨by simp;omega,fun x hx=>?_⟩;rcases List.mem_cons.1 hx with rfl|hx
   ·simp
   ·have:=h2 x hx;simp;omega
  ·split
   ·simp
   ·rename_i h t he;rw[he]at h1 h2;refine⟨by simp at h1 ⊢;omega,fun x hx=>?_⟩;rcases List.mem_cons.1 hx with rfl|hx
    ·have:=h2 h (by simp);simp;omega
    ·have:=h2 x (by simp[hx]);simp;omega
theorem c30(s:ByteArray):(a7e s).1.length<=s.size+1/\∀x∈(a7e s).1,x.size<=s.size:=by
 unfold a7e;split
 ·obtain⟨h1,h2⟩:=c9n (s.data.toList.drop 1);simp only[List.length_drop,b7o]at h1 h2;refine⟨by simp only[List.length_map];omega,fun x hx=>?_⟩;obtain⟨y,hy,rfl⟩:=List.mem_map.1 hx;rw[I1];have:=h2 y hy;omega
 ·exact⟨by simp,fun x hx=>by simp at hx⟩
theorem e12(mg:Int)(L:List ByteArray)(hl:∀x∈L,x.size<=1048576)(hL:L.length<=8)(y:Bool):∀(k i:Nat),i+k=L.length->N1 i (L,y) mg (if(L.drop i).all b2q=true then(L,true) else([],false))
 |0,i,hk=>by
  refine a09 _ _ _ _ ⟨fun h=>by simp only[decide_eq_true_eq]at h;omega,fun _=>?_⟩;rw[List.drop_eq_nil_of_le (by omega)];rfl
 |k+1,i,hk=>by
  have hi:i<L.length:=by omega
  have hw:wI ((i:Int)+1)=((i+1:Nat):Int):=by rw[a3y (by omega)];omega
  have hz:=hl _ (List.getElem_mem hi);refine a09 _ _ _ _ ⟨fun h=>⟨L[i],by rw[Int.toNat_natCast];exact List.getElem?_eq_getElem hi,by omega,_,o2l mg _ hz,?_⟩,fun h=>by simp only[decide_eq_false_iff_not]at h;omega⟩;rw[hw,List.drop_eq_getElem_cons hi,List.all_cons];have ih:=e12 mg L hl hL y k (i+1) (by omega);cases hv:vOK L[i]with
  |true=>
   have:b2q L[i]=true:=by unfold b2q;rw[hv];rfl
   rw[if_pos rfl,this,Bool.true_and];exact⟨fun h=>by simp at h,fun _=>ih⟩
  |false=>
   rw[if_neg (by simp)];refine⟨fun _=>⟨_,m0r _ hz,fun h=>?_,fun h=>?_⟩,fun h=>by simp at h⟩
   ·have:b2q L[i]=false:=by unfold b2q;rw[hv];simpa using h
    rw[this];simp
   ·have:b2q L[i]=true:=by unfold b2q;rw[hv];simpa using h
    rw[this,Bool.true_and];exact ih
theorem l9r(mg:Int)(s:ByteArray)(hs:s.size<=1048576):P2 mg s (a58 s):=by
 refine a97 _ _ _ ⟨_,m4n s hs,fun h=>?_,fun h=>?_⟩
 ·unfold a58;rw[if_neg (fun hc=>?_)];simp only[Bool.or_eq_true,Bool.not_eq_true',decide_eq_true_eq]at h;rcases h with h|h
  ·rw[hc.1]at h;cases h
  ·omega
 ·simp only[Bool.or_eq_false_iff,Bool.not_eq_false',decide_eq_false_iff_not]at h;have h8:(a7e s).1.length<=8:=by omega
  have:=e12 mg (a7e s).1 (fun x hx=>Nat.le_trans ((c30 s).2 x hx) hs) h8 (a7e s).2 _ 0 (Nat.zero_add _);rw[List.drop_zero]at this;unfold a58
  by_cases ha:(a7e s).1.all b2q=true
  ·rw[if_pos ha]at this;rw[if_pos ⟨h.1,h8,ha⟩];exact this
  ·rw[if_neg ha]at this;rw[if_neg (fun hc=>ha hc.2.2)];exact this
theorem e38(L:List ByteArray)(hl:∀x∈L,x.size<=1048576)(hL:L.length<=8)(y:Bool):∀(k i:Nat),i+k=L.length->Y3 i (L,y) (if(L.drop i).all b2q=true then(L,true) else([],false))
 |0,i,hk=>by
  refine a2l _ _ _ ⟨fun h=>by simp only[decide_eq_true_eq]at h;omega,fun _=>?_⟩;rw[List.drop_eq_nil_of_le (by omega)];rfl
 |k+1,i,hk=>by
  have hi:i<L.length:=by omega
  have hw:wI ((i:Int)+1)=((i+1:Nat):Int):=by rw[a3y (by omega)];omega
  have hz:=hl _ (List.getElem_mem hi);have hget:L[((i:Int)).toNat]? =some L[i]:=by rw[Int.toNat_natCast];exact List.getElem?_eq_getElem hi
  refine a2l _ _ _ ⟨fun h=>⟨L[i],hget,by omega,_,m7r _ hz,fun b=>b= !(b2q L[i]),fun b hb=>⟨fun h=>?_,fun h=>?_⟩,fun h=>⟨L[i],hget,by omega,_,n47 _ hz,?_⟩,fun h=>?_⟩,fun h=>by simp only[decide_eq_false_iff_not]at h;omega⟩
  ·rw[hb]at h;simp only[Bool.not_eq_true']at h;rw[List.drop_eq_getElem_cons hi,List.all_cons,h];simp
  ·rw[hb]at h;simp only[Bool.not_eq_false']at h;rw[hw,List.drop_eq_getElem_cons hi,List.all_cons,h,Bool.true_and];exact e38 L hl hL y k (i+1) (by omega)
  ·simp only[Bool.not_eq_true']at h;unfold b2q;rw[h,Bool.or_false];cases hv:vOK L[i]with
   |true=>rw[if_pos rfl,decide_eq_false (e5t _ hv)];rfl
   |false=>rw[if_neg (by simp),decide_eq_true rfl];rfl
  ·simp only[Bool.not_eq_false']at h;unfold b2q;rw[h,Bool.or_true];rfl
theorem m8h(s:ByteArray)(hs:s.size<=1048576):a1e s (a58 s):=by
 refine b3m _ _ ⟨_,n0g s hs,fun h=>?_,fun h=>?_⟩
 ·unfold a58;rw[if_neg (fun hc=>?_)];simp only[Bool.or_eq_true,Bool.not_eq_true',decide_eq_true_eq]at h;rcases h with h|h
  ·rw[hc.1]at h;cases h
  ·omega
 ·simp only[Bool.or_eq_false_iff,Bool.not_eq_false',decide_eq_false_iff_not]at h;have h8:(a7e s).1.length<=8:=by omega
  have:=e38 (a7e s).1 (fun x hx=>Nat.le_trans ((c30 s).2 x hx) hs) h8 (a7e s).2 _ 0 (Nat.zero_add _);rw[List.drop_zero]at this;unfold a58
  by_cases ha:(a7e s).1.all b2q=true
  ·rw[if_pos ha]at this;rw[if_pos ⟨h.1,h8,ha⟩];exact this
  ·rw[if_neg ha]at this;rw[if_neg (fun hc=>ha hc.2.2)];exact this
theorem a39(s:ByteArray):(a58 s).1.length<=8/\∀x∈(a58 s).1,x.size<=s.size:=by
 unfold a58;split
 ·rename_i h;exact⟨h.2.1,(c30 s).2⟩
 ·exact⟨by simp,fun x hx=>by simp at hx⟩
theorem o2u(L:List B4)(hL:L.length<=70):∀(k i:Nat),i+k=L.length->∃b,a13 i L b/\(b=true->∀x∈L.drop i,x.Path.size<=300/\x.Service.size<=300/\x.Method.size<=300/\x.Body.size<=300)
 |0,i,hk=>by
  refine⟨true,a4d _ _ _ ⟨fun h=>by simp only[decide_eq_true_eq]at h;omega,fun _=>rfl⟩,fun _ x hx=>?_⟩;rw[List.drop_eq_nil_of_le (by omega)]at hx;cases hx
 |k+1,i,hk=>by
  have hi:i<L.length:=by omega
  have hw:wI ((i:Int)+1)=((i+1:Nat):Int):=by rw[a3y (by omega)];omega
  have hget:L[((i:Int)).toNat]? =some L[i]:=by rw[Int.toNat_natCast];exact List.getElem?_eq_getElem hi
  obtain⟨b,ih,hb⟩:=o2u L hL k (i+1) (by omega);have big:Bool:=false
  let c4:=decide (300<(L[i].Verb.size:Int))||decide (300<(L[i].Path.size:Int))
  let c5:=c4||decide (300<(L[i].Service.size:Int))
  let c6:=c5||decide (300<(L[i].Method.size:Int))
  let c7:=c6||decide (300<(L[i].Body.size:Int))
  refine⟨if c7=true then false else b,a4d _ _ _ ⟨fun h=>⟨_,hget,by omega,fun z=>z=c4,fun b4 h4=>⟨fun z=>z=c5,fun b5 h5=>⟨fun z=>z=c6,fun b6 h6=>⟨fun h=>?_,fun h=>⟨_,hget,by omega,fun h9=>?_,fun h9=>?_⟩⟩,fun h=>?_,fun h=>⟨_,hget,by omega,?_⟩⟩,fun h=>?_,fun h=>⟨_,hget,by omega,?_⟩⟩,fun h=>?_,fun h=>⟨_,hget,by omega,?_⟩⟩,fun h=>by simp only[decide_eq_false_iff_not]at h;omega⟩,fun h x hx=>?_⟩
  ·have:c7=true:=by show(c6||_)=true;rw[<-h6,h];rfl
   rw[if_pos this]
  ·have:c7=true:=by show(c6||_)=true;rw[h9,Bool.or_true]
   rw[if_pos this]
  ·have:c7=false:=by show(c6||_)=false;rw[<-h6,h,h9];rfl
   rw[if_neg (by rw[this];simp),hw];exact ih
  ·show true=(c5||_);rw[<-h5,h];rfl
  ·show _=(c5||_);rw[<-h5,h];rfl
  ·show true=(c4||_);rw[<-h4,h];rfl
  ·show _=(c4||_);rw[<-h4,h];rfl
  ·show true=(decide (300<(L[i].Verb.size:Int))||_);rw[h];rfl
  ·show _=(decide (300<(L[i].Verb.size:Int))||_);rw[h];rfl
  ·have h7:c7=false:=by
    cases hc:c7 with
    |false=>rfl
    |true=>rw[if_pos hc]at h;cases h
   rw[if_neg (by rw[h7];simp)]at h;rw[List.drop_eq_getElem_cons hi]at hx;rcases List.mem_cons.1 hx with rfl|hx
   ·have:((((decide (300<(L[i].Verb.size:Int))||decide (300<(L[i].Path.size:Int)))||decide (300<(L[i].Service.size:Int)))||decide (300<(L[i].Method.size:Int)))||decide (300<(L[i].Body.size:Int)))=false:=h7;simp only[Bool.or_eq_false_iff,decide_eq_false_iff_not]at this;omega
   ·exact hb h x hx
theorem d7m(L:List B4):∃b,b0z L b/\(b=true->L.length<=70/\∀x∈L,x.Path.size<=300/\x.Service.size<=300/\x.Method.size<=300/\x.Body.size<=300):=by
 by_cases h:L.length<=70
 ·obtain⟨b,h1,h2⟩:=o2u L h _ 0 (Nat.zero_add _);refine⟨b,a7s _ _ ⟨fun hh=>by simp only[decide_eq_true_eq]at hh;omega,fun _=>h1⟩,fun hb=>⟨h,?_⟩⟩;have:=h2 hb;rw[List.drop_zero]at this;exact this
 ·exact⟨false,a7s _ _ ⟨fun _=>rfl,fun hh=>by simp only[decide_eq_false_iff_not]at hh;omega⟩,fun hb=>by cases hb⟩
def h36:List ByteArray->List ByteArray->Bool
 |x::xs,y::ys=> !(d4r x&&d4r y&& !(decide (x=y)))&&h36 xs ys
 |_,_=>true
def ovl(a b:B4):Bool:=decide (a.Verb=b.Verb)&&decide ((a58 a.Path).1.length=(a58 b.Path).1.length)&&h36 (a58 a.Path).1 (a58 b.Path).1
theorem U4{i:Nat}(h:i<=4611686018427387904):wI ((i:Int)+1)=((i+1:Nat):Int):=by rw[a3y (by omega)];omega
theorem c1i{α:Type}{J:Int->α × Bool->Prop}{E:α × Bool->Prop}{C:α->Bool->Prop}(f:α->Bool)(s:List α)(r:α × Bool)
  (c06:∀(i:Int),((decide (i<(s.length:Int)))=true->∃y3,s[i.toNat]? =some y3/\0<=i/\(∃y4,C y3 y4/\((y4=true->∃y5,s[i.toNat]? =some y5/\0<=i/\r=(y5,true))/\(y4=false->J (wI (i+1)) r))))/\((decide (i<(s.length:Int)))=false->E r)->J i r)
  (hs:Sz s.length) (hC:∀x∈s,C x (f x)) (hr:∀x,s.find? f=some x->r=(x,true)) (hn:s.find? f=none->E r):J 0 r:=by
 unfold Sz at hs
 have key:∀(d i:Nat),s.length - i<=d->i<=s.length->(∀x,(s.drop i).find? f=some x->r=(x,true))->((s.drop i).find? f=none->E r)->J i r:=by
  intro d
  induction d with
  |zero=>
   intro i hd hi _ k2;exact c06 _ ⟨fun h=>by simp at h;omega,fun _=>k2 (by rw[List.drop_eq_nil_of_le (by omega)];rfl)⟩
  |succ d ih=>
   intro i hd hi k1 k2;rcases Nat.lt_or_ge i s.length with hlt|hge
   ·have e1:=U4 (i:=i) (by omega);have dl:s.drop i=s[i]::s.drop (i+1):=List.drop_eq_getElem_cons hlt;have hget:s[((i:Int)).toNat]? =some s[i]:=by simp
    rw[dl,List.find?_cons]at k1 k2;refine c06 _ ⟨fun _=>⟨s[i],hget,by omega,_,hC _ (List.getElem_mem _),fun h=>⟨s[i],hget,by omega,?_⟩,fun h=>?_⟩,fun h=>by simp at h;omega⟩
    ·rw[h]at k1;exact k1 _ rfl
    ·rw[e1];rw[h]at k1 k2;exact ih (i+1) (by omega) (by omega) k1 k2
   ·exact c06 _ ⟨fun h=>by simp at h;omega,fun _=>k2 (by rw[List.drop_eq_nil_of_le hge];rfl)⟩
 exact key s.length 0 (by omega) (by omega) (by simpa using hr) (by simpa using hn)
def fsT{α:Type}(f:α->Bool)(z:α)(l:List α):α × Bool:=match l.find? f with|some x=>(x,true)|none=>(z,false)
theorem c5g{α:Type}{J:Int->α × Bool->Prop}{C:α->Bool->Prop}(f:α->Bool)(z:α)(s:List α)
  (c06:∀(i:Int) r,((decide (i<(s.length:Int)))=true->∃y3,s[i.toNat]? =some y3/\0<=i/\(∃y4,C y3 y4/\((y4=true->r=(y3,true))/\(y4=false->J (wI (i+1)) r))))/\((decide (i<(s.length:Int)))=false->r=(z,false))->J i r)
  (hs:Sz s.length) (hC:∀x∈s,C x (f x)):J 0 (fsT f z s):=by
 refine c1i (E:=fun r=>r=(z,false)) (C:=C) f s _ (fun i hw=>c06 i _ ⟨fun h=>?_,hw.2⟩) hs hC (fun x hx=>?_) fun hx=>?_
 ·obtain⟨y3,h1,h2,y4,h3,h4,h5⟩:=hw.1 h;refine⟨y3,h1,h2,y4,h3,fun h=>?_,h5⟩;obtain⟨y5,g1,_,g2⟩:=h4 h;rw[h1]at g1;cases g1;exact g2
 ·unfold fsT;rw[hx]
 ·unfold fsT;rw[hx]
theorem d1t{α:Type}{f:α->Bool}{z:α}{l:List α}{T:α->Prop}(hz:T z)(hl:∀x∈l,T x):T (fsT f z l).1:=by
 unfold fsT;split
 ·rename_i x hx;exact hl _ (List.mem_of_find?_eq_some hx)
 ·exact hz
theorem c1j{α:Type}{J:Int->Int->Prop}{C:α->Bool->Prop}(f:α->Bool)(s:List α)
  (c06:∀(i r:Int),((decide (i<(s.length:Int)))=true->∃y3,s[i.toNat]? =some y3/\0<=i/\(∃y4,C y3 y4/\((y4=true->r=i)/\(y4=false->J (wI (i+1)) r))))/\((decide (i<(s.length:Int)))=false->r=(-1))->J i r)
  (hs:Sz s.length) (hC:∀x∈s,C x (f x)):∃k,J 0 k/\((k<0/\s.find? f=none)\/∃x,0<=k/\s[k.toNat]? =some x/\s.find? f=some x):=by
 unfold Sz at hs
 have key:∀(d i:Nat),s.length - i<=d->i<=s.length->∃k,J i k/\((k<0/\(s.drop i).find? f=none)\/∃x,0<=k/\s[k.toNat]? =some x/\(s.drop i).find? f=some x):=by
  intro d
  induction d with
  |zero=>
   intro i hd hi;exact⟨-1,c06 _ _ ⟨fun h=>by simp at h;omega,fun _=>rfl⟩,.inl ⟨by omega,by rw[List.drop_eq_nil_of_le (by omega)];rfl⟩⟩
  |succ d ih=>
   intro i hd hi;rcases Nat.lt_or_ge i s.length with hlt|hge
   ·have e1:=U4 (i:=i) (by omega);have dl:s.drop i=s[i]::s.drop (i+1):=List.drop_eq_getElem_cons hlt;have hget:s[((i:Int)).toNat]? =some s[i]:=by simp
    rw[dl,List.find?_cons];cases hf:f s[i]with
    |true=>
     exact⟨i,c06 _ _ ⟨fun _=>⟨s[i],hget,by omega,_,hC _ (List.getElem_mem _),fun _=>rfl,fun h=>by rw[hf]at h;cases h⟩,fun h=>by simp at h;omega⟩,.inr ⟨s[i],by omega,hget,rfl⟩⟩
    |false=>
     obtain⟨k,h1,h2⟩:=ih (i+1) (by omega) (by omega);exact⟨k,c06 _ _ ⟨fun _=>⟨s[i],hget,by omega,_,hC _ (List.getElem_mem _),fun h=>(by rw[hf]at h;cases h),fun _=>by rw[e1];exact h1⟩,fun h=>by simp at h;omega⟩,h2⟩
   ·exact⟨-1,c06 _ _ ⟨fun h=>by simp at h;omega,fun _=>rfl⟩,.inl ⟨by omega,by rw[List.drop_eq_nil_of_le hge];rfl⟩⟩
 simpa using key s.length 0 (by omega) (by omega)
theorem c9b{α:Type}{f:α->Bool}{s:List α}{k:Int}(h:(k<0/\s.find? f=none)\/∃x,0<=k/\s[k.toNat]? =some x/\s.find? f=some x):decide (0<=k)=s.any f:=by
 rcases h with⟨h1,h2⟩|⟨x,h1,_,h2⟩
 ·rw[decide_eq_false (by omega)];symm;rw[List.any_eq_false];exact List.find?_eq_none.1 h2
 ·rw[decide_eq_true h1];symm;rw[List.any_eq_true];exact⟨x,List.mem_of_find?_eq_some h2,List.find?_some h2⟩
abbrev gfS(n:Nat)(name:ByteArray):GFn:=⟨n,[],[.elt [.v (.string name)] 0],by simp[plainL,plain]⟩
def v0:B6:=⟨0,0,⟨#[]⟩,[],[],[],[]⟩
def zF:A5:=⟨0,⟨#[]⟩,0,0,⟨0,⟨#[]⟩⟩,⟨#[]⟩,false,v0,[]⟩
def zM:A9:=⟨⟨#[]⟩,[],[],[],[]⟩
def zMe:C8:=⟨⟨#[]⟩,⟨#[]⟩,⟨#[]⟩,0,[]⟩
def zS:C4:=⟨⟨#[]⟩,[],[]⟩
def c35(s:A2)(name:ByteArray):A9 × Bool:=fsT (fun m:A9=>decide (m.Name=name)) zM s.Messages
def d50(s:A2)(name:ByteArray):C4 × Bool:=fsT (fun m:C4=>decide (m.Name=name)) zS s.Services
theorem d5l(s:A2)(hs:a0i s)(name:ByteArray):a2f s name (c35 s name):=
 b4v _ _ _ ⟨_,a69 _ _ _ (c5g (J:=fun i r=>N3 i s.Messages _ r) (fun m:A9=>decide (m.Name=name)) zM s.Messages (fun i r hw=>a41 _ _ _ _ hw) hs.nm fun x hx=>b3i x name _ (b1p _ _ _ rfl)),rfl⟩
theorem i24(s:A2)(hs:a0i s)(name:ByteArray):a8x s name (d50 s name):=
 b5t _ _ _ ⟨_,a7g _ _ _ (c5g (J:=fun i r=>M9 i s.Services _ r) (fun m:C4=>decide (m.Name=name)) zS s.Services (fun i r hw=>a42 _ _ _ _ hw) hs.ns fun x hx=>b3h x name _ (b1j _ _ _ rfl)),rfl⟩
theorem c7p(s:A2)(hs:a0i s)(name:ByteArray):a05 s name (c35 s name):=
 b2w _ _ _ (c1i (J:=fun i r=>Z1 i name s r) (E:=fun r=>r=(zM,false)) (C:=fun y b=>b=decide (y.Name=name)) (fun m:A9=>decide (m.Name=name)) s.Messages _ (fun i hw=>a80 _ _ _ _ ⟨fun h=>by
  obtain⟨y3,h1,h2,y4,rfl,h4⟩:=hw.1 h;exact⟨y3,h1,h2,h4⟩,hw.2⟩) hs.nm (fun _ _=>rfl) (fun x hx=>by unfold c35 fsT;rw[hx]) fun hx=>by unfold c35 fsT;rw[hx])
theorem g2i(s:A2)(hs:a0i s)(name:ByteArray):a64 s name (d50 s name):=
 b3d _ _ _ (c1i (J:=fun i r=>Y5 i name s r) (E:=fun r=>r=(zS,false)) (C:=fun y b=>b=decide (y.Name=name)) (fun m:C4=>decide (m.Name=name)) s.Services _ (fun i hw=>a85 _ _ _ _ ⟨fun h=>by
  obtain⟨y3,h1,h2,y4,rfl,h4⟩:=hw.1 h;exact⟨y3,h1,h2,h4⟩,hw.2⟩) hs.ns (fun _ _=>rfl) (fun x hx=>by unfold d50 fsT;rw[hx]) fun hx=>by unfold d50 fsT;rw[hx])
theorem b1y.zero:b1y zM:=⟨Nat.zero_le _,Nat.zero_le _,fun _ h=>(by cases h),Nat.zero_le _,fun _ h=>(by cases h),Nat.zero_le _,fun _ h=>(by cases h),Nat.zero_le _,fun _ h=>(by cases h)⟩
theorem b3j.zero:b3j zS:=⟨Nat.zero_le _,Nat.zero_le _,fun _ h=>(by cases h),Nat.zero_le _,fun _ h=>(by cases h)⟩
theorem b5m{s:A2}(hs:a0i s)(name:ByteArray):b1y (c35 s name).1:=d1t .zero hs.msgs
theorem d3s{s:A2}(hs:a0i s)(name:ByteArray):b3j (d50 s name).1:=d1t .zero hs.servs
def c2m(l:List D7)(name:ByteArray):B6 × Bool:=match l.find? (fun n=>decide (n.Name=name)) with|some n=>(n.Val,true)|none=>(v0,false)
theorem e0b(l:List D7)(hl:Sz l.length)(name:ByteArray):b8t l name (c2m l name):=by
 obtain⟨k,h1,h2⟩:=c1j (J:=fun i r=>H4 i l (gfS 345 name) r) (fun n:D7=>decide (n.Name=name)) l (fun i r hw=>Z8 _ _ _ _ hw) hl fun x hx=>b6u x name _ (b5o _ _ _ rfl)
 refine c05 _ _ _ ⟨k,b9o _ _ _ ⟨_,a1j _ _ _ h1,rfl⟩,fun h=>?_,fun h=>?_⟩
 ·rcases h2 with⟨_,h2⟩|⟨x,h2,_⟩
  ·unfold c2m;rw[h2];rfl
  ·simp at h;omega
 ·rcases h2 with⟨h2,_⟩|⟨x,h2,h3,h4⟩
  ·simp at h;omega
  ·exact⟨x,h3,h2,by unfold c2m;rw[h4]⟩
theorem d4a(l:List D7)(hl:Sz l.length)(name:ByteArray):b5g l name (c2m l name):=by
 obtain⟨k,h1,h2⟩:=c1j (J:=fun i r=>a14 i l name r) (C:=fun y b=>b=decide (y.Name=name)) (fun n:D7=>decide (n.Name=name)) l (fun i r hw=>b18 _ _ _ _ ⟨fun h=>by
  obtain⟨y3,h1,h2,y4,rfl,h4⟩:=hw.1 h;exact⟨y3,h1,h2,h4⟩,hw.2⟩) hl fun x hx=>rfl
 refine b7l _ _ _ ⟨k,b6p _ _ _ h1,fun h=>?_,fun h=>?_⟩
 ·rcases h2 with⟨_,h2⟩|⟨x,h2,_⟩
  ·unfold c2m;rw[h2];rfl
  ·simp at h;omega
 ·rcases h2 with⟨h2,_⟩|⟨x,h2,h3,h4⟩
  ·simp at h;omega
  ·exact⟨x,h3,h2,by unfold c2m;rw[h4]⟩
def c80(l:List D7)(name:ByteArray):Bool:=((c2m l ⟨#[97,108,105,97,115]⟩).2&&((c2m l ⟨#[97,108,105,97,115]⟩).1.Kind==7))&&decide ((c2m l ⟨#[97,108,105,97,115]⟩).1.Text=name)
def b3a(m:A9)(name:ByteArray):A5 × Bool:=
 match m.Fields.find? (fun f=>decide (f.Name=name)) with
 |some x=>(x,true)
 |none=>fsT (fun f=>c80 f.Notes name) zF m.Fields
theorem d30(m:A9)(hm:b1y m)(name:ByteArray):a03 m name (b3a m name):=by
 have h1:=c5g (J:=fun i r=>L9 i m.Fields (gfS 198 name) r) (fun f:A5=>decide (f.Name=name)) zF m.Fields (fun i r hw=>a0d _ _ _ _ hw) hm.nf fun x hx=>a8j x name _ (a75 _ _ _ rfl)
 have h2:=c5g (J:=fun i r=>L9 i m.Fields (gfS 199 name) r) (fun f:A5=>c80 f.Notes name) zF m.Fields (fun i r hw=>a0d _ _ _ _ hw) hm.nf fun x hx=>a8l x name _ (a72 _ _ _ ⟨_,b4r _ _ _ ⟨_,e0b _ (hm.fields x hx).nn _,rfl⟩,rfl⟩)
 refine a92 _ _ _ ⟨_,a2t _ _ _ h1,fun h=>?_,fun h=>⟨_,a2t _ _ _ h2,?_⟩⟩
 ·unfold fsT at h ⊢;unfold b3a;cases hf:m.Fields.find? (fun f:A5=>decide (f.Name=name)) with
  |some x=>rfl
  |none=>rw[hf]at h;cases h
 ·unfold b3a;unfold fsT at h;cases hf:m.Fields.find? (fun f:A5=>decide (f.Name=name)) with
  |some x=>rw[hf]at h;cases h
  |none=>rfl
theorem c6k(m:A9)(hm:b1y m)(name:ByteArray):Y8 m name (b3a m name):=by
 refine a83 _ _ _ (c1i (J:=fun i r=>P5 i name m r) (E:=fun r=>L6 0 name m r) (C:=fun y b=>b=decide (y.Name=name)) (fun f:A5=>decide (f.Name=name)) m.Fields _ (fun i hw=>a6f _ _ _ _ ⟨fun h=>by
  obtain⟨y3,h1,h2,y4,rfl,h4⟩:=hw.1 h;exact⟨y3,h1,h2,h4⟩,hw.2⟩) hm.nf (fun _ _=>rfl) (fun x hx=>by unfold b3a;rw[hx]) fun hx=>?_)
 have e:b3a m name=fsT (fun f:A5=>c80 f.Notes name) zF m.Fields:=by unfold b3a;rw[hx]
 rw[e];exact c1i (J:=fun i r=>L6 i name m r) (E:=fun r=>r=(zF,false)) (C:=fun y b=>b1w y.Notes name b) (fun f:A5=>c80 f.Notes name) m.Fields _ (fun i hw=>a6n _ _ _ _ hw) hm.nf (fun x hx=>b57 _ _ _ ⟨_,d4a _ (hm.fields x hx).nn _,rfl⟩) (fun x hx=>by unfold fsT;rw[hx]) fun hx=>by unfold fsT;rw[hx]
def X8(c:UInt8):List UInt8->List UInt8 × List UInt8 × Bool
 |[]=>([],[],false)
 |x::r=>if x=c then([],r,true) else(x::(X8 c r).1,(X8 c r).2.1,(X8 c r).2.2)
def a11(c:UInt8)(s:ByteArray):ByteArray × ByteArray × Bool:=(D2 (X8 c s.data.toList).1,D2 (X8 c s.data.toList).2.1,(X8 c s.data.toList).2.2)
theorem c3u(c:UInt8):∀l,(X8 c l).1.length<=l.length/\(X8 c l).2.1.length<=l.length/\((X8 c l).2.2=true->(X8 c l).2.1.length<l.length)
 |[]=>by simp[X8]
 |x::r=>by
  obtain⟨h1,h2,h3⟩:=c3u c r;unfold X8;split
  ·simp
  ·simp only[List.length_cons];exact⟨by omega,by omega,fun h=>by have:=h3 h;omega⟩
theorem c7a(c:UInt8):∀l,(X8 c l).2.2=false->(X8 c l).1=l/\(X8 c l).2.1=[]
 |[],_=>by simp[X8]
 |x::r,h=>by
  unfold X8 at h ⊢;split at h
  ·cases h
  ·rename_i hx;rw[if_neg hx];obtain⟨h1,h2⟩:=c7a c r h;exact⟨by rw[h1],h2⟩
theorem d3r(c:UInt8):∀l:List UInt8,Lib.cut l [c]=X8 c l
 |[]=>by
  have h:Lib.index ([]:List UInt8) [c]= -1:=by unfold Lib.index;simp
  unfold Lib.cut;rw[h,if_neg (by omega)];rfl
 |x::r=>by
  have ih:=d3r c r
  by_cases hc:x=c
  ·subst hc;have hi:Lib.index (x::r) [x]=0:=by unfold Lib.index;simp
   unfold Lib.cut;rw[hi,if_pos (by omega)];unfold X8;rw[if_pos rfl];simp
  ·have hi:Lib.index (x::r) [c]=if Lib.index r [c]== -1 then -1 else Lib.index r [c]+1:=by
    rw[Lib.index];rw[if_neg (by simp[Ne.symm hc])]
   unfold X8;rw[if_neg hc,<-ih];unfold Lib.cut;have h0:=Lib.index_ge r [c]
   by_cases hm:Lib.index r [c]= -1
   ·rw[hi,hm];simp
   ·obtain⟨i,hii⟩:∃i:Nat,Lib.index r [c]=i:=⟨(Lib.index r [c]).toNat,by omega⟩
    have e1:¬(((i:Int)== -1)=true):=by rw[beq_iff_eq];omega
    rw[hi,hii,if_neg e1,if_pos (by omega),if_pos (by omega)];have e2:((i:Int)+1).toNat=i+1:=by omega
    simp[e2,Nat.add_right_comm]
theorem d1a(w:World)(n:Nat):a54 w (w.drewN n):=⟨Nat.le_refl _,fun _ _=>rfl,rfl,rfl,rfl⟩
theorem e6b(mg:Int)(s:ByteArray)(hs:s.size<=1048576):strings_Cut mg s ⟨#[47]⟩ (a11 47 s):=by
 refine⟨⟨_,Tryz.func79,by kernel_rfl,by kernel_rfl⟩,fun w outer cargs ho hg hr=>?_⟩;rw[c8s hr];refine(Tryz.strings_Cut s ⟨#[47]⟩ mg w (by omega) (c2d hg)).mono fun e w' ⟨he,n,hw⟩=>?_
 have hc:Lib.cut s.data.toList (⟨#[47]⟩:ByteArray).data.toList=X8 47 s.data.toList:=d3r 47 s.data.toList;rw[hc]at he;refine⟨.tuple [.v (.string (a11 47 s).1),.v (.string (a11 47 s).2.1),.v (.bool (a11 47 s).2.2)],_,he,by rw[hw];exact d1a w n,?_,rfl⟩;refine Rel.tuple_mk rfl fun i av hi=>?_
 match i,hi with
 |0,hi=>simp at hi;subst hi;exact⟨_,rfl,.v _ rfl⟩
 |1,hi=>simp at hi;subst hi;exact⟨_,rfl,.v _ rfl⟩
 |2,hi=>simp at hi;subst hi;exact⟨_,rfl,.v _ rfl⟩
theorem e5c(c:UInt8)(s:ByteArray)(hs:s.size<=1048576):∀(k i:Nat),i+k=s.size->a2a i s c.toNat (D2 (s.data.toList.take i++(X8 c (s.data.toList.drop i)).1),D2 (X8 c (s.data.toList.drop i)).2.1,(X8 c (s.data.toList.drop i)).2.2)
 |0,i,hk=>by
  refine a4a _ _ _ _ ⟨fun h=>by simp only[decide_eq_true_eq]at h;omega,fun _=>?_⟩;rw[List.drop_eq_nil_of_le (by rw[b7o];omega),List.take_of_length_le (by rw[b7o];omega)];simp[X8,D2]
 |k+1,i,hk=>by
  have hi:i<s.size:=by omega
  have e1:=U4 (i:=i) (by omega);refine a4a _ _ _ _ ⟨fun h=>⟨by omega,fun h1=>?_,fun h1=>?_⟩,fun h=>by simp only[decide_eq_false_iff_not]at h;omega⟩
  ·simp only[Int.toNat_natCast,T8 s i hi,beq_iff_eq]at h1;have hc:s[i]=c:=UInt8.toNat_inj.1 (by omega);rw[e1];refine⟨by omega,by omega,?_⟩;rw[T1 s i hi];unfold X8;rw[if_pos hc];simp only[Int.toNat_natCast,Int.toNat_zero,List.append_nil];have a1:s.extract 0 i=D2 (s.data.toList.take i):=b0u (by rw[Lib.extract_data];simp[D2])
   have a2:s.extract (i+1) s.size=D2 (s.data.toList.drop (i+1)):=b0u (by
    rw[Lib.extract_data,List.take_of_length_le (by rw[List.length_drop,b7o];omega)];rfl)
   rw[a1,a2]
  ·simp only[Int.toNat_natCast,T8 s i hi,beq_eq_false_iff_ne,ne_eq]at h1;have hc:¬s[i]=c:=fun h=>h1 (by rw[h])
   rw[e1];have:=e5c c s hs k (i+1) (by omega);rw[T1 s i hi];unfold X8;rw[if_neg hc]
   have ht:s.data.toList.take (i+1)=s.data.toList.take i++[s[i]]:=by
    have h':i<s.data.toList.length:=by rw[b7o];exact hi
    rw[List.take_add_one,List.getElem?_eq_getElem h'];rfl
   rw[ht,List.append_assoc]at this;exact this
theorem c7z(c:UInt8)(s:ByteArray)(hs:s.size<=1048576):a7l s c.toNat (a11 c s):=b6o _ _ _ (by
 have:=e5c c s hs s.size 0 (by omega);rw[List.take_zero,List.drop_zero,List.nil_append]at this;exact this)
theorem c6w{c x:UInt8}{r:List UInt8}(h:¬x=c):X8 c (x::r)=(x::(X8 c r).1,(X8 c r).2.1,(X8 c r).2.2):=by rw[X8,if_neg h]
theorem c2n:∀l:List UInt8,a6h l=if(X8 46 l).2.2=true then(X8 46 l).1::a6h (X8 46 l).2.1 else [l]
 |[]=>by simp[a6h,X8]
 |x::r=>by
  by_cases hx:x=46
  ·subst hx;simp[a6h,X8]
  ·have ih:=c2n r;rw[a6h,if_neg hx,ih,c6w hx]
   by_cases h:(X8 46 r).2.2=true
   ·rw[if_pos h,if_pos h]
   ·rw[if_neg h,if_neg h]
def b0o(s:A2)(f:A5):Bool:= !(((f.Type_.Kind !=10)||(f.Card==4))||(f.Card==5))&&(c35 s f.Type_.Name).2
def a67(s:A2):List (List UInt8)->A9->List A5->List A5 × Int
 |[],_,acc=>(acc,0)
 |p::ps,m,acc=>if(b3a m (D2 p)).2=true then(if ps=[] then(acc++[(b3a m (D2 p)).1],0) else if b0o s (b3a m (D2 p)).1=true then a67 s ps (c35 s (b3a m (D2 p)).1.Type_.Name).1 (acc++[(b3a m (D2 p)).1]) else([],12)) else([],8)
def Z5(s:A2)(name path:ByteArray):List A5 × Int:=if path=⟨#[]⟩ then([],1) else if(c35 s name).2=true then a67 s (a6h path.data.toList) (c35 s name).1 [] else([],10)
theorem e7f(mg:Int)(s:A2)(hs:a0i s)(L:List (List UInt8))(hL:L.length<=2097152):∀(k i:Nat) (m:A9) (acc:List A5) (f:A5),i+k=L.length->acc.length=i->acc[i - 1]? =some f->1<=i->
  a5o i (L.map D2) acc s m.Name m.Fields m.Reserved m.Gone m.Notes mg (if L.drop i=[] then(acc,0) else if b0o s f=true then a67 s (L.drop i) (c35 s f.Type_.Name).1 acc else([],12))
 |0,i,m,acc,f,hk,ha,hf,h1=>by
  refine a1r _ _ _ _ _ _ _ _ _ _ _ ⟨fun h=>by simp only[decide_eq_true_eq,List.length_map]at h;omega,fun _=>?_⟩;rw[if_pos (List.drop_eq_nil_of_le (by omega))]
 |k+1,i,m,acc,f,hk,ha,hf,h1=>by
  have hi:i<L.length:=by omega
  have e1:=U4 (i:=i) (by omega);have e2:wI ((i:Int) - 1)=((i - 1:Nat):Int):=by rw[a3y (by omega)];omega
  have dl:L.drop i=L[i]::L.drop (i+1):=List.drop_eq_getElem_cons hi;refine a1r _ _ _ _ _ _ _ _ _ _ _ ⟨fun _=>⟨D2 L[i],by rw[Int.toNat_natCast,List.getElem?_map,List.getElem?_eq_getElem hi];rfl,by omega,fun _=>⟨f,by rw[e2,Int.toNat_natCast];exact hf,by rw[e2];omega,_,d5l s hs _,fun h=>?_,fun h=>?_⟩,fun h=>by simp only[decide_eq_false_iff_not]at h;omega⟩,fun h=>by simp only[decide_eq_false_iff_not,List.length_map]at h;omega⟩
  ·have ho:b0o s f=false:=by unfold b0o;cases hb:(((f.Type_.Kind !=10)||(f.Card==4))||(f.Card==5))<;>rw[hb]at h<;>simp_all
   rw[if_neg (by rw[dl];exact List.cons_ne_nil _ _),if_neg (by rw[ho];exact Bool.noConfusion)]
  ·have ho:b0o s f=true:=by unfold b0o;cases hb:(((f.Type_.Kind !=10)||(f.Card==4))||(f.Card==5))<;>rw[hb]at h<;>simp_all
   rw[if_neg (by rw[dl];exact List.cons_ne_nil _ _),if_pos ho,dl,a67];refine a6j _ _ _ _ _ _ _ _ _ _ _ _ ⟨_,d30 _ (b5m hs _) _,fun h=>?_,fun h=>⟨by simp;omega,?_⟩⟩
   ·rw[if_neg (by simpa using h)]
   ·rw[if_pos (by simpa using h),e1];exact e7f mg s hs L hL k (i+1) (c35 s f.Type_.Name).1 _ _ (by omega) (by simp[ha]) (by rw[List.getElem?_append_right (by omega)];simp[ha]) (by omega)
theorem f58(mg:Int)(s:A2)(hs:a0i s)(name path:ByteArray)(hp:path.size<=1048576):b7q mg s name path (Z5 s name path):=by
 unfold Z5;refine c0u _ _ _ _ _ ⟨fun h=>by rw[if_pos (of_decide_eq_true h)],fun h=>⟨_,d5l s hs name,fun h2=>?_,fun h2=>⟨_,c9h mg path hp,?_⟩⟩⟩
 ·rw[if_neg (of_decide_eq_false h),if_neg (by simpa using h2)]
 ·rw[if_neg (of_decide_eq_false h),if_pos (by simpa using h2)];have hlen:=(b63 path.data.toList).1;rw[b7o]at hlen;have e1:=U4 (i:=0) (by omega);generalize hL:a6h path.data.toList=L at*;cases L with
  |nil=>exact absurd hL (b4o _)
  |cons p ps=>
   rw[a67];refine a1r _ _ _ _ _ _ _ _ _ _ _ ⟨fun _=>⟨D2 p,rfl,by omega,fun h=>by simp at h,fun _=>?_⟩,fun h=>by simp at h⟩;refine a6j _ _ _ _ _ _ _ _ _ _ _ _ ⟨_,d30 _ (b5m hs _) _,fun h=>?_,fun h=>⟨by simp,?_⟩⟩
   ·rw[if_neg (by simpa using h)]
   ·rw[if_pos (by simpa using h)];have:=e7f mg s hs (p::ps) (by omega) ps.length 1 (c35 s name).1 ([]++[(b3a (c35 s name).1 (D2 p)).1]) _ (by simp;omega) rfl rfl (by omega);rw[show wI (0+1)=((1:Nat):Int) from rfl];exact this
theorem f4u(s:A2)(hs:a0i s):∀(n:Nat) (path:ByteArray) (m:A9) (hm:b1y m) (acc:List A5),path.size<=n->n<=1048576->acc.length+path.size<=1048576->
  a3m acc path s m.Name m.Fields m.Reserved m.Gone m.Notes (a67 s (a6h path.data.toList) m acc):=by
 intro n
 induction n with
 |zero=>
  intro path m hm acc hp _ hb;have h0:path=⟨#[]⟩:=e7l (by omega);subst h0;refine a5t _ _ _ _ _ _ _ _ _ ⟨_,c7z 46 _ (by decide),_,c6k m hm _,fun h=>?_,fun h=>⟨by simp;omega,fun h2=>?_,fun h2=>by simp[a11,X8]at h2⟩⟩
  ·show a67 s [[]] m acc=_;have h':(b3a m (D2 [])).2=false:=by simpa using (show(!(b3a m (D2 [])).2)=true from h)
   rw[a67,if_neg (by rw[h'];exact Bool.noConfusion)]
  ·show a67 s [[]] m acc=_;have h':(b3a m (D2 [])).2=true:=by simpa using (show(!(b3a m (D2 [])).2)=false from h)
   rw[a67,if_pos h',if_pos rfl];rfl
 |succ n ih=>
  intro path m hm acc hp hn hb;obtain⟨l1,l2,l3⟩:=c3u 46 path.data.toList;rw[b7o]at l1 l2 l3;refine a5t _ _ _ _ _ _ _ _ _ ⟨_,c7z 46 _ (by omega),_,c6k m hm _,fun h=>?_,fun h=>⟨by simp;omega,fun h2=>?_,fun h2=>⟨fun h3=>?_,fun h3=>⟨_,c7p s hs _,fun h4=>?_,fun h4=>?_⟩⟩⟩⟩
  ·rw[c2n];split
   ·rw[a67,if_neg (by simpa[a11]using h)]
   ·rename_i hc;obtain⟨c1,_⟩:=c7a 46 path.data.toList (by simpa using hc);rw[a67,<-c1,if_neg (by simpa[a11]using h)]
  ·have hc:(X8 46 path.data.toList).2.2=false:=by simpa[a11]using h2
   obtain⟨c1,_⟩:=c7a 46 path.data.toList hc;rw[c2n,if_neg (by rw[hc];simp),a67,<-c1,if_pos (by simpa[a11]using h),if_pos rfl];rfl
  all_goals
   have hc:(X8 46 path.data.toList).2.2=true:=by simpa[a11]using h2
   rw[c2n,if_pos hc,a67,if_pos (by simpa[a11]using h),if_neg (b4o _)]
  ·rw[if_neg];intro ho;unfold b0o at ho;simp only[Bool.and_eq_true,Bool.not_eq_true']at ho;have:=ho.1;rw[show((((b3a m (D2 (X8 46 path.data.toList).1)).1.Type_.Kind !=10)||((b3a m (D2 (X8 46 path.data.toList).1)).1.Card==4))||((b3a m (D2 (X8 46 path.data.toList).1)).1.Card==5))=true from h3]at this;cases this
  ·rw[if_neg];intro ho;unfold b0o at ho;simp only[Bool.and_eq_true,Bool.not_eq_true']at ho;have h5:(c35 s (b3a m (D2 (X8 46 path.data.toList).1)).1.Type_.Name).2=false:=by simpa[a11]using h4
   rw[ho.2]at h5;cases h5
  ·have h5:(c35 s (b3a m (D2 (X8 46 path.data.toList).1)).1.Type_.Name).2=true:=by simpa[a11]using h4
   have ho:b0o s (b3a m (D2 (X8 46 path.data.toList).1)).1=true:=by
    unfold b0o;rw[h5,show((((b3a m (D2 (X8 46 path.data.toList).1)).1.Type_.Kind !=10)||((b3a m (D2 (X8 46 path.data.toList).1)).1.Card==4))||((b3a m (D2 (X8 46 path.data.toList).1)).1.Card==5))=false from h3];rfl
   rw[if_pos ho];have hlt:=l3 hc;exact ih (D2 (X8 46 path.data.toList).2.1) _ (b5m hs _) _ (by rw[I1];omega) (by omega) (by rw[I1];simp;omega)
theorem c3y(s:A2)(hs:a0i s)(name path:ByteArray)(hp:path.size<=1048576):a6w s name path (Z5 s name path):=by
 unfold Z5;refine b86 _ _ _ _ ⟨fun h=>by rw[if_pos (of_decide_eq_true h)],fun h=>⟨_,c7p s hs name,fun h2=>?_,fun h2=>?_⟩⟩
 ·rw[if_neg (of_decide_eq_false h),if_neg (by simpa using h2)]
 ·rw[if_neg (of_decide_eq_false h),if_pos (by simpa using h2)];exact f4u s hs path.size path _ (b5m hs _) [] (Nat.le_refl _) hp (by simpa using hp)
theorem c9r(s:A2):∀(ps:List (List UInt8)) (m:A9) (acc:List A5),(a67 s ps m acc).1.length<=acc.length+ps.length/\((a67 s ps m acc).2=0->ps≠[]->(a67 s ps m acc).1≠[])
 |[],m,acc=>⟨by simp[a67],fun _ h=>absurd rfl h⟩
 |p::ps,m,acc=>by
  rw[a67];obtain⟨h1,h2⟩:=c9r s ps (c35 s (b3a m (D2 p)).1.Type_.Name).1 (acc++[(b3a m (D2 p)).1]);split
  ·split
   ·exact⟨by simp,fun _ _=>by simp⟩
   ·rename_i hne;split
    ·exact⟨by simp at h1 ⊢;omega,fun h _=>h2 h hne⟩
    ·exact⟨by simp,fun h=>by simp at h⟩
  ·exact⟨by simp,fun h=>by simp at h⟩
theorem b7i(s:A2)(name path:ByteArray):(Z5 s name path).1.length<=path.size+1/\((Z5 s name path).2=0->(Z5 s name path).1≠[]):=by
 unfold Z5;split
 ·exact⟨by simp,fun h=>by simp at h⟩
 ·split
  ·obtain⟨h1,h2⟩:=c9r s (a6h path.data.toList) (c35 s name).1 [];have hlen:=(b63 path.data.toList).1;rw[b7o]at hlen;exact⟨by simp at h1;omega,fun h=>h2 h (b4o _)⟩
  ·exact⟨by simp,fun h=>by simp at h⟩
def m9c(l:List C8)(name:ByteArray):C8 × Bool:=fsT (fun m:C8=>decide (m.Name=name)) zMe l
def h38(s:A2)(path:ByteArray):C8 × Bool:=if(a11 47 path).2.2=true then m9c (d50 s (a11 47 path).1).1.Methods (a11 47 path).2.1 else(zMe,false)
theorem g9x{s:A2}{name:ByteArray}(h:(d50 s name).2=false):(d50 s name).1=zS:=by
 unfold d50 fsT at h ⊢;split at h
 ·cases h
 ·rfl
theorem g02(mg:Int)(s:A2)(hs:a0i s)(path:ByteArray)(hp:path.size<=1048576):b11 mg s path (h38 s path):=by
 unfold h38;refine b6c _ _ _ _ ⟨_,e6b mg path hp,_,i24 s hs _,fun h=>?_,fun h=>?_⟩
 ·split
  ·rename_i hc;have h2:(d50 s (a11 47 path).1).2=false:=by rw[hc]at h;simpa using h
   rw[g9x h2];rfl
  ·rfl
 ·simp only[Bool.or_eq_false_iff,Bool.not_eq_false']at h;rw[if_pos h.1];exact⟨_,a74 _ _ _ (c5g (J:=fun i r=>O3 i _ (gfS 154 (a11 47 path).2.1) r) (fun m:C8=>decide (m.Name=(a11 47 path).2.1)) zMe _ (fun i r hw=>a53 _ _ _ _ hw) (d3s hs _).nm fun x hx=>b41 x _ _ (b3f _ _ _ rfl)),rfl⟩
theorem d6o(s:A2)(hs:a0i s)(path:ByteArray)(hp:path.size<=1048576):a8n s path (h38 s path):=by
 unfold h38;refine b42 _ _ _ ⟨_,c7z 47 path hp,fun h=>?_,fun h=>⟨_,g2i s hs _,?_⟩⟩
 ·rw[if_neg (by simpa using h)];rfl
 ·rw[if_pos (by simpa using h)];refine c1i (J:=fun i r=>a0u i (a11 47 path) (d50 s (a11 47 path).1) r) (E:=fun r=>r=(zMe,false)) (C:=fun y b=>b=decide (y.Name=(a11 47 path).2.1)) (fun m:C8=>decide (m.Name=(a11 47 path).2.1)) _ _ (fun i hw=>a93 _ _ _ _ ⟨fun h=>?_,hw.2⟩) (d3s hs _).nm (fun _ _=>rfl) (fun x hx=>by unfold m9c fsT;rw[hx]) fun hx=>by unfold m9c fsT;rw[hx]
  obtain⟨y3,h1,h2,y4,rfl,h4⟩:=hw.1 h;exact⟨y3,h1,h2,h4⟩
def c0p(s:A2)(path:ByteArray):C8 × Int:=
 if((a11 47 path).2.2&&b8d (a11 47 path).1&&b4f (a11 47 path).2.1)=true then(if(h38 s path).2=true then((h38 s path).1,0) else(zMe,10)) else(zMe,2)
theorem c86(c:UInt8)(s:ByteArray):(a11 c s).1.size<=s.size/\(a11 c s).2.1.size<=s.size:=by
 obtain⟨h1,h2,_⟩:=c3u c s.data.toList;rw[b7o]at h1 h2;unfold a11;exact⟨by rw[I1];exact h1,by rw[I1];exact h2⟩
theorem h2d(mg:Int)(s:A2)(hs:a0i s)(path:ByteArray)(hp:path.size<=1048576):b01 mg s path (c0p s path):=by
 obtain⟨l1,l2⟩:=c86 47 path;refine b6z _ _ _ _ ⟨_,e6b mg path hp,fun b=>b= !((a11 47 path).2.2&&b8d (a11 47 path).1),fun b1 hb1=>⟨fun b=>b= !((a11 47 path).2.2&&b8d (a11 47 path).1&&b4f (a11 47 path).2.1),fun b2 hb2=>⟨fun h=>?_,fun h=>⟨_,g02 mg s hs path hp,fun h2=>?_,fun h2=>?_⟩⟩,fun h=>?_,fun h=>⟨_,d2m _ (by omega),?_⟩⟩,fun h=>?_,fun h=>⟨_,c81 mg _ (by omega),?_⟩⟩
 ·rw[hb2]at h;unfold c0p;rw[if_neg (by rw[Bool.not_eq_true']at h;rw[h];exact Bool.noConfusion)];rfl
 ·rw[hb2]at h;unfold c0p;rw[if_pos (by simpa using h),if_neg (by simpa using h2)];rfl
 ·rw[hb2]at h;unfold c0p;rw[if_pos (by simpa using h),if_pos (by simpa using h2)]
 ·rw[hb1]at h;simp only[Bool.not_eq_true']at h;rw[h];rfl
 ·rw[hb1]at h;simp only[Bool.not_eq_false']at h;rw[h,Bool.true_and]
 ·simp only[Bool.not_eq_true']at h;rw[h];rfl
 ·simp only[Bool.not_eq_false']at h;rw[h,Bool.true_and]
theorem c7g(c:UInt8):∀l,(X8 c l).2.2=true->l.take (X8 c l).1.length=(X8 c l).1/\l.drop ((X8 c l).1.length+1)=(X8 c l).2.1/\(X8 c l).1.length<l.length
 |[],h=>by simp[X8]at h
 |x::r,h=>by
  by_cases hx:x=c
  ·subst hx;simp[X8]
  ·rw[c6w hx]at h ⊢;obtain⟨h1,h2,h3⟩:=c7g c r h;simp[h1,h2,h3]
def atI(l:List UInt8)(i:Nat):Int:=if(X8 47 (l.drop i)).2.2=true then((i+(X8 47 (l.drop i)).1.length:Nat):Int) else -1
theorem d23(s:A2)(hs:a0i s)(path:ByteArray)(hp:path.size<=1048576):∀i:Nat,i<=path.size->a0r ((i:Int) - 1) (atI path.data.toList i) path s (c0p s path)
 |0,_=>by
  have ha:atI path.data.toList 0=if(a11 47 path).2.2=true then((a11 47 path).1.size:Int) else -1:=by unfold atI a11;rw[List.drop_zero];simp[I1]
  rw[ha];obtain⟨l1,l2⟩:=c86 47 path;refine a5p _ _ _ _ _ ⟨fun h=>by simp at h,fun _=>⟨fun b=>b= !((a11 47 path).2.2&&b8d (a11 47 path).1),fun b1 hb1=>⟨fun b=>b= !((a11 47 path).2.2&&b8d (a11 47 path).1&&b4f (a11 47 path).2.1),fun b2 hb2=>⟨fun h=>?_,fun h=>⟨_,d6o s hs path hp,fun h2=>?_,fun h2=>?_⟩⟩,fun h=>?_,fun h=>?_⟩,fun h=>?_,fun h=>?_⟩⟩
  ·rw[hb2]at h;unfold c0p;rw[if_neg (by rw[Bool.not_eq_true']at h;rw[h];exact Bool.noConfusion)];rfl
  ·rw[hb2]at h;unfold c0p;rw[if_pos (by simpa using h),if_neg (by simpa using h2)];rfl
  ·rw[hb2]at h;unfold c0p;rw[if_pos (by simpa using h),if_pos (by simpa using h2)]
  ·rw[hb1]at h;simp only[Bool.not_eq_true']at h;rw[h];rfl
  ·rw[hb1]at h;simp only[Bool.not_eq_false']at h;have hc:(a11 47 path).2.2=true:=by simp only[Bool.and_eq_true]at h;exact h.1
   rw[if_pos hc];obtain⟨c1,c2,c3⟩:=c7g 47 path.data.toList hc;have hz:(a11 47 path).1.size=(X8 47 path.data.toList).1.length:=by unfold a11;rw[I1]
   rw[b7o]at c3;have e1:=U4 (i:=(a11 47 path).1.size) (by omega)
   have e2:path.extract ((a11 47 path).1.size+1) path.size=(a11 47 path).2.1:=b0u (by
    rw[Lib.extract_data,List.take_of_length_le (by rw[List.length_drop,b7o];omega),hz,c2];rfl)
   rw[e1];refine⟨by omega,_,c3n _ ?_,?_⟩
   ·rw[Int.toNat_natCast,Int.toNat_natCast,e2];omega
   ·rw[Int.toNat_natCast,Int.toNat_natCast,e2,h,Bool.true_and]
  ·split at h
   ·simp at h;omega
   ·rename_i hc;have:(a11 47 path).2.2=false:=by simpa using hc
    rw[this];rfl
  ·split at h
   ·rename_i hc;rw[if_pos hc];obtain⟨c1,c2,c3⟩:=c7g 47 path.data.toList hc;have hz:(a11 47 path).1.size=(X8 47 path.data.toList).1.length:=by unfold a11;rw[I1]
    have e2:path.extract 0 (a11 47 path).1.size=(a11 47 path).1:=b0u (by
     rw[Lib.extract_data,List.drop_zero,Nat.sub_zero,hz,c1];rfl)
    refine⟨by omega,_,c8q _ ?_,?_⟩
    ·rw[Int.toNat_natCast,Int.toNat_zero,e2];omega
    ·rw[Int.toNat_natCast,Int.toNat_zero,e2,hc,Bool.true_and]
   ·simp at h
 |i+1,hi=>by
  have hlt:i<path.size:=by omega
  have e0:((i+1:Nat):Int) - 1=(i:Int):=by omega
  have e1:wI ((i:Int) - 1)=(i:Int) - 1:=a3y (by omega);rw[e0];have ih:=d23 s hs path hp i (by omega);refine a5p _ _ _ _ _ ⟨fun _=>⟨by omega,fun h=>?_,fun h=>?_⟩,fun h=>by simp only[decide_eq_false_iff_not]at h;omega⟩
  ·simp only[Int.toNat_natCast,T8 path i hlt,beq_iff_eq]at h;have h47:((47:UInt8).toNat)=47:=rfl;have hc:path[i]=47:=UInt8.toNat_inj.1 (by omega)
   have:atI path.data.toList i=(i:Int):=by
    unfold atI;rw[T1 path i hlt,hc];simp[X8]
   rw[this]at ih;rw[e1];exact ih
  ·simp only[Int.toNat_natCast,T8 path i hlt,beq_eq_false_iff_ne,ne_eq]at h;have hc:¬path[i]=47:=fun hh=>h (by rw[hh];rfl)
   have:atI path.data.toList i=atI path.data.toList (i+1):=by
    unfold atI;rw[T1 path i hlt,c6w hc];simp only[List.length_cons];split
    ·congr 1;omega
    ·rfl
   rw[this]at ih;rw[e1];exact ih
theorem d9e(s:A2)(hs:a0i s)(path:ByteArray)(hp:path.size<=1048576):b4m s path (c0p s path):=by
 refine b8q _ _ _ ?_;have h:=d23 s hs path hp path.size (Nat.le_refl _)
 have ha:atI path.data.toList path.size= -1:=by
  unfold atI;rw[List.drop_eq_nil_of_le (by rw[b7o];exact Nat.le_refl _)];simp[X8]
 rw[ha]at h;rw[a3y (by omega)];exact h
theorem b6x{α:Type}{l:List α}{i:Nat}(h:i<l.length):l[((i:Int)).toNat]? =some l[i]:=by rw[Int.toNat_natCast];exact List.getElem?_eq_getElem h
def b4g(path:ByteArray):List ByteArray:=((a58 path).1.filter vOK).map c8e
theorem c7j(mg:Int)(W:List ByteArray)(y:Bool)(hl:∀x∈W,x.size<=1048576)(hL:W.length<=8):∀(k i:Nat) (acc:List ByteArray),i+k=W.length->acc.length<=i->K3 i (W,y) acc mg (acc++((W.drop i).filter vOK).map c8e)
 |0,i,acc,hk,ha=>by
  refine X7 _ _ _ _ _ ⟨fun h=>by simp only[decide_eq_true_eq]at h;omega,fun _=>?_⟩;rw[List.drop_eq_nil_of_le (by omega)];simp
 |k+1,i,acc,hk,ha=>by
  have hi:i<W.length:=by omega
  have e1:=U4 (i:=i) (by omega);refine X7 _ _ _ _ _ ⟨fun _=>⟨W[i],b6x hi,by omega,_,o2l mg _ (hl _ (List.getElem_mem hi)),?_⟩,fun h=>by simp only[decide_eq_false_iff_not]at h;omega⟩;rw[e1,List.drop_eq_getElem_cons hi];cases hv:vOK W[i]with
  |true=>
   rw[if_pos rfl,List.filter_cons_of_pos hv,List.map_cons];refine⟨fun _=>⟨by simp;omega,?_⟩,fun h=>(by cases h)⟩;have:=c7j mg W y hl hL k (i+1) (acc++[c8e W[i]]) (by omega) (by simp;omega);rw[List.append_assoc]at this;exact this
  |false=>
   rw[if_neg (by simp),List.filter_cons_of_neg (by rw[hv];simp)];exact⟨fun h=>(by cases h),fun _=>c7j mg W y hl hL k (i+1) acc (by omega) (by omega)⟩
theorem e0s(mg:Int)(path:ByteArray)(hp:path.size<=1048576):a1q mg path (b4g path):=by
 refine a76 _ _ _ ⟨_,l9r mg _ hp,?_⟩;have:=c7j mg (a58 path).1 (a58 path).2 (fun x hx=>Nat.le_trans ((a39 _).2 x hx) hp) (a39 _).1 _ 0 [] (Nat.zero_add _) (Nat.le_refl _);exact this
theorem c6h(W:List ByteArray)(hl:∀x∈W,x.size<=1048576)(hL:W.length<=8):∀(k i:Nat) (acc:List ByteArray),i+k=W.length->acc.length<=i->N5 i acc W (acc++((W.drop i).filter vOK).map c8e)
 |0,i,acc,hk,ha=>by
  refine a0v _ _ _ _ ⟨fun h=>by simp only[decide_eq_true_eq]at h;omega,fun _=>?_⟩;rw[List.drop_eq_nil_of_le (by omega)];simp
 |k+1,i,acc,hk,ha=>by
  have hi:i<W.length:=by omega
  have e1:=U4 (i:=i) (by omega);refine a0v _ _ _ _ ⟨fun _=>⟨W[i],b6x hi,by omega,_,n47 _ (hl _ (List.getElem_mem hi)),?_⟩,fun h=>by simp only[decide_eq_false_iff_not]at h;omega⟩;rw[e1,List.drop_eq_getElem_cons hi];cases hv:vOK W[i]with
  |true=>
   rw[if_pos rfl,List.filter_cons_of_pos hv,List.map_cons];refine⟨fun _=>⟨W[i],b6x hi,by omega,_,n47 _ (hl _ (List.getElem_mem hi)),?_⟩,fun h=>?_⟩
   ·rw[hv,if_pos rfl];refine⟨by simp;omega,?_⟩;have:=c6h W hl hL k (i+1) (acc++[c8e W[i]]) (by omega) (by simp;omega);rw[List.append_assoc]at this;exact this
   ·simp only[Bool.not_eq_false',decide_eq_true_eq]at h;exact absurd h (e5t _ hv)
  |false=>
   rw[if_neg (by simp),List.filter_cons_of_neg (by rw[hv];simp)];exact⟨fun h=>by simp at h,fun _=>c6h W hl hL k (i+1) acc (by omega) (by omega)⟩
theorem d7x(path:ByteArray)(hp:path.size<=1048576):a40 (a58 path).1 (b4g path):=by
 refine b0f _ _ ?_;have:=c6h (a58 path).1 (fun x hx=>Nat.le_trans ((a39 _).2 x hx) hp) (a39 _).1 _ 0 [] (Nat.zero_add _) (Nat.le_refl _);exact this
theorem b9n(path:ByteArray):(b4g path).length<=8/\∀x∈b4g path,x.size<=path.size:=by
 obtain⟨h1,h2⟩:=a39 path;refine⟨?_,fun x hx=>?_⟩
 ·unfold b4g;rw[List.length_map];exact Nat.le_trans (List.length_filter_le _ _) h1
 ·unfold b4g at hx;obtain⟨y,hy,rfl⟩:=List.mem_map.1 hx;have:=h2 y (List.mem_filter.1 hy).1;rw[b24];omega
def a2n(l:List A5):List Int:=l.map (·.Num)
theorem e1g(l:List A5)(hl:l.length<=2097152):∀(k i:Nat) (acc:List Int),i+k=l.length->acc.length<=i->T0 i l acc (acc++a2n (l.drop i))
 |0,i,acc,hk,ha=>by
  refine a1a _ _ _ _ ⟨fun h=>by simp only[decide_eq_true_eq]at h;omega,fun _=>?_⟩;rw[List.drop_eq_nil_of_le (by omega)];simp[a2n]
 |k+1,i,acc,hk,ha=>by
  have hi:i<l.length:=by omega
  have e1:=U4 (i:=i) (by omega);refine a1a _ _ _ _ ⟨fun _=>⟨l[i],b6x hi,by omega,by simp;omega,?_⟩,fun h=>by simp only[decide_eq_false_iff_not]at h;omega⟩;have:=e1g l hl k (i+1) (acc++[l[i].Num]) (by omega) (by simp;omega);rw[e1,List.drop_eq_getElem_cons hi];rw[List.append_assoc]at this;exact this
theorem f0c(l:List A5)(hl:l.length<=2097152):a4n l (a2n l):=a94 _ _ (by
 have:=e1g l hl l.length 0 [] (Nat.zero_add _) (Nat.le_refl _);rw[List.drop_zero,List.nil_append]at this;exact this)
theorem o2h(a b:List Int)(hab:a.length=b.length)(hl:a.length<=2097152):∀(k i:Nat),i+k=a.length->K0 i a b (decide (a.drop i=b.drop i))
 |0,i,hk=>by
  refine Q6 _ _ _ _ ⟨fun h=>by simp only[decide_eq_true_eq]at h;omega,fun _=>?_⟩;rw[List.drop_eq_nil_of_le (by omega),List.drop_eq_nil_of_le (by omega)];rfl
 |k+1,i,hk=>by
  have hi:i<a.length:=by omega
  have hj:i<b.length:=by omega
  have e1:=U4 (i:=i) (by omega);refine Q6 _ _ _ _ ⟨fun _=>⟨a[i],b6x hi,by omega,b[i],b6x hj,by omega,fun h=>?_,fun h=>?_⟩,fun h=>by simp only[decide_eq_false_iff_not]at h;omega⟩
  ·rw[List.drop_eq_getElem_cons hi,List.drop_eq_getElem_cons hj];simp only[bne_iff_ne,ne_eq]at h;refine decide_eq_false ?_;intro hc;injection hc with h1 _
   exact h h1
  ·simp only[bne_eq_false_iff_eq]at h;rw[e1,List.drop_eq_getElem_cons hi,List.drop_eq_getElem_cons hj,h];have:=o2h a b hab hl k (i+1) (by omega);have e:∀(x:Int) (l m:List Int),decide (x::l=x::m)=decide (l=m):=fun x l m=>decide_eq_decide.2 ⟨fun h=>by injection h,fun h=>by rw[h]⟩
   rw[e];exact this
theorem m9m(a b:List Int)(hl:a.length<=2097152)(hb:b.length<=2097152):U2 a b (decide (a=b)):=by
 refine a43 _ _ _ ⟨fun h=>?_,fun h=>?_⟩
 ·refine decide_eq_false ?_;rintro rfl;simp at h
 ·simp only[bne_eq_false_iff_eq]at h;have:=o2h a b (by omega) hl a.length 0 (by omega);exact this
theorem e4b(a b:List A5)(hab:a.length=b.length)(hl:a.length<=2097152):∀(k i:Nat),i+k=a.length->a3l i a b (decide (a2n (a.drop i)=a2n (b.drop i)))
 |0,i,hk=>by
  refine a5r _ _ _ _ ⟨fun h=>by simp only[decide_eq_true_eq]at h;omega,fun _=>?_⟩;rw[List.drop_eq_nil_of_le (by omega),List.drop_eq_nil_of_le (by omega)];rfl
 |k+1,i,hk=>by
  have hi:i<a.length:=by omega
  have hj:i<b.length:=by omega
  have e1:=U4 (i:=i) (by omega);refine a5r _ _ _ _ ⟨fun _=>⟨a[i],b6x hi,by omega,b[i],b6x hj,by omega,fun h=>?_,fun h=>?_⟩,fun h=>by simp only[decide_eq_false_iff_not]at h;omega⟩
  ·rw[List.drop_eq_getElem_cons hi,List.drop_eq_getElem_cons hj];simp only[bne_iff_ne,ne_eq]at h;refine decide_eq_false ?_;intro hc;injection hc with h1 _
   exact h h1
  ·simp only[bne_eq_false_iff_eq]at h;rw[e1,List.drop_eq_getElem_cons hi,List.drop_eq_getElem_cons hj];have:=e4b a b hab hl k (i+1) (by omega);have e:∀(x y:A5) (l m:List A5),x.Num=y.Num->decide (a2n (x::l)=a2n (y::m))=decide (a2n l=a2n m):=fun x y l m hxy=>decide_eq_decide.2 ⟨fun h=>(by simp only[a2n,List.map_cons,List.cons.injEq]at h;exact h.2),fun h=>by simp only[a2n,List.map_cons,List.cons.injEq]at h ⊢;exact⟨hxy,h⟩⟩
   rw[e _ _ _ _ h];exact this
theorem f9l(a b:List A5)(hl:a.length<=2097152):b46 a b (decide (a2n a=a2n b)):=by
 refine b81 _ _ _ ⟨fun h=>?_,fun h=>?_⟩
 ·refine decide_eq_false ?_;intro hc;have:=congrArg List.length hc;simp only[a2n,List.length_map]at this;rw[this]at h;simp at h
 ·simp only[bne_eq_false_iff_eq]at h;have:=e4b a b (by omega) hl a.length 0 (by omega);exact this
def b40(f:A5):Bool:=decide (1<=f.Card)&&decide (f.Card<=3)
def d1q(f:A5):Bool:=(decide (1<=f.Type_.Kind)&&decide (f.Type_.Kind<=9))&&(f.Type_.Kind !=6)
def h4c(r:B4)(f:A5):Bool:= !(b40 f&&d1q f)||(decide (r.Body=⟨#[42]⟩)&&(f.Card==1))
theorem d74(f:A5):a8h f (b40 f):=b5i _ _ (by
 unfold b40;rw[Bool.eq_iff_iff];simp only[Bool.and_eq_true,Bool.or_eq_true,decide_eq_true_eq,beq_iff_eq];omega)
theorem e0c(f:A5):a6x f.Type_ (d1q f):=b2z _ _ ⟨_,b3n _ _ rfl,rfl⟩
theorem d98(f:A5):a5y f (d1q f):=b14 _ _ ⟨_,c03 _ _ rfl,rfl⟩
theorem d1o(l:List A5)(hl:l≠[])(hz:l.length<=2097152):l[(wI ((l.length:Int) - 1)).toNat]? =some (l.getLastD zF)/\0<=wI ((l.length:Int) - 1):=by
 have h1:1<=l.length:=by
  rcases Nat.lt_or_ge 0 l.length with h|h
  ·exact h
  ·exact absurd (List.eq_nil_of_length_eq_zero (by omega)) hl
 have e:wI ((l.length:Int) - 1)=((l.length - 1:Nat):Int):=by rw[a3y (by omega)];omega
 rw[e,Int.toNat_natCast];refine⟨?_,by omega⟩;rw[List.getLastD_eq_getLast?,List.getLast?_eq_getElem?];rw[List.getElem?_eq_getElem (by omega)];rfl
def cvG(s:A2)(in_:ByteArray)(r:B4):List ByteArray->List (List Int)->List (List Int) × Int
 |[],a3t=>(a3t,0)
 |v::vs,a3t=>
  if(Z5 s in_ v).2=0 then
   (if h4c r ((Z5 s in_ v).1.getLastD zF)=true then([],12)
   else if a3t.any (fun o=>decide (o=a2n (Z5 s in_ v).1))=true then([],9) else cvG s in_ r vs (a3t++[a2n (Z5 s in_ v).1]))
  else([],(Z5 s in_ v).2)
theorem l2f(l:List (List Int))(n:List Int)(hl:l.length<=2097152)(hs:∀x∈l,x.length<=2097152)(hn:n.length<=2097152):F1 l (⟨120,[],[.elt [.sl (List.map G0 n) .no] 0],by simp[plainL,plain,D6]⟩:GFn) (l.any (fun o=>decide (o=n))):=by
 obtain⟨k,h1,h2⟩:=c1j (J:=fun i r=>F0 i l (⟨120,[],[.elt [.sl (List.map G0 n) .no] 0],by simp[plainL,plain,D6]⟩:GFn) r) (fun o=>decide (o=n)) l (fun i r hw=>L4 _ _ _ _ hw) (by unfold Sz;omega) fun x hx=>a3n x n _ (a2z _ _ _ ⟨_,m9m x n (hs x hx) hn,rfl⟩)
 exact L5 _ _ _ ⟨k,O1 _ _ _ h1,(c9b h2).symm⟩
theorem c8b(l:List A5):(a2n l).length=l.length:=List.length_map _
theorem h5w(mg:Int)(s:A2)(hs:a0i s)(in_:ByteArray)(r:B4)(V:List ByteArray)(hV:V.length<=8)(hz:∀x∈V,x.size<=1048575):∀(k i:Nat) (a3t:List (List Int)),i+k=V.length->a3t.length<=i->(∀x∈a3t,x.length<=2097152)->
  J5 i V a3t in_ s r mg (cvG s in_ r (V.drop i) a3t)
 |0,i,a3t,hk,ha,hx=>by
  refine P3 _ _ _ _ _ _ _ _ ⟨fun h=>by simp only[decide_eq_true_eq]at h;omega,fun _=>?_⟩;rw[List.drop_eq_nil_of_le (by omega)];rfl
 |k+1,i,a3t,hk,ha,hx=>by
  have hi:i<V.length:=by omega
  have e1:=U4 (i:=i) (by omega);have hv:=hz _ (List.getElem_mem hi);obtain⟨p1,p2⟩:=b7i s in_ V[i];refine P3 _ _ _ _ _ _ _ _ ⟨fun _=>⟨V[i],b6x hi,by omega,_,f58 mg s hs in_ _ (by omega),fun h=>?_,fun h=>?_⟩,fun h=>by simp only[decide_eq_false_iff_not]at h;omega⟩
  ·rw[List.drop_eq_getElem_cons hi,cvG,if_neg (by simpa using h)]
  ·have h0:(Z5 s in_ V[i]).2=0:=by simpa using h
   obtain⟨g1,g2⟩:=d1o _ (p2 h0) (by omega);rw[e1,List.drop_eq_getElem_cons hi,cvG,if_pos h0];refine⟨_,g1,g2,_,b1l _ _ rfl,fun b=>b= !(b40 ((Z5 s in_ V[i]).1.getLastD zF)&&d1q ((Z5 s in_ V[i]).1.getLastD zF)),fun b hb=>⟨fun h1=>?_,fun h1=>⟨_,f0c _ (by omega),_,l2f a3t _ (by omega) hx (by rw[c8b];omega),fun h2=>?_,fun h2=>⟨by simp;omega,?_⟩⟩⟩,fun h1=>?_,fun h1=>⟨_,d98 _,?_⟩⟩
   ·rw[hb]at h1;rw[if_pos (show h4c r _=true from h1)]
   ·rw[hb]at h1;rw[if_neg (by rw[show h4c r _=false from h1];exact Bool.noConfusion),if_pos h2]
   ·rw[hb]at h1;rw[if_neg (by rw[show h4c r _=false from h1];exact Bool.noConfusion),if_neg (by rw[h2];exact Bool.noConfusion)];refine h5w mg s hs in_ r V hV hz k (i+1) _ (by omega) (by simp;omega) fun x hxm=>?_
    rcases List.mem_append.1 hxm with hxm|hxm
    ·exact hx x hxm
    ·simp only[List.mem_singleton]at hxm;subst hxm;rw[c8b];omega
   ·have h3:b40 ((Z5 s in_ V[i]).1.getLastD zF)=false:=by simpa using (show(!(b40 _))=true from h1)
    rw[h3];rfl
   ·have h3:b40 ((Z5 s in_ V[i]).1.getLastD zF)=true:=by simpa using (show(!(b40 _))=false from h1)
    rw[h3,Bool.true_and]
theorem i6a(mg:Int)(s:A2)(hs:a0i s)(in_:ByteArray)(r:B4)(hp:r.Path.size<=1048575):S7 mg s in_ r (cvG s in_ r (b4g r.Path) []):=by
 obtain⟨h1,h2⟩:=b9n r.Path;refine a4o _ _ _ _ _ ⟨_,e0s mg _ (by omega),?_⟩;have:=h5w mg s hs in_ r (b4g r.Path) h1 (fun x hx=>Nat.le_trans (h2 x hx) hp) _ 0 [] (Nat.zero_add _) (Nat.le_refl _) (fun x hx=>by cases hx);rw[List.drop_zero]at this;exact this
def c6f(s:A2)(in_:ByteArray)(r:B4):A5 × Bool:=b3a (c35 s in_).1 r.Body
def d1j(s:A2)(in_:ByteArray)(r:B4):Bool:= !(decide (r.Body=⟨#[]⟩)||decide (r.Body=⟨#[42]⟩))&&(((c6f s in_ r).2&&((c6f s in_ r).1.Type_.Kind==10))&&(((c6f s in_ r).1.Card==1)||((c6f s in_ r).1.Card==2)))
def h34(s:A2)(in_:ByteArray)(r:B4)(c:List (List Int) × Int):Int:=
 if c.2=0 then
  (if(decide (r.Body=⟨#[]⟩)||decide (r.Body=⟨#[42]⟩))=true then 0
  else if d1j s in_ r=true then(if c.1.any (fun n=>n.headD 0==(c6f s in_ r).1.Num)=true then 9 else 0) else 8)
 else c.2
theorem e7v(s:A2)(in_:ByteArray)(r:B4):∀(V:List ByteArray) (a3t:List (List Int)),(∀x∈a3t,x≠[])->∀x∈(cvG s in_ r V a3t).1,x≠[]
 |[],a3t,h=>h
 |v::V,a3t,h=>by
  rw[cvG];split
  ·rename_i h0;split
   ·intro x hx;cases hx
   ·split
    ·intro x hx;cases hx
    ·refine e7v s in_ r V _ fun x hx=>?_
     rcases List.mem_append.1 hx with hx|hx
     ·exact h x hx
     ·simp only[List.mem_singleton]at hx;subst hx;intro hc;have:=(b7i s in_ v).2 h0;unfold a2n at hc;exact this (List.map_eq_nil_iff.1 hc)
  ·intro x hx;cases hx
theorem d3z(s:A2)(in_:ByteArray)(r:B4):∀(V:List ByteArray) (a3t:List (List Int)),(cvG s in_ r V a3t).1.length<=a3t.length+V.length
 |[],a3t=>by simp[cvG]
 |v::V,a3t=>by
  have:=d3z s in_ r V (a3t++[a2n (Z5 s in_ v).1]);simp only[List.length_append,List.length_cons,List.length_nil]at this;rw[cvG];split
  ·split
   ·simp
   ·split
    ·simp
    ·simp only[List.length_cons];omega
  ·simp
theorem k6o(l:List (List Int))(f:A5)(hl:l.length<=2097152)(hne:∀x∈l,x≠[]):F1 l (⟨57,[],[.elt (C0 f) 0],by simp[plainL,plain,D8]⟩:GFn) (l.any (fun n=>n.headD 0==f.Num)):=by
 have hc:∀x∈l,W8 x f (x.headD 0==f.Num):=fun x hx=>by
  refine a5z _ _ _ ?_;cases x with
  |nil=>exact absurd rfl (hne _ hx)
  |cons a b=>exact⟨a,rfl,Int.le_refl _,rfl⟩
 obtain⟨k,h1,h2⟩:=c1j (J:=fun i r=>F0 i l (⟨57,[],[.elt (C0 f) 0],by simp[plainL,plain,D8]⟩:GFn) r) (fun n=>n.headD 0==f.Num) l (fun i r hw=>L4 _ _ _ _ hw) (by unfold Sz;omega) fun x hx=>a6k x f _ (hc x hx)
 exact L5 _ _ _ ⟨k,O1 _ _ _ h1,(c9b h2).symm⟩
def d3u(v:ByteArray):Bool:=((((decide (v=⟨#[71,69,84]⟩))||(decide (v=⟨#[80,85,84]⟩)))||(decide (v=⟨#[80,79,83,84]⟩)))||(decide (v=⟨#[80,65,84,67,72]⟩)))||(decide (v=⟨#[68,69,76,69,84,69]⟩))
theorem e8a(v:ByteArray):J7 ([(⟨#[71,69,84]⟩:ByteArray),(⟨#[80,85,84]⟩:ByteArray),(⟨#[80,79,83,84]⟩:ByteArray),(⟨#[80,65,84,67,72]⟩:ByteArray),(⟨#[68,69,76,69,84,69]⟩:ByteArray)]:(List ByteArray)) v (d3u v):=by
 obtain⟨k,h1,h2⟩:=c1j (J:=fun i r=>H2 i ([(⟨#[71,69,84]⟩:ByteArray),(⟨#[80,85,84]⟩:ByteArray),(⟨#[80,79,83,84]⟩:ByteArray),(⟨#[80,65,84,67,72]⟩:ByteArray),(⟨#[68,69,76,69,84,69]⟩:ByteArray)]:(List ByteArray)) v r) (C:=fun y b=>b=decide (v=y)) (fun y=>decide (v=y)) _ (fun i r hw=>Z7 _ _ _ _ ⟨fun h=>by
  obtain⟨y3,g1,g2,y4,rfl,g4⟩:=hw.1 h;exact⟨y3,g1,g2,g4⟩,hw.2⟩) (by unfold Sz;simp) fun x hx=>rfl
 refine Z9 _ _ _ ⟨k,a1k _ _ _ h1,?_⟩;rw[c9b h2];unfold d3u;simp only[List.any_cons,List.any_nil,Bool.or_false,Bool.or_assoc]
def c1n(s:A2)(r:B4):Int:=
 if((a58 r.Path).2&&d3u r.Verb)=true then
  (if(c0p s ((r.Service++⟨#[47]⟩)++r.Method)).2=0 then
   (if(c0p s ((r.Service++⟨#[47]⟩)++r.Method)).1.Shape=1 then h34 s (c0p s ((r.Service++⟨#[47]⟩)++r.Method)).1.In r (cvG s (c0p s ((r.Service++⟨#[47]⟩)++r.Method)).1.In r (b4g r.Path) []) else 12)
  else(c0p s ((r.Service++⟨#[47]⟩)++r.Method)).2)
 else 2
def h9g(r:B4):Prop:=r.Path.size<=300/\r.Service.size<=300/\r.Method.size<=300/\r.Body.size<=300
theorem b7d(a b:ByteArray):(a++b).size=a.size+b.size:=by simp
theorem c5v{r:B4}(hr:h9g r):((r.Service++(⟨#[47]⟩:ByteArray))++r.Method).size<=601:=by
 obtain⟨h1,h2,h3,h4⟩:=hr;rw[b7d,b7d];have:(⟨#[47]⟩:ByteArray).size=1:=rfl;omega
theorem d5y(s:A2)(hs:a0i s)(in_:ByteArray)(r:B4):∃y,a5w s in_ r y/\y.2=d1j s in_ r/\(y.2=true->y.1=(c6f s in_ r).1):=by
 by_cases h:((decide (r.Body=⟨#[]⟩)||decide (r.Body=⟨#[42]⟩)))=true
 ·refine⟨(zF,false),a4s _ _ _ _ ⟨fun _=>rfl,fun h2=>?_⟩,?_,fun h=>by cases h⟩
  ·rw[h]at h2;cases h2
  ·unfold d1j;rw[h];rfl
 ·have h':(decide (r.Body=⟨#[]⟩)||decide (r.Body=⟨#[42]⟩))=false:=by simpa using h
  refine⟨((c6f s in_ r).1,((c6f s in_ r).2&&((c6f s in_ r).1.Type_.Kind==10))&&(((c6f s in_ r).1.Card==1)||((c6f s in_ r).1.Card==2))),a4s _ _ _ _ ⟨fun h2=>absurd h2 h,fun _=>⟨_,d5l s hs in_,_,d30 _ (b5m hs _) _,rfl⟩⟩,?_,fun _=>rfl⟩;unfold d1j;rw[h'];rfl
theorem d5b(mg:Int)(s:A2)(hs:a0i s)(r:B4)(hr:h9g r):a1g mg s r (c1n s r):=by
 have hps:=c5v hr;obtain⟨r1,r2,r3,r4⟩:=hr;have hm:=h2d mg s hs ((r.Service++⟨#[47]⟩)++r.Method) (by omega);have o1:(⟨#[47]⟩:ByteArray).size=1:=rfl;have hpath:b13 r.Service r.Method ((r.Service++⟨#[47]⟩)++r.Method):=b6q _ _ _ ⟨by omega,by rw[b7d];omega,rfl⟩;unfold c1n;generalize hq:(r.Service++(⟨#[47]⟩:ByteArray))++r.Method=q at*;refine a7h _ _ _ _ ⟨_,l9r mg _ (by omega),fun b=>b= !((a58 r.Path).2&&d3u r.Verb),fun b hb=>⟨fun h=>?_,fun h=>⟨q,hpath,_,hm,fun h2=>?_,fun h2=>⟨fun h3=>?_,fun h3=>⟨_,i6a mg s hs _ r (by omega),?_⟩⟩⟩⟩,fun h=>?_,fun h=>⟨_,e8a _,?_⟩⟩
 ·rw[hb]at h;rw[if_neg (by rw[Bool.not_eq_true']at h;rw[h];exact Bool.noConfusion)]
 ·rw[hb]at h;rw[if_pos (by simpa using h),if_neg (by simpa using h2)]
 ·rw[hb]at h;rw[if_pos (by simpa using h),if_pos (by simpa using h2),if_neg (by simpa using h3)]
 ·rw[hb]at h;rw[if_pos (by simpa using h),if_pos (by simpa using h2),if_pos (by simpa using h3)];have hne:=e7v s (c0p s q).1.In r (b4g r.Path) [] (fun x hx=>by cases hx);have hlen:=d3z s (c0p s q).1.In r (b4g r.Path) [];have hv8:=(b9n r.Path).1;simp only[List.length_nil]at hlen;generalize cvG s (c0p s q).1.In r (b4g r.Path) []=c at*;refine⟨fun h4=>?_,fun h4=>?_⟩
  ·unfold h34;rw[if_neg (by simpa using h4)]
  ·obtain⟨y,hy1,hy2,hy3⟩:=d5y s hs (c0p s q).1.In r;unfold h34;rw[if_pos (by simpa using h4)];refine⟨y,hy1,fun h5=>?_,fun h5=>⟨fun h6=>⟨_,k6o c.1 y.1 (by omega) hne,fun h7=>?_,fun h7=>?_⟩,fun h6=>?_⟩⟩
   ·rw[hy2]at h5;simp only[Bool.and_eq_true,Bool.not_eq_true',decide_eq_false_iff_not]at h5;rw[if_neg (by simp[h5.1.2,h5.2]),if_neg (by rw[h5.1.1];exact Bool.noConfusion)]
   ·have hb2:d1j s (c0p s q).1.In r=true:=hy2▸h6
    have hn:(decide (r.Body=⟨#[]⟩)||decide (r.Body=⟨#[42]⟩))=false:=by
     unfold d1j at hb2;simp only[Bool.and_eq_true,Bool.not_eq_true']at hb2;exact hb2.1
    rw[if_neg (by rw[hn];exact Bool.noConfusion),if_pos hb2];rw[hy3 h6]at h7;rw[if_pos h7]
   ·have hb2:d1j s (c0p s q).1.In r=true:=hy2▸h6
    have hn:(decide (r.Body=⟨#[]⟩)||decide (r.Body=⟨#[42]⟩))=false:=by
     unfold d1j at hb2;simp only[Bool.and_eq_true,Bool.not_eq_true']at hb2;exact hb2.1
    rw[if_neg (by rw[hn];exact Bool.noConfusion),if_pos hb2];rw[hy3 h6]at h7;rw[if_neg (by rw[h7];exact Bool.noConfusion)]
   ·rw[h6]at h5
    have hn:(decide (r.Body=⟨#[]⟩)||decide (r.Body=⟨#[42]⟩))=true:=by
     by_cases e1:r.Body=⟨#[]⟩
     ·simp[e1]
     ·by_cases e2:r.Body=⟨#[42]⟩
      ·simp[e2]
      ·simp[e1,e2]at h5
    rw[if_pos hn]
 ·have:(a58 r.Path).2=false:=by simpa using h
  rw[this];rfl
 ·have:(a58 r.Path).2=true:=by simpa using h
  rw[this,Bool.true_and]
def e3y(s:A2)(in_ v:ByteArray):List Int:=a2n (Z5 s in_ v).1
theorem e0w(s:A2)(hs:a0i s)(in_:ByteArray)(r:B4):b4s s in_ r (if d1j s in_ r=true then((c6f s in_ r).1,true) else(zF,false)):=by
 refine c0c _ _ _ _ ⟨_,c7p s hs in_,_,c6k _ (b5m hs _) _,fun h=>?_,fun h=>?_⟩
 ·rw[if_neg]
  ·rfl
  ·intro hb;unfold d1j c6f at hb;simp only[Bool.and_eq_true,Bool.not_eq_true',Bool.or_eq_true,Bool.or_eq_false_iff,beq_iff_eq,decide_eq_true_eq,decide_eq_false_iff_not,bne_iff_ne,ne_eq]at hb h;obtain⟨⟨b1,b2⟩,⟨b3,b4⟩,b5⟩:=hb;rcases h with(((h|h)|h)|h)|h
   ·exact b1 h
   ·exact b2 h
   ·rw[b3]at h;cases h
   ·omega
   ·exact h b4
 ·rw[if_pos]
  ·rfl
  ·unfold d1j c6f;simp only[Bool.and_eq_true,Bool.not_eq_true',Bool.or_eq_true,Bool.or_eq_false_iff,Bool.not_eq_false',beq_iff_eq,decide_eq_true_eq,decide_eq_false_iff_not,bne_eq_false_iff_eq,Bool.and_eq_false_iff,bne_iff_ne,ne_eq]at h ⊢;obtain⟨⟨⟨⟨b1,b2⟩,b3⟩,b4⟩,b5⟩:=h;exact⟨⟨b1,b2⟩,⟨b3,b5⟩,b4⟩
theorem l3c(s:A2)(hs:a0i s)(in_:ByteArray)(y:A5 × Bool)(V:List ByteArray)(hV:V.length<=8)(hz:∀x∈V,x.size<=1048575)(hok:∀x∈V,(Z5 s in_ x).2=0):∀(k i:Nat),i+k=V.length->
  T3 i V in_ s y (if((V.drop i).map (e3y s in_)).any (fun n=>n.headD 0==y.1.Num)=true then 9 else 0)
 |0,i,hk=>by
  refine a04 _ _ _ _ _ _ ⟨fun h=>by simp only[decide_eq_true_eq]at h;omega,fun _=>?_⟩;rw[List.drop_eq_nil_of_le (by omega)];rfl
 |k+1,i,hk=>by
  have hi:i<V.length:=by omega
  have e1:=U4 (i:=i) (by omega);have hm:=List.getElem_mem hi;have hne:=(b7i s in_ V[i]).2 (hok _ hm);have hp:=c3y s hs in_ V[i] (by have:=hz _ hm;omega);have dl:V.drop i=V[i]::V.drop (i+1):=List.drop_eq_getElem_cons hi;have ih:=l3c s hs in_ y V hV hz hok k (i+1) (by omega);rw[dl,List.map_cons,List.any_cons];unfold e3y a2n;unfold e3y a2n at ih;generalize Z5 s in_ V[i]=p at*;obtain⟨l,e⟩:=p;cases l with
  |nil=>exact absurd rfl hne
  |cons f l=>
   refine a04 _ _ _ _ _ _ ⟨fun _=>⟨V[i],b6x hi,by omega,_,hp,f,rfl,Int.le_refl _,fun h=>?_,fun h=>?_⟩,fun h=>by simp only[decide_eq_false_iff_not]at h;omega⟩
   ·have h':(List.headD (List.map (·.Num) (f::l)) 0==y.1.Num)=true:=h;rw[h',Bool.true_or,if_pos rfl]
   ·have h':(List.headD (List.map (·.Num) (f::l)) 0==y.1.Num)=false:=h;rw[h',Bool.false_or,e1];exact ih
theorem l1g(s:A2)(hs:a0i s)(in_:ByteArray)(r:B4)(V:List ByteArray)(hV:V.length<=8)(hz:∀x∈V,x.size<=1048575)(p:List A5 × Int)(hp:p.1.length<=2097152)(i:Nat)(hi:i<V.length)(X:Int)(hX:M8 ((i+1:Nat):Int) V in_ s r X):∀(d k:Nat),k+d=i->
  S8 k p i V in_ s r (if(((V.take i).drop k).map (e3y s in_)).any (fun o=>decide (o=a2n p.1))=true then 9 else X)
 |0,k,hk=>by
  have e1:=U4 (i:=i) (by omega);refine a0s _ _ _ _ _ _ _ _ ⟨fun h=>by simp only[decide_eq_true_eq]at h;omega,fun _=>?_⟩;rw[List.drop_eq_nil_of_le (by rw[List.length_take];omega),e1];exact hX
 |d+1,k,hk=>by
  have hkl:k<V.length:=by omega
  have e1:=U4 (i:=k) (by omega);have hm:=List.getElem_mem hkl;have hq:=c3y s hs in_ V[k] (by have:=hz _ hm;omega)
  have dl:(V.take i).drop k=V[k]::(V.take i).drop (k+1):=by
   have h':k<(V.take i).length:=by rw[List.length_take];omega
   rw[List.drop_eq_getElem_cons h',List.getElem_take]
  rw[dl,List.map_cons,List.any_cons];have ih:=l1g s hs in_ r V hV hz p hp i hi X hX d (k+1) (by omega);refine a0s _ _ _ _ _ _ _ _ ⟨fun _=>⟨V[k],b6x hkl,by omega,_,hq,_,f9l _ _ hp,fun h=>?_,fun h=>?_⟩,fun h=>by simp only[decide_eq_false_iff_not]at h;omega⟩
  ·have:decide (e3y s in_ V[k]=a2n p.1)=true:=by
    simp only[decide_eq_true_eq]at h ⊢;exact h.symm
   rw[this,Bool.true_or,if_pos rfl]
  ·have:decide (e3y s in_ V[k]=a2n p.1)=false:=by
    simp only[decide_eq_false_iff_not]at h ⊢;exact fun hc=>h hc.symm
   rw[this,Bool.false_or,e1];exact ih
theorem k8s(s:A2)(hs:a0i s)(in_:ByteArray)(r:B4)(V:List ByteArray)(hV:V.length<=8)(hz:∀x∈V,x.size<=1048575):∀(k i:Nat),i+k=V.length->(∀x∈V.take i,(Z5 s in_ x).2=0)->
  M8 i V in_ s r (h34 s in_ r (cvG s in_ r (V.drop i) ((V.take i).map (e3y s in_))))
 |0,i,hk,hok=>by
  have ht:V.take i=V:=List.take_of_length_le (by omega);rw[List.drop_eq_nil_of_le (by omega),ht];rw[ht]at hok;have hB:=e0w s hs in_ r;unfold h34 cvG;rw[if_pos rfl]
  by_cases hn:(decide (r.Body=⟨#[]⟩)||decide (r.Body=⟨#[42]⟩))=true
  ·rw[if_pos hn];exact K8 _ _ _ _ _ _ ⟨fun h=>by simp only[decide_eq_true_eq]at h;omega,fun _=>⟨fun h=>rfl,fun h=>by rw[hn]at h;cases h⟩⟩
  ·rw[if_neg hn]
   by_cases hb:d1j s in_ r=true
   ·rw[if_pos hb]at hB ⊢;have:=l3c s hs in_ ((c6f s in_ r).1,true) V hV hz hok V.length 0 (Nat.zero_add _);exact K8 _ _ _ _ _ _ ⟨fun h=>by simp only[decide_eq_true_eq]at h;omega,fun _=>⟨fun h=>absurd h hn,fun h=>⟨_,hB,fun h2=>(by cases h2),fun h2=>this⟩⟩⟩
   ·rw[if_neg hb]at hB ⊢;exact K8 _ _ _ _ _ _ ⟨fun h=>by simp only[decide_eq_true_eq]at h;omega,fun _=>⟨fun h=>absurd h hn,fun h=>⟨_,hB,fun h2=>rfl,fun h2=>by cases h2⟩⟩⟩
 |k+1,i,hk,hok=>by
  have hi:i<V.length:=by omega
  have e1:=U4 (i:=i) (by omega);have hm:=List.getElem_mem hi;have hv:=hz _ hm;obtain⟨p1,p2⟩:=b7i s in_ V[i];have dl:V.drop i=V[i]::V.drop (i+1):=List.drop_eq_getElem_cons hi;have tl:V.take (i+1)=V.take i++[V[i]]:=by rw[List.take_add_one,List.getElem?_eq_getElem hi];rfl
  refine K8 _ _ _ _ _ _ ⟨fun _=>⟨V[i],b6x hi,by omega,_,c3y s hs in_ _ (by omega),fun h=>?_,fun h=>?_⟩,fun h=>by simp only[decide_eq_false_iff_not]at h;omega⟩
  ·have h0:¬(Z5 s in_ V[i]).2=0:=by simpa using h
   rw[dl,cvG,if_neg h0];unfold h34;rw[if_neg h0]
  ·have h0:(Z5 s in_ V[i]).2=0:=by simpa using h
   obtain⟨g1,g2⟩:=d1o _ (p2 h0) (by omega);rw[dl,cvG,if_pos h0];refine⟨_,g1,g2,_,d74 _,fun b=>b= !(b40 ((Z5 s in_ V[i]).1.getLastD zF)&&d1q ((Z5 s in_ V[i]).1.getLastD zF)),fun b hb=>⟨fun h1=>?_,fun h1=>?_⟩,fun h1=>?_,fun h1=>⟨_,e0c _,?_⟩⟩
   ·rw[hb]at h1;rw[if_pos (show h4c r _=true from h1)];rfl
   ·rw[hb]at h1;rw[if_neg (by rw[show h4c r _=false from h1];exact Bool.noConfusion)]
    have hX:=k8s s hs in_ r V hV hz k (i+1) (by omega) (fun x hx=>by
     rw[tl]at hx;rcases List.mem_append.1 hx with hx|hx
     ·exact hok x hx
     ·simp only[List.mem_singleton]at hx;rw[hx];exact h0)
    rw[tl,List.map_append]at hX;have h9:=l1g s hs in_ r V hV hz (Z5 s in_ V[i]) (by omega) i hi _ hX i 0 (Nat.zero_add _);rw[List.drop_zero]at h9
    by_cases ha:((V.take i).map (e3y s in_)).any (fun o=>decide (o=a2n (Z5 s in_ V[i]).1))=true
    ·rw[if_pos ha]at h9 ⊢;exact h9
    ·rw[if_neg ha]at h9 ⊢;exact h9
   ·have h3:b40 ((Z5 s in_ V[i]).1.getLastD zF)=false:=by simpa using (show(!(b40 _))=true from h1)
    rw[h3];rfl
   ·have h3:b40 ((Z5 s in_ V[i]).1.getLastD zF)=true:=by simpa using (show(!(b40 _))=false from h1)
    rw[h3,Bool.true_and]
theorem d2h(s:A2)(hs:a0i s)(r:B4)(hr:h9g r):b08 s r (c1n s r):=by
 have hps:=c5v hr;obtain⟨r1,r2,r3,r4⟩:=hr;have hm:=d9e s hs ((r.Service++⟨#[47]⟩)++r.Method) (by omega);have o1:(⟨#[47]⟩:ByteArray).size=1:=rfl;have hpath:b4w r.Service r.Method ((r.Service++⟨#[47]⟩)++r.Method):=b7x _ _ _ ⟨by omega,by rw[b7d];omega,rfl⟩;unfold c1n;generalize hq:(r.Service++(⟨#[47]⟩:ByteArray))++r.Method=q at*;refine b6k _ _ _ ⟨_,m8h _ (by omega),fun b=>b= !((a58 r.Path).2&&d3u r.Verb),fun b hb=>⟨fun h=>?_,fun h=>⟨q,hpath,_,hm,fun h2=>?_,fun h2=>⟨fun h3=>?_,fun h3=>?_⟩⟩⟩,fun h=>?_,fun h=>⟨_,b93 _ _ rfl,?_⟩⟩
 ·rw[hb]at h;rw[if_neg (by rw[Bool.not_eq_true']at h;rw[h];exact Bool.noConfusion)]
 ·rw[hb]at h;rw[if_pos (by simpa using h),if_neg (by simpa using h2)]
 ·rw[hb]at h;rw[if_pos (by simpa using h),if_pos (by simpa using h2),if_neg (by simpa using h3)]
 ·rw[hb]at h;rw[if_pos (by simpa using h),if_pos (by simpa using h2),if_pos (by simpa using h3)];obtain⟨v1,v2⟩:=b9n r.Path;have:=k8s s hs (c0p s q).1.In r (b4g r.Path) v1 (fun x hx=>by have:=v2 x hx;omega) _ 0 (Nat.zero_add _) (fun x hx=>by simp at hx);rw[List.drop_zero]at this;exact⟨_,b0g _ _ _ _ _ ⟨_,d7x _ (by omega),this⟩,rfl⟩
 ·have:(a58 r.Path).2=false:=by simpa using h
  rw[this];rfl
 ·have:(a58 r.Path).2=true:=by simpa using h
  rw[this,Bool.true_and];rfl
theorem e2j(mg:Int)(W H:List ByteArray)(y1 y2:Bool)(hl:∀x∈W,x.size<=1048576)(hh:∀x∈H,x.size<=1048576)(hWH:W.length=H.length)(hL:W.length<=8):∀(k i:Nat),i+k=W.length->N6 i (W,y1) (H,y2) mg (h36 (W.drop i) (H.drop i))
 |0,i,hk=>by
  refine a0y _ _ _ _ _ ⟨fun h=>by simp only[decide_eq_true_eq]at h;omega,fun _=>?_⟩;rw[List.drop_eq_nil_of_le (by omega)];rfl
 |k+1,i,hk=>by
  have hi:i<W.length:=by omega
  have hj:i<H.length:=by omega
  have e1:=U4 (i:=i) (by omega);have ih:=e2j mg W H y1 y2 hl hh hWH hL k (i+1) (by omega);rw[List.drop_eq_getElem_cons hi,List.drop_eq_getElem_cons hj,h36];refine a0y _ _ _ _ _ ⟨fun _=>⟨W[i],b6x hi,by omega,_,m0r _ (hl _ (List.getElem_mem hi)),fun b=>b=(d4r W[i]&&d4r H[i]),fun b hb=>⟨fun h=>⟨W[i],b6x hi,by omega,H[i],b6x hj,by omega,fun h2=>?_,fun h2=>?_⟩,fun h=>?_⟩,fun h=>⟨H[i],b6x hj,by omega,_,m0r _ (hh _ (List.getElem_mem hj)),?_⟩,fun h=>?_⟩,fun h=>by simp only[decide_eq_false_iff_not]at h;omega⟩
  ·rw[<-hb,h,h2];rfl
  ·rw[<-hb,h,h2,e1];exact ih
  ·rw[<-hb,h,e1];exact ih
  ·rw[h];rfl
  ·rw[h];rfl
theorem h1f(mg:Int)(a b:B4)(ha:a.Path.size<=1048576)(hb:b.Path.size<=1048576):a4i mg a b (ovl a b):=by
 refine b0h _ _ _ _ ⟨_,l9r mg _ ha,_,l9r mg _ hb,fun h=>?_,fun h=>?_⟩
 ·unfold ovl;simp only[Bool.or_eq_true,Bool.not_eq_true',decide_eq_false_iff_not,bne_iff_ne,ne_eq]at h;rcases h with h|h
  ·rw[decide_eq_false h];rfl
  ·rw[decide_eq_false (p:=(a58 a.Path).1.length=(a58 b.Path).1.length) (fun hc=>h (by rw[hc])),Bool.and_false];rfl
 ·simp only[Bool.or_eq_false_iff,Bool.not_eq_false',decide_eq_true_eq,bne_eq_false_iff_eq]at h;have h2:(a58 a.Path).1.length=(a58 b.Path).1.length:=by omega
  unfold ovl;rw[decide_eq_true h.1,decide_eq_true h2,Bool.true_and,Bool.true_and];have:=e2j mg (a58 a.Path).1 (a58 b.Path).1 (a58 a.Path).2 (a58 b.Path).2 (fun x hx=>Nat.le_trans ((a39 _).2 x hx) ha) (fun x hx=>Nat.le_trans ((a39 _).2 x hx) hb) h2 (a39 _).1 _ 0 (Nat.zero_add _);exact this
theorem e4d(W H:List ByteArray)(y1 y2:Bool)(hl:∀x∈W,x.size<=1048576)(hh:∀x∈H,x.size<=1048576)(hWH:W.length=H.length)(hL:W.length<=8):∀(k i:Nat),i+k=W.length->T9 i (H,y2) (W,y1) (h36 (W.drop i) (H.drop i))
 |0,i,hk=>by
  refine a3i _ _ _ _ ⟨fun h=>by simp only[decide_eq_true_eq]at h;omega,fun _=>?_⟩;rw[List.drop_eq_nil_of_le (by omega)];rfl
 |k+1,i,hk=>by
  have hi:i<W.length:=by omega
  have hj:i<H.length:=by omega
  have e1:=U4 (i:=i) (by omega);have ih:=e4d W H y1 y2 hl hh hWH hL k (i+1) (by omega);rw[List.drop_eq_getElem_cons hi,List.drop_eq_getElem_cons hj,h36];refine a3i _ _ _ _ ⟨fun _=>⟨W[i],b6x hi,by omega,H[i],b6x hj,by omega,fun b=>b=(!(decide (W[i]=H[i]))&&d4r W[i]),fun b hb=>⟨fun h=>⟨H[i],b6x hj,by omega,_,m7r _ (hh _ (List.getElem_mem hj)),fun h2=>?_,fun h2=>?_⟩,fun h=>?_⟩,fun h=>⟨W[i],b6x hi,by omega,_,m7r _ (hl _ (List.getElem_mem hi)),?_⟩,fun h=>?_⟩,fun h=>by simp only[decide_eq_false_iff_not]at h;omega⟩
  ·rw[h]at hb;have hb':=hb.symm;simp only[Bool.and_eq_true,Bool.not_eq_true']at hb';rw[hb'.1,hb'.2,h2];rfl
  ·rw[h2,Bool.and_false,Bool.false_and,Bool.not_false,Bool.true_and,e1];exact ih
  ·rw[h]at hb;have hb':=hb.symm
   have:(d4r W[i]&&d4r H[i]&& !(decide (W[i]=H[i])))=false:=by
    cases l1:d4r W[i]with
    |false=>rfl
    |true=>
     rw[l1,Bool.and_true]at hb';rw[hb',Bool.and_false]
   rw[this,Bool.not_false,Bool.true_and,e1];exact ih
  ·rw[h,Bool.true_and]
  ·rw[h,Bool.false_and]
theorem h0p(a b:B4)(ha:a.Path.size<=1048576)(hb:b.Path.size<=1048576):a86 a b (ovl a b):=by
 refine b5n _ _ _ ⟨_,m8h _ ha,_,m8h _ hb,fun h=>?_,fun h=>?_⟩
 ·unfold ovl;simp only[Bool.or_eq_true,Bool.not_eq_true',decide_eq_false_iff_not,bne_iff_ne,ne_eq]at h;rcases h with h|h
  ·rw[decide_eq_false h];rfl
  ·rw[decide_eq_false (p:=(a58 a.Path).1.length=(a58 b.Path).1.length) (fun hc=>h (by rw[hc])),Bool.and_false];rfl
 ·simp only[Bool.or_eq_false_iff,Bool.not_eq_false',decide_eq_true_eq,bne_eq_false_iff_eq]at h;have h2:(a58 a.Path).1.length=(a58 b.Path).1.length:=by omega
  unfold ovl;rw[decide_eq_true h.1,decide_eq_true h2,Bool.true_and,Bool.true_and];have:=e4d (a58 a.Path).1 (a58 b.Path).1 (a58 a.Path).2 (a58 b.Path).2 (fun x hx=>Nat.le_trans ((a39 _).2 x hx) ha) (fun x hx=>Nat.le_trans ((a39 _).2 x hx) hb) h2 (a39 _).1 _ 0 (Nat.zero_add _);exact this
def zR:B4:=⟨⟨#[]⟩,⟨#[]⟩,⟨#[]⟩,⟨#[]⟩,⟨#[]⟩⟩
def prG(L:List B4):Nat->Nat->Int
 |0,_=>0
 |k+1,i=>if(L.take i).any (fun o=>ovl o (L.getD i zR))=true then 9 else prG L k (i+1)
def chG(s:A2):List B4->Int->Int
 |[],e=>e
 |r::L,e=>if c1n s r=0 then chG s L e else c1n s r
def l9q(s:A2)(L:List B4):Int:=if 64<L.length then 3 else chG s L (prG L L.length 0)
section
variable (mg:Int) (s:A2) (hs:a0i s) (L:List B4) (hL:L.length<=70) (hr:∀x∈L,h9g x)
 include hL hr
theorem h7z(i:Nat)(hi:i<L.length):I6 mg (L.take i) (⟨25,[],[.elt (B9 L[i]) 0],by simp[plainL,plain,G9]⟩:GFn) ((L.take i).any (fun o=>ovl o (L.getD i zR))):=by
 have hg:L.getD i zR=L[i]:=by rw[List.getD_eq_getElem?_getD,List.getElem?_eq_getElem hi];rfl
 have hp:=fun x hx=>(hr x hx).1
 rw[hg];have hc:∀x∈L.take i,a4b mg x L[i] (ovl x L[i]):=fun x hx=>b0e _ _ _ _ ⟨_,h1f mg _ _ (by have:=hp x (List.mem_of_mem_take hx);omega) (by have:=hp _ (List.getElem_mem hi);omega),rfl⟩
 obtain⟨k,h1,h2⟩:=c1j (J:=fun j r=>F9 j (L.take i) (⟨25,[],[.elt (B9 L[i]) 0],by simp[plainL,plain,G9]⟩:GFn) mg r) (fun o=>ovl o L[i]) (L.take i) (fun j r hw=>X1 _ _ _ _ _ hw) (by unfold Sz;rw[List.length_take];omega) fun x hx=>b00 mg x L[i] _ (hc x hx)
 exact X2 _ _ _ _ ⟨k,a0h _ _ _ _ h1,(c9b h2).symm⟩
theorem k4v:∀(k i:Nat),i+k=L.length->Z2 i L mg (prG L k i)
 |0,i,hk=>a2h _ _ _ _ ⟨fun h=>by simp only[decide_eq_true_eq]at h;omega,fun _=>rfl⟩
 |k+1,i,hk=>by
  have hi:i<L.length:=by omega
  have e1:=U4 (i:=i) (by omega);have ha:=h7z mg L hL hr i hi;rw[prG];refine a2h _ _ _ _ ⟨fun _=>⟨L[i],b6x hi,by omega,by omega,_,ha,fun h=>?_,fun h=>?_⟩,fun h=>by simp only[decide_eq_false_iff_not]at h;omega⟩
  ·rw[if_pos h]
  ·rw[if_neg (by rw[h];exact Bool.noConfusion),e1];exact k4v k (i+1) (by omega)
 include hs
theorem j3q:∀(k i:Nat),i+k=L.length->Z3 i L s mg (chG s (L.drop i) (prG L L.length 0))
 |0,i,hk=>by
  rw[List.drop_eq_nil_of_le (by omega)];exact a2q _ _ _ _ _ ⟨fun h=>by simp only[decide_eq_true_eq]at h;omega,fun _=>k4v mg L hL hr _ 0 (Nat.zero_add _)⟩
 |k+1,i,hk=>by
  have hi:i<L.length:=by omega
  have e1:=U4 (i:=i) (by omega);rw[List.drop_eq_getElem_cons hi,chG];refine a2q _ _ _ _ _ ⟨fun _=>⟨L[i],b6x hi,by omega,_,d5b mg s hs _ (hr _ (List.getElem_mem hi)),fun h=>?_,fun h=>?_⟩,fun h=>by simp only[decide_eq_false_iff_not]at h;omega⟩
  ·rw[if_neg (by simpa using h)]
  ·rw[if_pos (by simpa using h),e1];exact j3q k (i+1) (by omega)
theorem f7p:a61 mg s L (l9q s L):=by
 unfold l9q;refine b3o _ _ _ _ ⟨fun h=>?_,fun h=>?_⟩
 ·simp only[decide_eq_true_eq]at h;rw[if_pos (by omega)]
 ·simp only[decide_eq_false_iff_not]at h;rw[if_neg (by omega)];exact j3q mg s hs L hL hr _ 0 (Nat.zero_add _)
 omit hs
theorem i2n(i:Nat)(hi:i<L.length)(X:Int)(hX:U5 ((i+1:Nat):Int) L X):∀(d k:Nat),k+d=i->a0k k i L (if((L.take i).drop k).any (fun o=>ovl o L[i])=true then 9 else X)
 |0,k,hk=>by
  have e1:=U4 (i:=i) (by omega);rw[List.drop_eq_nil_of_le (by rw[List.length_take];omega)];exact a3h _ _ _ _ ⟨fun h=>by simp only[decide_eq_true_eq]at h;omega,fun _=>by rw[e1];exact hX⟩
 |d+1,k,hk=>by
  have hkl:k<L.length:=by omega
  have e1:=U4 (i:=k) (by omega);have p1:=(hr _ (List.getElem_mem hkl)).1;have p2:=(hr _ (List.getElem_mem hi)).1
  have dl:(L.take i).drop k=L[k]::(L.take i).drop (k+1):=by
   have h':k<(L.take i).length:=by rw[List.length_take];omega
   rw[List.drop_eq_getElem_cons h',List.getElem_take]
  rw[dl,List.any_cons];refine a3h _ _ _ _ ⟨fun _=>⟨L[k],b6x hkl,by omega,L[i],b6x hi,by omega,_,h0p _ _ (by omega) (by omega),fun h=>?_,fun h=>?_⟩,fun h=>by simp only[decide_eq_false_iff_not]at h;omega⟩
  ·rw[h,Bool.true_or,if_pos rfl]
  ·rw[h,Bool.false_or,e1];exact i2n i hi X hX d (k+1) (by omega)
theorem l1m:∀(k i:Nat),i+k=L.length->U5 i L (prG L k i)
 |0,i,hk=>a25 _ _ _ ⟨fun h=>by simp only[decide_eq_true_eq]at h;omega,fun _=>rfl⟩
 |k+1,i,hk=>by
  have hi:i<L.length:=by omega
  have hg:L.getD i zR=L[i]:=by rw[List.getD_eq_getElem?_getD,List.getElem?_eq_getElem hi];rfl
  have:=i2n L hL hr i hi _ (l1m k (i+1) (by omega)) i 0 (Nat.zero_add _);rw[List.drop_zero]at this;rw[prG,hg];exact a25 _ _ _ ⟨fun _=>this,fun h=>by simp only[decide_eq_false_iff_not]at h;omega⟩
 include hs
theorem l5w:∀(k i:Nat),i+k=L.length->a1z i L s (chG s (L.drop i) (prG L L.length 0))
 |0,i,hk=>by
  rw[List.drop_eq_nil_of_le (by omega)];exact a4r _ _ _ _ ⟨fun h=>by simp only[decide_eq_true_eq]at h;omega,fun _=>l1m L hL hr _ 0 (Nat.zero_add _)⟩
 |k+1,i,hk=>by
  have hi:i<L.length:=by omega
  have e1:=U4 (i:=i) (by omega);rw[List.drop_eq_getElem_cons hi,chG];refine a4r _ _ _ _ ⟨fun _=>⟨L[i],b6x hi,by omega,_,d2h s hs _ (hr _ (List.getElem_mem hi)),fun h=>?_,fun h=>?_⟩,fun h=>by simp only[decide_eq_false_iff_not]at h;omega⟩
  ·rw[if_neg (by simpa using h)]
  ·rw[if_pos (by simpa using h),e1];exact l5w k (i+1) (by omega)
theorem f0v:b1i s L (l9q s L):=by
 unfold l9q;refine b6w _ _ _ ⟨fun h=>?_,fun h=>?_⟩
 ·simp only[decide_eq_true_eq]at h;rw[if_pos (by omega)]
 ·simp only[decide_eq_false_iff_not]at h;rw[if_neg (by omega)];exact l5w s hs L hL hr _ 0 (Nat.zero_add _)
end
def Ex{α:Type}(Q p:α->Prop):Prop:=∃r,p r/\Q r
section
variable {α β:Type}{Q:α->Prop}
theorem C2{e:α}(h:Q e):Ex Q (fun r=>r=e):=⟨e,rfl,h⟩
theorem E1{c:Prop}[Decidable c]{p q:α->Prop}(h1:c->Ex Q p)(h2:¬c->Ex Q q):Ex Q (fun r=>(decide c=true->p r)/\(decide c=false->q r)):=by
 by_cases h:c
 ·obtain⟨r,a,b⟩:=h1 h;exact⟨r,⟨fun _=>a,fun h'=>absurd h (of_decide_eq_false h')⟩,b⟩
 ·obtain⟨r,a,b⟩:=h2 h;exact⟨r,⟨fun h'=>absurd (of_decide_eq_true h') h,fun _=>a⟩,b⟩
theorem Q0{c:Prop}[Decidable c]{p q:α->Prop}(h1:¬c->Ex Q p)(h2:c->Ex Q q):Ex Q (fun r=>((!decide c)=true->p r)/\((!decide c)=false->q r)):=by
 by_cases h:c
 ·obtain⟨r,a,b⟩:=h2 h;exact⟨r,⟨fun h'=>by simp[h]at h',fun _=>a⟩,b⟩
 ·obtain⟨r,a,b⟩:=h1 h;exact⟨r,⟨fun _=>a,fun h'=>by simp[h]at h'⟩,b⟩
theorem B3(B:Bool){p q:α->Prop}(h1:B=true->Ex Q p)(h2:B=false->Ex Q q):Ex Q (fun r=>(B=true->p r)/\(B=false->q r)):=by
 cases hB:B with
 |true=>obtain⟨r,a,b⟩:=h1 hB;exact⟨r,⟨fun _=>a,fun h=>by cases h⟩,b⟩
 |false=>obtain⟨r,a,b⟩:=h2 hB;exact⟨r,⟨fun h=>(by cases h),fun _=>a⟩,b⟩
theorem A8{F:β->Prop}{G:β->α->Prop}{S:β->Prop}(h:Ex S F)(k:∀y,S y->Ex Q (G y)):Ex Q (fun r=>∃y,F y/\G y r):=by
 obtain⟨y,hy,hs⟩:=h;obtain⟨r,a,b⟩:=k y hs;exact⟨r,⟨y,hy,a⟩,b⟩
theorem j89{F:β->Prop}{G:β->α->Prop}{v:β}(h:F v)(k:Ex Q (G v)):Ex Q (fun r=>∃y,F y/\G y r):=by
 obtain⟨r,a,b⟩:=k;exact⟨r,⟨v,h,a⟩,b⟩
theorem D0{l:List β}{i:Int}{G:β->α->Prop}(h:0<=i/\i<l.length)(k:∀y,l[i.toNat]? =some y->y∈l->Ex Q (G y)):Ex Q (fun r=>∃y,l[i.toNat]? =some y/\0<=i/\G y r):=by
 have hlt:i.toNat<l.length:=by omega
 have he:=List.getElem?_eq_getElem hlt;obtain⟨r,a,b⟩:=k _ he (List.getElem_mem hlt);exact⟨r,⟨_,he,h.1,a⟩,b⟩
theorem c0r{l:List β}{i:Int}{G:β->α->Prop}(y:β)(hy:l[i.toNat]? =some y)(h:0<=i)(k:Ex Q (G y)):Ex Q (fun r=>∃y,l[i.toNat]? =some y/\0<=i/\G y r):=by
 obtain⟨r,a,b⟩:=k;exact⟨r,⟨y,hy,h,a⟩,b⟩
theorem E6{A:Prop}{G:α->Prop}(h:A)(k:Ex Q G):Ex Q (fun r=>A/\G r):=by
 obtain⟨r,a,b⟩:=k;exact⟨r,⟨h,a⟩,b⟩
theorem F3{G:β->α->Prop}{H:(β->Prop)->α->Prop}(k:Ex Q (fun r=>H (fun z=>G z r) r)):Ex Q (fun r=>∃R:β->Prop,(∀z,R z->G z r)/\H R r):=by
 obtain⟨r,a,b⟩:=k;exact⟨r,⟨fun z=>G z r,fun z h=>h,a⟩,b⟩
theorem A6{p F:α->Prop}(h:∀r,p r->F r)(k:Ex Q p):Ex Q F:=by
 obtain⟨r,a,b⟩:=k;exact⟨r,h r a,b⟩
theorem g8z{p:α->Prop}{S:α->Prop}(h:Ex S p)(k:∀r,S r->Q r):Ex Q p:=by
 obtain⟨r,a,b⟩:=h;exact⟨r,a,k r b⟩
theorem Ex.to{p:α->Prop}(h:Ex Q p):∃r,p r/\Q r:=h
end
theorem upn{T:Nat->Prop}(n:Nat)(c06:∀i,i<n->T (i+1)->T i)(fin:∀i,n<=i->T i):∀i,T i:=by
 have:∀k i,n - i<=k->T i:=by
  intro k
  induction k with
  |zero=>exact fun i h=>fin i (by omega)
  |succ k ih=>
   intro i h;rcases Nat.lt_or_ge i n with h1|h1
   ·exact c06 i h1 (ih (i+1) (by omega))
   ·exact fin i h1
 exact fun i=>this (n - i) i (Nat.le_refl _)
theorem Q8{i:Nat}(h:i<=4611686018427387904):wI ((i:Int)+1)=((i+1:Nat):Int):=by rw[wI,c04 (by omega)];omega
theorem c5c{i:Nat}(h:0<i/\i<=4611686018427387904):wI ((i:Int) - 1)=((i - 1:Nat):Int):=by rw[wI,c04 (by omega)];omega
def yes{α:Type}:α->Prop:=fun _=>True
theorem D3{α β:Type}{Q:α->Prop}{G:β->α->Prop}{H:(β->Prop)->Prop}(h:Ex yes (fun z0=>H (fun z=>z0=z)))(k:∀z,Ex Q (G z)):Ex Q (fun r=>∃R:β->Prop,(∀z,R z->G z r)/\H R):=by
 obtain⟨z0,h1,_⟩:=h;obtain⟨r,a,b⟩:=k z0;exact⟨r,⟨fun z=>z0=z,fun z hz=>hz▸a,h1⟩,b⟩
theorem d4i{α:Type}(x:α):(yes:α->Prop) x:=trivial
theorem f41(a b:ByteArray):(a++b).size=a.size+b.size:=ByteArray.size_append
theorem c6d(b:Int):Ex yes (a7a b):=A6 (a2v _) (C2 trivial)
theorem b8j(b:Int):Ex yes (a3o b):=A6 (a0j _) (C2 trivial)
theorem d6x(s:ByteArray)(hs:s.size<=140737488351232):∀i:Nat,Ex yes (P1 (i:Int) s):=by
 refine upn (s.size) (fun i hi ih=>?_) (fun i hi=>?_)
 ·refine A6 (O2 _ _) ?_;rw[Q8 (by omega)]
  repeat' first|exact C2 trivial|exact ih|assumption|refine F3 ?_|refine E1 (fun h=>?_) (fun h=>?_)|refine Q0 (fun h=>?_) (fun h=>?_)|refine B3 _ (fun h=>?_) (fun h=>?_)|refine D0 (by omega) (fun y hy hm=>?_)|refine E6 (by omega) ?_|refine A8 (c6d _) (fun y hq=>?_)|refine A8 (b8j _) (fun y hq=>?_)
 ·refine A6 (O2 _ _) ?_
  repeat' first|exact C2 trivial|exact ih|assumption|exact absurd ‹_› (by omega)|(exfalso;omega)|refine F3 ?_|refine E1 (fun h=>?_) (fun h=>?_)|refine Q0 (fun h=>?_) (fun h=>?_)|refine B3 _ (fun h=>?_) (fun h=>?_)|refine D0 (by omega) (fun y hy hm=>?_)|refine E6 (by omega) ?_|refine A8 (c6d _) (fun y hq=>?_)|refine A8 (b8j _) (fun y hq=>?_)
theorem d2t(s:ByteArray)(hs:s.size<=140737488351232):Ex yes (U9 s):=by
 refine A6 (a6p _) ?_
 repeat' first|exact C2 trivial|exact ih|assumption|exact d6x s hs 1|refine F3 ?_|refine E1 (fun h=>?_) (fun h=>?_)|refine Q0 (fun h=>?_) (fun h=>?_)|refine B3 _ (fun h=>?_) (fun h=>?_)|refine D0 (by first|omega|(simp only[Bool.or_eq_false_iff,Bool.or_eq_true,Bool.and_eq_true,Bool.and_eq_false_iff,beq_iff_eq,beq_eq_false_iff_ne,decide_eq_false_iff_not,decide_eq_true_eq,ne_eq]at*;omega)) (fun y hy hm=>?_)|refine E6 (by first|omega|(simp only[Bool.or_eq_false_iff,Bool.or_eq_true,Bool.and_eq_true,Bool.and_eq_false_iff,beq_iff_eq,beq_eq_false_iff_ne,decide_eq_false_iff_not,decide_eq_true_eq,ne_eq]at*;omega)) ?_|refine A8 (c6d _) (fun y hq=>?_)|refine A8 (b8j _) (fun y hq=>?_)
theorem e44(s:ByteArray):Ex yes (a48 s):=by
 refine A6 (b5l _) ?_
 repeat' first|exact C2 trivial|exact ih|assumption|refine F3 ?_|refine E1 (fun h=>?_) (fun h=>?_)|refine Q0 (fun h=>?_) (fun h=>?_)|refine B3 _ (fun h=>?_) (fun h=>?_)|refine D0 (by omega) (fun y hy hm=>?_)|refine E6 (by omega) ?_
theorem e0l(s:ByteArray)(hs:s.size<=140737488351232):∀i:Nat,∀w:ByteArray,w.size<=i/\i<=140737488351232->Ex yes (O6 (i:Int) w s):=by
 refine upn s.size (fun i hi ih w hw=>?_) (fun i hi w hw=>?_)
 ·have hz:(s.extract ((i:Int)).toNat (((i+1:Nat):Int)).toNat).size<=1:=by rw[c9t _ (by omega)];omega
  refine A6 (O4 _ _ _) ?_;rw[Q8 (by omega)]
  repeat' first|exact C2 trivial|exact ih|assumption|exact ih _ (by rw[f41];omega)|exact ih ⟨#[]⟩ ⟨Nat.zero_le _,by omega⟩|refine F3 ?_|refine E1 (fun h=>?_) (fun h=>?_)|refine Q0 (fun h=>?_) (fun h=>?_)|refine B3 _ (fun h=>?_) (fun h=>?_)|refine D0 (by omega) (fun y hy hm=>?_)|refine E6 (by omega) ?_|refine A8 (d2t _ (by omega)) (fun y hq=>?_)
 ·refine A6 (O4 _ _ _) ?_
  repeat' first|exact C2 trivial|exact ih|assumption|exact absurd ‹_› (by omega)|refine F3 ?_|refine E1 (fun h=>?_) (fun h=>?_)|refine Q0 (fun h=>?_) (fun h=>?_)|refine B3 _ (fun h=>?_) (fun h=>?_)|refine D0 (by omega) (fun y hy hm=>?_)|refine E6 (by omega) ?_|refine A8 (d2t _ (by omega)) (fun y hq=>?_)
theorem k8w(s:ByteArray)(hs:s.size<=140737488351232):Ex yes (a0c s):=by
 refine A6 (a6u _) ?_
 repeat' first|exact C2 trivial|exact ih|assumption|exact e0l s hs 0 ⟨#[]⟩ ⟨Nat.zero_le _,by omega⟩|refine F3 ?_|refine E1 (fun h=>?_) (fun h=>?_)|refine Q0 (fun h=>?_) (fun h=>?_)|refine B3 _ (fun h=>?_) (fun h=>?_)|refine D0 (by omega) (fun y hy hm=>?_)|refine E6 (by omega) ?_
def c8g(s:ByteArray)(r:ByteArray × ByteArray):Prop:=r.1.size<=s.size - 1
theorem d36(s:ByteArray)(hs:s.size<=140737488351232):∀k:Nat,k<=s.size->Ex (c8g s) (a12 ((k:Int) - 1) s):=by
 intro k
 induction k with
 |zero=>exact fun _=>A6 (a4c _ _) (E1 (fun h=>absurd h (by omega)) fun _=>C2 (Nat.zero_le _))
 |succ k ih=>
  intro hk;have e:wI (((k+1:Nat):Int) - 1 - 1)=(k:Int) - 1:=by rw[wI,c04 (by omega)];omega
  refine A6 (a4c _ _) ?_;rw[e];refine E1 (fun h=>E6 (by omega) (B3 _ (fun _=>E6 (by omega) (E6 ?_ (C2 ?_))) fun _=>ih (by omega))) fun h=>absurd (show(0:Int)<=((k+1:Nat):Int) - 1 by omega) h
  ·rw[wI,c04 (by omega)];omega
  ·unfold c8g;simp only;rw[c9t _ (by omega)];omega
theorem g62(s:ByteArray)(hs:s.size<=140737488351232):Ex (c8g s) (b17 s):=by
 refine A6 (b6a _) ?_;rw[wI,c04 (by omega)];exact d36 s hs s.size (Nat.le_refl _)
theorem h09(l:List ByteArray)(hl:l.length<=140737488351232)(s:ByteArray):∀i:Nat,Ex yes (a5c (i:Int) l s):=by
 refine upn (l.length) (fun i hi ih=>?_) (fun i hi=>?_)
 ·refine A6 (a56 _ _ _) ?_
  try rw[Q8 (by omega)]
  repeat' first|exact C2 trivial|exact C2 trivial|assumption|exact ih|refine D3 ?_ (fun z=>?_)|refine F3 ?_|refine E1 (fun h=>?_) (fun h=>?_)|refine Q0 (fun h=>?_) (fun h=>?_)|refine B3 _ (fun h=>?_) (fun h=>?_)|refine D0 (by omega) (fun y hy hm=>?_)|refine E6 (by omega) ?_
 ·refine A6 (a56 _ _ _) ?_
  repeat' first|exact C2 trivial|exact C2 trivial|assumption|exact absurd ‹_› (by omega)|(exfalso;omega)|refine D3 ?_ (fun z=>?_)|refine F3 ?_|refine E1 (fun h=>?_) (fun h=>?_)|refine Q0 (fun h=>?_) (fun h=>?_)|refine B3 _ (fun h=>?_) (fun h=>?_)|refine D0 (by omega) (fun y hy hm=>?_)|refine E6 (by omega) ?_
theorem h8v(l:List ByteArray)(hl:l.length<=140737488351232)(s:ByteArray):Ex yes (b3g l s):=by
 refine A6 (c0q _ _) ?_
 repeat' first|exact C2 trivial|exact C2 trivial|assumption|exact h09 l hl s 0|refine D3 ?_ (fun z=>?_)|refine F3 ?_|refine E1 (fun h=>?_) (fun h=>?_)|refine Q0 (fun h=>?_) (fun h=>?_)|refine B3 _ (fun h=>?_) (fun h=>?_)|refine D0 (by omega) (fun y hy hm=>?_)|refine E6 (by omega) ?_
theorem d0z:∀n:Nat,∀(i:Nat) (s:ByteArray),i<=120->120 - i<=n->s.size<=140737488351232->Ex yes (a00 (i:Int) s):=by
 intro n
 induction n with
 |zero=>
  intro i s h1 h2 hs;refine A6 (a3e _ _) (B3 _ (fun h=>?_) fun _=>C2 trivial);simp only[Bool.and_eq_true,decide_eq_true_eq]at h;exact absurd h.1 (by omega)
 |succ n ih=>
  intro i s h1 h2 hs;refine A6 (a3e _ _) (B3 _ (fun h=>?_) fun _=>C2 trivial);simp only[Bool.and_eq_true,decide_eq_true_eq]at h;refine A8 (g62 s hs) fun y hy=>A8 (e44 _) fun y2 _=>B3 _ (fun _=>C2 trivial) fun _=>?_
  unfold c8g at hy;rw[Q8 (by omega)];exact ih (i+1) y.1 (by omega) (by omega) (by omega)
theorem c2f(s:ByteArray)(hs:s.size<=140737488351232):Ex yes (a2o s):=by
 refine A6 (b4i _) (A8 (k8w s hs) fun y _=>B3 _ (fun _=>C2 trivial) fun _=>?_);exact d0z 120 0 s (by omega) (by omega) hs
theorem c2o(s:ByteArray)(hs:s.size<=140737488351232):Ex yes (M6 s):=by
 refine A6 (a9h _) ?_
 repeat' first|exact C2 trivial|exact C2 trivial|assumption|refine D3 ?_ (fun z=>?_)|refine F3 ?_|refine E1 (fun h=>?_) (fun h=>?_)|refine Q0 (fun h=>?_) (fun h=>?_)|refine B3 _ (fun h=>?_) (fun h=>?_)|refine D0 (by omega) (fun y hy hm=>?_)|refine E6 (by omega) ?_|refine A8 (d2t s hs) (fun y hq=>?_)|refine A8 (e44 s) (fun y hq=>?_)
theorem e6p(s:ByteArray)(i lo hi:Int)(h0:0<=i):Ex yes (Q1 s i lo hi):=by
 refine A6 (b2v _ _ _ _) ?_
 repeat' first|exact C2 trivial|exact C2 trivial|assumption|exact absurd ‹false=true› Bool.noConfusion|refine F3 ?_|refine E1 (fun h=>?_) (fun h=>?_)|refine Q0 (fun h=>?_) (fun h=>?_)|refine B3 _ (fun h=>?_) (fun h=>?_)|refine D0 (by omega) (fun y hy hm=>?_)|refine E6 (by omega) ?_
theorem d93(s:ByteArray)(i n:Int)(h0:0<=i/\i<=1000000000000000)(hn:n<=3):∀k:Nat,Ex yes (a30 (k:Int) s i n):=by
 refine upn 4 (fun k hk ih=>?_) (fun k hk=>?_)
 ·refine A6 (a5s _ _ _ _) ?_;rw[Q8 (by omega),show wI (i+k)=i+k from a3y (by omega)]
  repeat' first|exact C2 trivial|exact C2 trivial|assumption|exact ih|refine D3 ?_ (fun z=>?_)|refine F3 ?_|refine E1 (fun h=>?_) (fun h=>?_)|refine Q0 (fun h=>?_) (fun h=>?_)|refine B3 _ (fun h=>?_) (fun h=>?_)|refine D0 (by omega) (fun y hy hm=>?_)|refine E6 (by omega) ?_|refine A8 (e6p s _ _ _ (by omega)) (fun y hq=>?_)
 ·refine A6 (a5s _ _ _ _) (E1 (fun h=>absurd h (by omega)) fun _=>C2 trivial)
theorem j2o(s:ByteArray)(i n:Int)(h0:0<=i/\i<=1000000000000000)(hn:n<=3):Ex yes (V6 s i n):=by
 refine A6 (c0d _ _ _) ?_
 repeat' first|exact C2 trivial|exact C2 trivial|assumption|exact d93 s i n h0 hn 0|refine D3 ?_ (fun z=>?_)|refine F3 ?_|refine E1 (fun h=>?_) (fun h=>?_)|refine Q0 (fun h=>?_) (fun h=>?_)|refine B3 _ (fun h=>?_) (fun h=>?_)|refine D0 (by omega) (fun y hy hm=>?_)|refine E6 (by omega) ?_
theorem l9c(s:ByteArray)(hs:s.size<=140737488351232)(i:Nat)(hi:i<s.size):Ex (fun r:Int=>0<=r/\r<=4) (b4l s (i:Int)):=by
 have w1:wI ((i:Int)+1)=(i:Int)+1:=a3y (by omega);have w2:wI ((i:Int)+2)=(i:Int)+2:=a3y (by omega);refine A6 (b9s _ _) ?_;rw[w1,w2]
 repeat' first|exact C2 ⟨by omega,by omega⟩|exact C2 trivial|assumption|exact C2 (d4i _)|refine D3 ?_ (fun z=>?_)|refine F3 ?_|refine E1 (fun h=>?_) (fun h=>?_)|refine Q0 (fun h=>?_) (fun h=>?_)|refine B3 _ (fun h=>?_) (fun h=>?_)|refine D0 (by omega) (fun y hy hm=>?_)|refine E6 (by omega) ?_|refine A8 (e6p s _ _ _ (by omega)) (fun y hq=>?_)|refine A8 (j2o s _ _ (by omega) (by omega)) (fun y hq=>?_)
theorem g6b(s:ByteArray)(hs:s.size<=140737488351232):∀n:Nat,∀i:Nat,s.size - i<=n->i<=s.size+4->Ex yes (a5e (i:Int) s):=by
 intro n
 induction n with
 |zero=>
  intro i h1 h2;exact A6 (a6t _ _) (E1 (fun h=>absurd h (by omega)) fun _=>C2 trivial)
 |succ n ih=>
  intro i h1 h2;refine A6 (a6t _ _) (E1 (fun h=>A8 (l9c s hs i (by omega)) fun y hy=>B3 _ (fun _=>C2 trivial) fun h2=>?_) fun _=>C2 trivial);simp only[beq_eq_false_iff_ne,ne_eq]at h2;have e:wI ((i:Int)+y)=((i+y.toNat:Nat):Int):=by rw[a3y (by omega)];omega
  rw[e];exact ih _ (by omega) (by omega)
theorem d4j(s:ByteArray)(hs:s.size<=140737488351232):Ex yes (a60 s):=by
 refine A6 (b58 _) (A8 (A6 (c0z _) (g6b s hs _ 0 (Nat.le_refl _) (by omega))) fun y _=>C2 trivial)
theorem e7b(k:Int)(v:B6)(hv:v.Text.size<=140737488351232):Ex yes (a9y k v):=by
 refine A6 (b9a _ _) ?_
 repeat' first|exact C2 trivial|exact C2 trivial|assumption|exact C2 (d4i _)|refine D3 ?_ (fun z=>?_)|refine F3 ?_|refine E1 (fun h=>?_) (fun h=>?_)|refine Q0 (fun h=>?_) (fun h=>?_)|refine B3 _ (fun h=>?_) (fun h=>?_)|refine D0 (by omega) (fun y hy hm=>?_)|refine E6 (by omega) ?_|refine A8 (A6 (b3n _) (C2 (d4i _))) (fun y hq=>?_)|refine A8 (A6 (b9e _) (C2 (d4i _))) (fun y hq=>?_)|refine A8 (A6 (b6t _) (C2 (d4i _))) (fun y hq=>?_)|refine A8 (d4j _ hv) (fun y hq=>?_)
theorem f1c(b:Int):Ex yes (b1k b):=by
 refine A6 (b6j _) ?_
 repeat' first|exact C2 trivial|exact C2 trivial|assumption|refine D3 ?_ (fun z=>?_)|refine F3 ?_|refine E1 (fun h=>?_) (fun h=>?_)|refine Q0 (fun h=>?_) (fun h=>?_)|refine B3 _ (fun h=>?_) (fun h=>?_)|refine D0 (by omega) (fun y hy hm=>?_)|refine E6 (by omega) ?_
theorem i2z(v:B6):Ex yes (b4p v):=by
 refine A6 (b8e _) ?_
 repeat' first|exact C2 trivial|exact C2 trivial|assumption|refine D3 ?_ (fun z=>?_)|refine F3 ?_|refine E1 (fun h=>?_) (fun h=>?_)|refine Q0 (fun h=>?_) (fun h=>?_)|refine B3 _ (fun h=>?_) (fun h=>?_)|refine D0 (by omega) (fun y hy hm=>?_)|refine E6 (by omega) ?_|refine A8 (f1c _) (fun y hq=>?_)
theorem e0f(b:Bool)(s:ByteArray):Ex yes (R0 b s):=by
 refine A6 (b16 _ _) ?_
 repeat' first|exact C2 trivial|exact C2 trivial|assumption|refine D3 ?_ (fun z=>?_)|refine F3 ?_|refine E1 (fun h=>?_) (fun h=>?_)|refine Q0 (fun h=>?_) (fun h=>?_)|refine B3 _ (fun h=>?_) (fun h=>?_)|refine D0 (by omega) (fun y hy hm=>?_)|refine E6 (by omega) ?_
theorem d8h(b:Bool)(s:ByteArray):Ex yes (S1 b s):=by
 refine A6 (b04 _ _) ?_
 repeat' first|exact C2 trivial|exact C2 trivial|assumption|exact e0f _ s|refine D3 ?_ (fun z=>?_)|refine F3 ?_|refine E1 (fun h=>?_) (fun h=>?_)|refine Q0 (fun h=>?_) (fun h=>?_)|refine B3 _ (fun h=>?_) (fun h=>?_)|refine D0 (by omega) (fun y hy hm=>?_)|refine E6 (by omega) ?_
theorem f7x(b:Bool)(s:ByteArray):Ex yes (a06 b s):=by
 refine A6 (b3y _ _) ?_
 repeat' first|exact C2 trivial|exact C2 trivial|assumption|exact d8h _ s|refine D3 ?_ (fun z=>?_)|refine F3 ?_|refine E1 (fun h=>?_) (fun h=>?_)|refine Q0 (fun h=>?_) (fun h=>?_)|refine B3 _ (fun h=>?_) (fun h=>?_)|refine D0 (by omega) (fun y hy hm=>?_)|refine E6 (by omega) ?_
theorem e09(s:ByteArray):Ex yes (a9p s):=by
 refine A6 (b7p _) ?_
 repeat' first|exact C2 trivial|exact C2 trivial|assumption|exact f7x _ s|refine D3 ?_ (fun z=>?_)|refine F3 ?_|refine E1 (fun h=>?_) (fun h=>?_)|refine Q0 (fun h=>?_) (fun h=>?_)|refine B3 _ (fun h=>?_) (fun h=>?_)|refine D0 (by omega) (fun y hy hm=>?_)|refine E6 (by omega) ?_
theorem f6b(b:Bool)(t:Int):Ex yes (X9 b t):=by
 refine A6 (b1z _ _) ?_
 repeat' first|exact C2 trivial|exact C2 trivial|assumption|refine D3 ?_ (fun z=>?_)|refine F3 ?_|refine E1 (fun h=>?_) (fun h=>?_)|refine Q0 (fun h=>?_) (fun h=>?_)|refine B3 _ (fun h=>?_) (fun h=>?_)|refine D0 (by omega) (fun y hy hm=>?_)|refine E6 (by omega) ?_
theorem f1w(b:Bool)(s:ByteArray)(t:Int):Ex yes (S2 b s t):=by
 refine A6 (b07 _ _ _) ?_
 repeat' first|exact C2 trivial|exact C2 trivial|assumption|exact f6b _ t|refine D3 ?_ (fun z=>?_)|refine F3 ?_|refine E1 (fun h=>?_) (fun h=>?_)|refine Q0 (fun h=>?_) (fun h=>?_)|refine B3 _ (fun h=>?_) (fun h=>?_)|refine D0 (by omega) (fun y hy hm=>?_)|refine E6 (by omega) ?_
theorem g4y(b:Bool)(s:ByteArray)(t:Int):Ex yes (X4 b s t):=by
 refine A6 (b2e _ _ _) ?_
 repeat' first|exact C2 trivial|exact C2 trivial|assumption|exact f1w _ s t|refine D3 ?_ (fun z=>?_)|refine F3 ?_|refine E1 (fun h=>?_) (fun h=>?_)|refine Q0 (fun h=>?_) (fun h=>?_)|refine B3 _ (fun h=>?_) (fun h=>?_)|refine D0 (by omega) (fun y hy hm=>?_)|refine E6 (by omega) ?_
theorem f6y(b:Bool)(s:ByteArray)(t:Int):Ex yes (a2c b s t):=by
 refine A6 (b2h _ _ _) ?_
 repeat' first|exact C2 trivial|exact C2 trivial|assumption|exact g4y _ s t|refine D3 ?_ (fun z=>?_)|refine F3 ?_|refine E1 (fun h=>?_) (fun h=>?_)|refine Q0 (fun h=>?_) (fun h=>?_)|refine B3 _ (fun h=>?_) (fun h=>?_)|refine D0 (by omega) (fun y hy hm=>?_)|refine E6 (by omega) ?_
theorem m7c(s:ByteArray)(t:Int):Ex yes (b5p s t):=by
 refine A6 (b84 _ _) ?_
 repeat' first|exact C2 trivial|exact C2 trivial|assumption|exact f6y _ s t|refine D3 ?_ (fun z=>?_)|refine F3 ?_|refine E1 (fun h=>?_) (fun h=>?_)|refine Q0 (fun h=>?_) (fun h=>?_)|refine B3 _ (fun h=>?_) (fun h=>?_)|refine D0 (by omega) (fun y hy hm=>?_)|refine E6 (by omega) ?_
theorem OkD.text{v:B6}(h:OkD v):v.Text.size<=140737488351232:=by
 cases h with
 |mk _ k b t l p s r=>exact t
theorem b2b{n:Nat}(h:Sz n):n<=140737488351232:=h
theorem g20(n:D7)(hn:a2e n):Ex yes (b1s n):=by
 refine A6 (b6v _) ?_
 repeat' first|exact C2 trivial|exact C2 trivial|assumption|refine D3 ?_ (fun z=>?_)|refine F3 ?_|refine E1 (fun h=>?_) (fun h=>?_)|refine Q0 (fun h=>?_) (fun h=>?_)|refine B3 _ (fun h=>?_) (fun h=>?_)|refine D0 (by omega) (fun y hy hm=>?_)|refine E6 (by omega) ?_|refine A8 (e09 _) (fun y hq=>?_)|refine A8 (e7b _ _ hn.val.text) (fun y hq=>?_)
theorem i1v(l:List D7)(t:Int)(i:Nat)(hi:i<l.length)(hl:l.length<=140737488351232)(b:Bool)(ih:Ex yes (S5 ((i+1:Nat):Int) l t)):Ex yes (a19 b (i:Int) l t):=by
 refine A6 (b0w _ _ _ _) ?_;rw[Q8 (by omega)];refine B3 _ (fun _=>C2 trivial) fun _=>E1 (fun h=>D0 (by omega) fun y hy hm=>?_) fun _=>ih
 rw[c5c (by omega)];exact D0 (by omega) fun y hy hm=>B3 _ (fun _=>C2 trivial) fun _=>ih
theorem h2b(l:List D7)(hl:Sz l.length)(hn:∀n∈l,a2e n)(t:Int):∀i:Nat,Ex yes (S5 (i:Int) l t):=by
 have b1:=b2b hl;refine upn l.length (fun i hi ih=>?_) (fun i hi=>?_)
 ·refine A6 (a4k _ _ _) ?_;have h4:=fun b=>i1v l t i hi b1 b ih
  repeat' first|exact C2 trivial|exact C2 trivial|assumption|exact h4 _|rw[c5c (by omega)]|refine D3 ?_ (fun z=>?_)|refine F3 ?_|refine E1 (fun h=>?_) (fun h=>?_)|refine Q0 (fun h=>?_) (fun h=>?_)|refine B3 _ (fun h=>?_) (fun h=>?_)|refine D0 (by omega) (fun y hy hm=>?_)|refine E6 (by omega) ?_|refine A8 (e09 _) (fun y hq=>?_)|refine A8 (m7c _ _) (fun y hq=>?_)|refine A8 (g20 _ (hn _ ‹_›)) (fun y hq=>?_)
 ·exact A6 (a4k _ _ _) (E1 (fun h=>absurd h (by omega)) fun _=>C2 trivial)
theorem n12(l:List D7)(hl:Sz l.length)(hn:∀n∈l,a2e n)(t:Int):Ex yes (b15 l t):=by
 refine A6 (b6s _ _) ?_
 repeat' first|exact C2 trivial|exact C2 trivial|assumption|exact h2b l hl hn t 0|refine D3 ?_ (fun z=>?_)|refine F3 ?_|refine E1 (fun h=>?_) (fun h=>?_)|refine Q0 (fun h=>?_) (fun h=>?_)|refine B3 _ (fun h=>?_) (fun h=>?_)|refine D0 (by omega) (fun y hy hm=>?_)|refine E6 (by omega) ?_
structure SmM(m:A9):Prop where
 nf:m.Fields.length<=400
 nr:m.Reserved.length<=400
 ng:m.Gone.length<=400
structure SmE(m:a20):Prop where
 ni:m.Items.length<=400
 nr:m.Reserved.length<=400
structure SmS(s:A2):Prop where
 nm:s.Messages.length<=150
 ne:s.Enums.length<=150
 ns:s.Services.length<=150
 msgs:∀m∈s.Messages,SmM m
 enums:∀m∈s.Enums,SmE m
 servs:∀m∈s.Services,m.Methods.length<=400
def LE(n:Nat)(l:List B1):Prop:=l.length<=n
theorem V7(p:G1)(b:Bool)(n e:Int)(h:p.l.length<=1000000000):Ex (fun r:G1=>r.l.length<=p.l.length+1) (B2 p b n e):=
 A6 (b2a _ _ _ _) (B3 _ (fun _=>E6 (by simp;omega) (C2 (by simp))) fun _=>C2 (by omega))
theorem b5d(p:G1)(l:List D7)(hl:Sz l.length)(hn:∀n∈l,a2e n)(t n:Int)(h:p.l.length<=1000000000):Ex (fun r:G1=>r.l.length<=p.l.length+1) (I4 p l t n):=
 A6 (a9d _ _ _ _) (A8 (n12 l hl hn t) fun y _=>A8 (V7 _ _ _ _ h) fun z hz=>C2 hz)
theorem d53(l:List U6)(hl:l.length<=400)(a b:Int)(B:Nat)(hB:B<=1000000000):∀i:Nat,∀(d:ByteArray) (p:List B1),p.length+2*(l.length - i)<=B->Ex (fun r:G1=>r.l.length<=B) (M2 (i:Int) l a b d p):=by
 refine upn l.length (fun i hi ih d p hp=>?_) (fun i hi d p hp=>?_)
 ·refine A6 (a0f _ _ _ _ _ _) (E1 (fun _=>D0 (by omega) fun y hy hm=>?_) fun h=>absurd (show(i:Int)<l.length by omega) h);refine D3 ?_ fun z=>D3 ?_ fun z2=>?_
  ·repeat' first|exact C2 trivial|exact C2 trivial|assumption|refine D3 ?_ (fun z=>?_)|refine F3 ?_|refine E1 (fun h=>?_) (fun h=>?_)|refine Q0 (fun h=>?_) (fun h=>?_)|refine B3 _ (fun h=>?_) (fun h=>?_)|refine D0 (by omega) (fun y hy hm=>?_)|refine E6 (by omega) ?_
  ·repeat' first|exact C2 trivial|exact C2 trivial|assumption|refine D3 ?_ (fun z=>?_)|refine F3 ?_|refine E1 (fun h=>?_) (fun h=>?_)|refine Q0 (fun h=>?_) (fun h=>?_)|refine B3 _ (fun h=>?_) (fun h=>?_)|refine D0 (by omega) (fun y hy hm=>?_)|refine E6 (by omega) ?_
  ·refine A8 (V7 _ _ _ _ (show p.length<=1000000000 by omega)) fun y1 h1=>?_
   have h1':y1.l.length<=p.length+1:=h1;rw[Q8 (by omega)];refine E1 (fun h=>D0 (by omega) fun y2 _ _=>?_) fun h=>A8 (V7 _ _ _ _ (by omega)) fun y2 h2=>ih _ _ (by omega)
   rw[c5c (by omega)];exact D0 (by omega) fun y3 _ _=>A8 (V7 _ _ _ _ (by omega)) fun y2 h2=>ih _ _ (by omega)
 ·exact A6 (a0f _ _ _ _ _ _) (E1 (fun h=>absurd h (by omega)) fun _=>C2 (show p.length<=B by omega))
theorem d2u(p:G1)(l:List U6)(hl:l.length<=400)(a b:Int)(h:p.l.length<=999000000):Ex (fun r:G1=>r.l.length<=p.l.length+800) (Y4 p l a b):=
 A6 (a8d _ _ _ _) (d53 l hl a b (p.l.length+800) (by omega) 0 _ _ (by omega))
theorem g25(l:List U6)(hl:l.length<=400)(n:Int):∀i:Nat,Ex yes (O5 (i:Int) l n):=by
 refine upn (l.length) (fun i hi ih=>?_) (fun i hi=>?_)
 ·refine A6 (a1p _ _ _) ?_
  try rw[Q8 (by omega)]
  repeat' first|exact C2 trivial|exact C2 trivial|assumption|exact ih|refine D3 ?_ (fun z=>?_)|refine F3 ?_|refine E1 (fun h=>?_) (fun h=>?_)|refine Q0 (fun h=>?_) (fun h=>?_)|refine B3 _ (fun h=>?_) (fun h=>?_)|refine D0 (by omega) (fun y hy hm=>?_)|refine E6 (by omega) ?_
 ·refine A6 (a1p _ _ _) ?_
  repeat' first|exact C2 trivial|exact C2 trivial|assumption|exact absurd ‹_› (by omega)|(exfalso;omega)|refine D3 ?_ (fun z=>?_)|refine F3 ?_|refine E1 (fun h=>?_) (fun h=>?_)|refine Q0 (fun h=>?_) (fun h=>?_)|refine B3 _ (fun h=>?_) (fun h=>?_)|refine D0 (by omega) (fun y hy hm=>?_)|refine E6 (by omega) ?_
theorem l1v(l:List U6)(hl:l.length<=400)(n:Int):Ex yes (a10 l n):=by
 refine A6 (b09 _ _) ?_
 repeat' first|exact C2 trivial|exact C2 trivial|assumption|exact g25 l hl n 0|refine D3 ?_ (fun z=>?_)|refine F3 ?_|refine E1 (fun h=>?_) (fun h=>?_)|refine Q0 (fun h=>?_) (fun h=>?_)|refine B3 _ (fun h=>?_) (fun h=>?_)|refine D0 (by omega) (fun y hy hm=>?_)|refine E6 (by omega) ?_
theorem l2a(f:A5):Ex yes (b36 f):=by
 refine A6 (b8u _) ?_
 repeat' first|exact C2 trivial|exact C2 trivial|assumption|refine D3 ?_ (fun z=>?_)|refine F3 ?_|refine E1 (fun h=>?_) (fun h=>?_)|refine Q0 (fun h=>?_) (fun h=>?_)|refine B3 _ (fun h=>?_) (fun h=>?_)|refine D0 (by omega) (fun y hy hm=>?_)|refine E6 (by omega) ?_
section
variable (s:A2) (hs:SmS s)
 include hs
def inM(n:Nat)(r:Int):Prop:=r<(n:Int)
theorem d63(name:ByteArray):∀i:Nat,Ex (inM s.Messages.length) (P9 (i:Int) name s):=by
 have hb:=hs.nm;refine upn s.Messages.length (fun i hi ih=>?_) (fun i hi=>?_)
 ·refine A6 (a0g _ _ _) (E1 (fun _=>D0 (by omega) fun y _ _=>?_) fun h=>absurd (show(i:Int)<s.Messages.length by omega) h);rw[Q8 (by omega)];exact B3 _ (fun _=>C2 (by unfold inM;omega)) fun _=>ih
 ·exact A6 (a0g _ _ _) (E1 (fun h=>absurd h (by omega)) fun _=>C2 (by unfold inM;omega))
theorem c8x(name:ByteArray):Ex (inM s.Messages.length) (M4 s name):=A6 (a8a _ _) (d63 s hs name 0)
theorem d6y(name:ByteArray):∀i:Nat,Ex (inM s.Enums.length) (Z0 (i:Int) name s):=by
 have hb:=hs.ne;refine upn s.Enums.length (fun i hi ih=>?_) (fun i hi=>?_)
 ·refine A6 (a2i _ _ _) (E1 (fun _=>D0 (by omega) fun y _ _=>?_) fun h=>absurd (show(i:Int)<s.Enums.length by omega) h);rw[Q8 (by omega)];exact B3 _ (fun _=>C2 (by unfold inM;omega)) fun _=>ih
 ·exact A6 (a2i _ _ _) (E1 (fun h=>absurd h (by omega)) fun _=>C2 (by unfold inM;omega))
theorem e3e(name:ByteArray):Ex (inM s.Enums.length) (a3z s name):=A6 (b3x _ _) (d6y s hs name 0)
theorem d3i(m:A9)(hm:m.Fields.length<=400)(fin:List Bool)(hf:fin.length=s.Messages.length):∀i:Nat,Ex yes (S6 (i:Int) fin s m):=by
 refine upn m.Fields.length (fun i hi ih=>?_) (fun i hi=>?_)
 ·refine A6 (a4v _ _ _ _) (E1 (fun _=>D0 (by omega) fun y _ _=>?_) fun h=>absurd (show(i:Int)<m.Fields.length by omega) h);rw[Q8 (by omega)];refine B3 _ (fun _=>ih) fun _=>A8 (c8x s hs _) fun y2 h2=>E1 (fun h=>?_) fun _=>ih
  unfold inM at h2;exact D0 (by omega) fun y3 _ _=>B3 _ (fun _=>C2 trivial) fun _=>ih
 ·exact A6 (a4v _ _ _ _) (E1 (fun h=>absurd h (by omega)) fun _=>C2 trivial)
theorem d2z(m:A9)(hm:m.Fields.length<=400)(fin:List Bool)(hf:fin.length=s.Messages.length):Ex yes (a7m s m fin):=A6 (b56 _ _ _) (d3i s hs m hm fin hf 0)
theorem k1j(k:Nat)(hk:k<150)(H:∀b (l:List Bool),l.length=s.Messages.length->Ex (fun r:List Bool=>r.length=s.Messages.length) (V2 ((k+1:Nat):Int) b s l)):∀i:Nat,∀b (l:List Bool),l.length=s.Messages.length->Ex (fun r:List Bool=>r.length=s.Messages.length) (O8 (i:Int) b (k:Int) s l):=by
 have hb:=hs.nm;refine upn s.Messages.length (fun i hi ih b l hl=>?_) (fun i hi b l hl=>?_)
 ·refine A6 (a3a _ _ _ _ _) (E1 (fun _=>E6 (by omega) ?_) fun h=>absurd (show(i:Int)<s.Messages.length by omega) h);rw[Q8 (by omega)];have hlt:i<l.length:=by omega
  refine j89 (v:=l[i]) (by rw[Int.toNat_natCast];exact List.getElem?_eq_getElem hlt) (B3 _ (fun _=>D0 (by omega) fun y hy hm=>E6 (by omega) (A8 (d2z s hs y (hs.msgs y hm).nf l hl) fun z _=>B3 _ (fun _=>E6 (by omega) (E6 (by omega) (ih _ _ (by simpa using hl)))) fun _=>ih _ _ hl)) fun _=>ih _ _ hl)
 ·refine A6 (a3a _ _ _ _ _) (E1 (fun h=>absurd h (by omega)) fun _=>?_);rw[Q8 (by omega)];exact H b l hl
theorem k6g:∀i:Nat,∀b (l:List Bool),l.length=s.Messages.length->Ex (fun r:List Bool=>r.length=s.Messages.length) (V2 (i:Int) b s l):=by
 have hb:=hs.nm;refine upn s.Messages.length (fun i hi ih b l hl=>?_) (fun i hi b l hl=>?_)
 ·exact A6 (a3g _ _ _ _) (B3 _ (fun _=>k1j s hs i (by omega) ih 0 false l hl) fun _=>E6 (by omega) (C2 hl))
 ·refine A6 (a3g _ _ _ _) (B3 _ (fun h=>?_) fun _=>E6 (by omega) (C2 hl));simp only[Bool.and_eq_true,decide_eq_true_eq]at h;exact absurd h.1 (by omega)
theorem d6k:Ex (fun r:List Bool=>r.length=s.Messages.length) (a8u s):=by
 have hb:=hs.nm;exact A6 (b4x _) (E6 (by omega) (k6g s hs 0 _ _ (by simp)))
theorem o02(f:A5):Ex yes (b78 s f):=by
 refine A6 (c0o _ _) ?_
 repeat' first|exact C2 trivial|exact C2 trivial|assumption|refine D3 ?_ (fun z=>?_)|refine F3 ?_|refine E1 (fun h=>?_) (fun h=>?_)|refine Q0 (fun h=>?_) (fun h=>?_)|refine B3 _ (fun h=>?_) (fun h=>?_)|refine D0 (by omega) (fun y hy hm=>?_)|refine E6 (by omega) ?_|refine A8 (e3e s hs _) (fun y hq=>?_)|refine A8 (c8x s hs _) (fun y hq=>?_)
theorem k6e(f:A5)(y:Int)(hy:0<=y/\y<s.Enums.length):∀i:Nat,Ex yes (a18 (i:Int) y s f):=by
 obtain⟨e,he⟩:∃e,s.Enums[y.toNat]? =some e:=⟨_,List.getElem?_eq_getElem (by omega)⟩
 have hm:=List.mem_of_getElem? he;have hb:=(hs.enums e hm).ni;refine upn e.Items.length (fun i hi ih=>?_) (fun i hi=>?_)
 ·refine A6 (a4q _ _ _ _) (c0r e he (by omega) (E1 (fun _=>c0r e he (by omega) (D0 (by omega) fun z _ _=>?_)) fun h=>absurd (show(i:Int)<e.Items.length by omega) h));rw[Q8 (by omega)];exact B3 _ (fun _=>C2 trivial) fun _=>ih
 ·exact A6 (a4q _ _ _ _) (c0r e he (by omega) (E1 (fun h=>absurd h (by omega)) fun _=>C2 trivial))
theorem i6j(b:Bool)(f:A5):Ex yes (a16 b s f):=by
 refine A6 (b06 _ _ _) (B3 _ (fun _=>C2 trivial) fun _=>A8 (e3e s hs _) fun y hy=>B3 _ (fun _=>C2 trivial) fun _=>E1 (fun _=>C2 trivial) fun h=>?_);unfold inM at hy;exact k6e s hs f y (by omega) 0
theorem h1r(f:A5)(hf:c2g f):Ex yes (b1t s f):=by
 have hsame:∀a b,Ex yes (Y2 a b):=fun a b=>A6 (a8t _ _) (C2 trivial)
 refine A6 (b6f _ _) ?_
 repeat' first|exact C2 trivial|exact C2 trivial|assumption|exact i6j s hs _ f|refine D3 ?_ (fun z=>?_)|refine F3 ?_|refine E1 (fun h=>?_) (fun h=>?_)|refine Q0 (fun h=>?_) (fun h=>?_)|refine B3 _ (fun h=>?_) (fun h=>?_)|refine D0 (by omega) (fun y hy hm=>?_)|refine E6 (by omega) ?_|refine A8 (hsame _ _) (fun y hq=>?_)|refine A8 (e7b _ _ hf.dflt.text) (fun y hq=>?_)|refine A8 (i2z _) (fun y hq=>?_)
end
theorem d1z(m:A9)(hm:m.Fields.length<=400)(a:Nat)(ha:a<m.Fields.length)(y:A5):∀i:Nat,∀b,(b=true->0<a)->Ex yes (S0 (i:Int) b (a:Int) m y):=by
 refine upn m.Fields.length (fun i hi ih b hb=>?_) (fun i hi b hb=>?_)
 ·refine A6 (a4p _ _ _ _ _) (E1 (fun _=>D0 (by omega) fun z _ _=>?_) fun h=>absurd (show(i:Int)<m.Fields.length by omega) h);rw[Q8 (by omega)];exact B3 _ (fun _=>C2 trivial) fun _=>E1 (fun h=>D0 (by omega) fun w _ _=>B3 _ (fun _=>ih _ (fun _=>by omega)) fun _=>ih _ hb) fun _=>ih _ hb
 ·refine A6 (a4p _ _ _ _ _) (E1 (fun h=>absurd h (by omega)) fun _=>B3 _ (fun _=>C2 trivial) fun h=>?_);have h0:=hb (by simpa using h);rw[c5c (by omega)];exact D0 (by omega) fun w _ _=>C2 trivial
theorem f0a(m:A9)(hm:m.Fields.length<=400)(ho:b1y m)(a:Nat)(ha:a<m.Fields.length):Ex yes (b2f m (a:Int)):=by
 refine A6 (b6b _ _) (D0 (by omega) fun y hy hym=>B3 _ (fun _=>C2 trivial) fun _=>D3 ?_ fun z=>B3 _ (fun _=>C2 trivial) fun _=>d1z m hm a ha y 0 false fun h=>by cases h)
 repeat' first|exact C2 trivial|exact C2 trivial|assumption|refine D3 ?_ (fun z=>?_)|refine F3 ?_|refine E1 (fun h=>?_) (fun h=>?_)|refine Q0 (fun h=>?_) (fun h=>?_)|refine B3 _ (fun h=>?_) (fun h=>?_)|refine D0 (by omega) (fun y hy hm=>?_)|refine E6 (by omega) ?_|refine A8 (c2o _ (ho.fields _ ‹_›).union) (fun y hq=>?_)
section
variable (s:A2) (hs:SmS s) (os:a0i s)
 include hs os
theorem j6o(m:A9)(hm:SmM m)(om:b1y m)(fin:List Bool)(hf:fin.length=s.Messages.length):∀i:Nat,∀(d:ByteArray) (p:List B1),p.length+(m.Gone.length - i)<=9000->Ex (LE 10000) (Y9 (i:Int) fin s m d p):=by
 have h1:=hm.ng;refine upn m.Gone.length (fun i hi ih d p hp=>?_) (fun i hi d p hp=>?_)
 ·refine A6 (a2p _ _ _ _ _ _) (E1 (fun _=>D0 (by omega) fun y hy hym=>A8 (d4j _ (om.gone y hym)) fun y2 _=>A8 (V7 _ _ _ _ (show p.length<=1000000000 by omega)) fun y3 h3=>?_) fun h=>absurd (show(i:Int)<m.Gone.length by omega) h);have h3':y3.l.length<=p.length+1:=h3;rw[Q8 (by omega)];exact ih _ _ (by omega)
 ·refine A6 (a2p _ _ _ _ _ _) (E1 (fun h=>absurd h (by omega)) fun _=>A8 (b5d _ _ om.nn om.notes _ _ (show p.length<=1000000000 by omega)) fun y h3=>?_);have h3':y.l.length<=p.length+1:=h3;exact A8 (d2z s hs m hm.nf fin hf) fun y2 _=>A8 (V7 _ _ _ _ (by omega)) fun y4 h4=>C2 (by unfold LE;omega)
theorem k7n(m:A9)(hm:SmM m)(om:b1y m)(fin:List Bool)(k:Nat)(hk:k<m.Fields.length)(f:A5)(hfm:f∈m.Fields)(d:ByteArray)(p:List B1)(hp:p.length<=8000)
  (H:∀(d:ByteArray) (p2:List B1),p2.length<=p.length+11->Ex (LE 10000) (Q5 ((k+1:Nat):Int) fin s m d p2)):∀i:Nat,i<=k->∀b,Ex (LE 10000) (M5 (i:Int) b (k:Int) fin s m d p f):=by
 have b1:=hm.nf;have b2:=hm.nr;have ho:=om.fields f hfm
 have key:∀n i:Nat,k - i<=n->i<=k->∀b,Ex (LE 10000) (M5 (i:Int) b (k:Int) fin s m d p f):=by
  intro n
  induction n with
  |zero=>
   intro i h1 h2 b;refine A6 (a2d _ _ _ _ _ _ _ _ _) (E1 (fun h=>absurd h (by omega)) fun _=>?_);refine A8 (V7 _ _ _ _ (show p.length<=1000000000 by omega)) fun y0 q0=>?_
   have q0':y0.l.length<=p.length+1:=q0;refine D3 ?_ fun z=>?_
   ·refine E1 (fun h=>?_) fun _=>C2 trivial
    rw[c5c (by omega)];exact D0 (by omega) fun w _ _=>C2 trivial
   refine A8 (V7 _ _ _ _ (by omega)) fun y1 q1=>A8 (c2o _ ho.name) fun _ _=>A8 (V7 _ _ _ _ (by omega)) fun y2 q2=>A8 (V7 _ _ _ _ (by omega)) fun y3 q3=>A8 (l1v _ b2 _) fun _ _=>?_
   refine D3 ?_ fun z=>?_
   ·exact B3 _ (fun _=>C2 trivial) fun _=>A8 (h8v _ om.ng _) fun _ _=>C2 trivial
   refine A8 (V7 _ _ _ _ (by omega)) fun y4 q4=>A8 (l2a _) fun _ _=>A8 (V7 _ _ _ _ (by omega)) fun y5 q5=>A8 (o02 s hs _) fun _ _=>A8 (V7 _ _ _ _ (by omega)) fun y6 q6=>A8 (f0a m b1 om k hk) fun _ _=>A8 (V7 _ _ _ _ (by omega)) fun y7 q7=>A8 (h1r s hs f ho) fun _ _=>A8 (V7 _ _ _ _ (by omega)) fun y8 q8=>A8 (b5d _ _ ho.nn ho.notes _ _ (by omega)) fun y9 q9=>?_
   rw[Q8 (by omega)];exact H _ _ (by omega)
  |succ n ih=>
   intro i h1 h2 b
   by_cases hik:i=k
   ·exact ih i (by omega) h2 b
   ·refine A6 (a2d _ _ _ _ _ _ _ _ _) (E1 (fun h=>D0 (by omega) fun w _ _=>?_) fun h=>absurd (show(i:Int)<k by omega) h);rw[Q8 (by omega)];exact B3 _ (fun _=>ih _ (by omega) (by omega) _) fun _=>ih _ (by omega) (by omega) _
 exact fun i hi b=>key (k - i) i (Nat.le_refl _) hi b
theorem h6n(m:A9)(hm:SmM m)(om:b1y m)(fin:List Bool)(hf:fin.length=s.Messages.length):∀i:Nat,∀(d:ByteArray) (p:List B1),p.length+11*(m.Fields.length - i)<=7000->Ex (LE 10000) (Q5 (i:Int) fin s m d p):=by
 have b1:=hm.nf;have b2:=hm.ng;refine upn m.Fields.length (fun i hi ih d p hp=>?_) (fun i hi d p hp=>?_)
 ·refine A6 (a2r _ _ _ _ _ _) (E1 (fun _=>D0 (by omega) fun y hy hym=>?_) fun h=>absurd (show(i:Int)<m.Fields.length by omega) h);exact k7n s hs os m hm om fin i hi y hym d p (by omega) (fun d p2 h2=>ih d p2 (by omega)) 0 (by omega) false
 ·refine A6 (a2r _ _ _ _ _ _) (E1 (fun h=>absurd h (by omega)) fun _=>A8 (d2u _ _ hm.nr _ _ (show p.length<=999000000 by omega)) fun y hy=>?_);have hy':y.l.length<=p.length+800:=hy;exact j6o s hs os m hm om fin hf 0 _ _ (by omega)
theorem o1z(m:A9)(hm:SmM m)(om:b1y m)(fin:List Bool)(hf:fin.length=s.Messages.length):Ex (LE 10000) (a65 s m fin):=by
 have b1:=hm.nf;refine A6 (b3w _ _ _) (A8 (c2f _ om.name) fun _ _=>A8 (V7 _ _ _ _ (by simp)) fun y1 h1=>?_);have h1':y1.l.length<=0+1:=h1;exact A8 (V7 _ _ _ _ (by omega)) fun y2 h2=>h6n s hs os m hm om fin hf 0 _ _ (by omega)
 omit hs os
theorem k9f(e:a20)(hm:SmE e)(om:b80 e)(k:Nat)(hk:k<e.Items.length)(f:b6m)(hfm:f∈e.Items)(d:ByteArray)(p:List B1)(hp:p.length<=8000)
  (H:∀(d:ByteArray) (p2:List B1),p2.length<=p.length+7->Ex (LE 10000) (a0t ((k+1:Nat):Int) e d p2)):∀i:Nat,i<=k->∀b,Ex (LE 10000) (V8 (i:Int) b (k:Int) e d p f):=by
 have b1:=hm.ni;have b2:=hm.nr;have ho:=om.items f hfm
 have key:∀n i:Nat,k - i<=n->i<=k->∀b,Ex (LE 10000) (V8 (i:Int) b (k:Int) e d p f):=by
  intro n
  induction n with
  |zero=>
   intro i h1 h2 b;refine A6 (a5h _ _ _ _ _ _ _) (E1 (fun h=>absurd h (by omega)) fun _=>?_);refine A8 (V7 _ _ _ _ (show p.length<=1000000000 by omega)) fun y0 q0=>?_
   have q0':y0.l.length<=p.length+1:=q0;refine D3 ?_ fun z=>?_
   ·refine E1 (fun h=>?_) fun _=>C2 trivial
    rw[c5c (by omega)];exact D0 (by omega) fun w _ _=>C2 trivial
   refine A8 (V7 _ _ _ _ (by omega)) fun y1 q1=>A8 (c2o _ ho.name) fun _ _=>A8 (V7 _ _ _ _ (by omega)) fun y2 q2=>A8 (V7 _ _ _ _ (by omega)) fun y3 q3=>A8 (l1v _ b2 _) fun _ _=>A8 (V7 _ _ _ _ (by omega)) fun y4 q4=>A8 (b5d _ _ ho.nn ho.notes _ _ (by omega)) fun y9 q9=>?_
   rw[Q8 (by omega)];exact H _ _ (by omega)
  |succ n ih=>
   intro i h1 h2 b
   by_cases hik:i=k
   ·exact ih i (by omega) h2 b
   ·refine A6 (a5h _ _ _ _ _ _ _) (E1 (fun h=>D0 (by omega) fun w _ _=>?_) fun h=>absurd (show(i:Int)<k by omega) h);rw[Q8 (by omega)];exact B3 _ (fun _=>ih _ (by omega) (by omega) _) fun _=>ih _ (by omega) (by omega) _
 exact fun i hi b=>key (k - i) i (Nat.le_refl _) hi b
theorem k8j(e:a20)(hm:SmE e)(om:b80 e):∀i:Nat,∀(d:ByteArray) (p:List B1),p.length+7*(e.Items.length - i)<=7000->Ex (LE 10000) (a0t (i:Int) e d p):=by
 have b1:=hm.ni;refine upn e.Items.length (fun i hi ih d p hp=>?_) (fun i hi d p hp=>?_)
 ·refine A6 (a44 _ _ _ _) (E1 (fun _=>D0 (by omega) fun y hy hym=>?_) fun h=>absurd (show(i:Int)<e.Items.length by omega) h);exact k9f e hm om i hi y hym d p (by omega) (fun d p2 h2=>ih d p2 (by omega)) 0 (by omega) false
 ·refine A6 (a44 _ _ _ _) (E1 (fun h=>absurd h (by omega)) fun _=>A8 (d2u _ _ hm.nr _ _ (show p.length<=999000000 by omega)) fun y hy=>?_);have hy':y.l.length<=p.length+800:=hy;exact A8 (b5d _ _ om.nn om.notes _ _ (by omega)) fun y2 h2=>C2 (by unfold LE;omega)
theorem l90(e:a20)(hm:SmE e)(om:b80 e):Ex (LE 10000) (b49 e):=by
 have b1:=hm.ni;refine A6 (b7n _) (A8 (c2f _ om.name) fun _ _=>A8 (V7 _ _ _ _ (by simp)) fun y1 h1=>?_);have h1':y1.l.length<=0+1:=h1;refine A8 (V7 _ _ _ _ (by omega)) fun y2 h2=>D3 ?_ fun z=>A8 (V7 _ _ _ _ (by omega)) fun y3 h3=>k8j e hm om 0 _ _ (by omega)
 exact E1 (fun h=>D0 (by omega) fun w _ _=>C2 trivial) fun _=>C2 trivial
 include hs
theorem k3z(v:C4)(hm:v.Methods.length<=400)(om:b3j v):∀i:Nat,∀(d:ByteArray) (p:List B1),p.length+5*(v.Methods.length - i)<=7000->Ex (LE 10000) (Y1 (i:Int) s v d p):=by
 refine upn v.Methods.length (fun i hi ih d p hp=>?_) (fun i hi d p hp=>?_)
 ·refine A6 (a2m _ _ _ _ _) (E1 (fun _=>D0 (by omega) fun y hy hym=>?_) fun h=>absurd (show(i:Int)<v.Methods.length by omega) h);have ho:=om.meths y hym;refine A8 (c2o _ ho.name) fun _ _=>A8 (V7 _ _ _ _ (show p.length<=1000000000 by omega)) fun y0 q0=>?_
  have q0':y0.l.length<=p.length+1:=q0;refine D3 ?_ fun z=>?_
  ·refine E1 (fun h=>?_) fun _=>C2 trivial
   rw[c5c (by omega)];exact D0 (by omega) fun w _ _=>C2 trivial
  refine A8 (V7 _ _ _ _ (by omega)) fun y1 q1=>A8 (c8x s hs _) fun _ _=>D3 ?_ fun z=>?_
  ·exact B3 _ (fun _=>C2 trivial) fun _=>A8 (c8x s hs _) fun _ _=>C2 trivial
  refine A8 (V7 _ _ _ _ (by omega)) fun y2 q2=>A8 (V7 _ _ _ _ (by omega)) fun y3 q3=>A8 (b5d _ _ ho.nn ho.notes _ _ (by omega)) fun y4 q4=>?_
  rw[Q8 (by omega)];exact ih _ _ (by omega)
 ·refine A6 (a2m _ _ _ _ _) (E1 (fun h=>absurd h (by omega)) fun _=>A8 (b5d _ _ om.nn om.notes _ _ (show p.length<=1000000000 by omega)) fun y hy=>?_);have hy':y.l.length<=p.length+1:=hy;exact C2 (by unfold LE;omega)
theorem n19(v:C4)(hm:v.Methods.length<=400)(om:b3j v):Ex (LE 10000) (a7j s v):=by
 refine A6 (b2s _ _) (A8 (c2f _ om.name) fun _ _=>A8 (V7 _ _ _ _ (by simp)) fun y1 h1=>?_);have h1':y1.l.length<=0+1:=h1;exact A8 (V7 _ _ _ _ (by omega)) fun y2 h2=>k3z s hs v hm om 0 _ _ (by omega)
def LNm(l:List ByteArray):Prop:=l.length<=450
theorem d4o(w:Int):∀i:Nat,∀l:List ByteArray,l.length+(s.Services.length - i)<=450->Ex LNm (a1f (i:Int) l w s):=by
 have b1:=hs.nm;have b2:=hs.ne;have b3:=hs.ns;refine upn s.Services.length (fun i hi ih l hl=>?_) (fun i hi l hl=>?_)
 ·refine A6 (a3d _ _ _ _) (B3 _ (fun _=>D0 (by omega) fun y _ _=>E6 (by simp;omega) ?_) fun _=>C2 (by unfold LNm;omega));rw[Q8 (by omega)];exact ih _ (by simp;omega)
 ·refine A6 (a3d _ _ _ _) (B3 _ (fun h=>?_) fun _=>C2 (by unfold LNm;omega));simp only[Bool.and_eq_true,decide_eq_true_eq]at h;exact absurd h.2 (by omega)
theorem d5k(w:Int):∀i:Nat,∀l:List ByteArray,l.length+(s.Enums.length - i)<=300->Ex LNm (a0x (i:Int) l w s):=by
 have b1:=hs.nm;have b2:=hs.ne;have b3:=hs.ns;refine upn s.Enums.length (fun i hi ih l hl=>?_) (fun i hi l hl=>?_)
 ·refine A6 (a28 _ _ _ _) (B3 _ (fun _=>D0 (by omega) fun y _ _=>E6 (by simp;omega) ?_) fun _=>d4o s hs w 0 _ (by omega));rw[Q8 (by omega)];exact ih _ (by simp;omega)
 ·refine A6 (a28 _ _ _ _) (B3 _ (fun h=>?_) fun _=>d4o s hs w 0 _ (by omega));simp only[Bool.and_eq_true,decide_eq_true_eq]at h;exact absurd h.2 (by omega)
theorem l3p(w:Int):∀i:Nat,∀l:List ByteArray,l.length+(s.Messages.length - i)<=150->Ex LNm (a17 (i:Int) l w s):=by
 have b1:=hs.nm;have b2:=hs.ne;have b3:=hs.ns;refine upn s.Messages.length (fun i hi ih l hl=>?_) (fun i hi l hl=>?_)
 ·refine A6 (a4z _ _ _ _) (B3 _ (fun _=>D0 (by omega) fun y _ _=>E6 (by simp;omega) ?_) fun _=>d5k s hs w 0 _ (by omega));rw[Q8 (by omega)];exact ih _ (by simp;omega)
 ·refine A6 (a4z _ _ _ _) (B3 _ (fun h=>?_) fun _=>d5k s hs w 0 _ (by omega));simp only[Bool.and_eq_true,decide_eq_true_eq]at h;exact absurd h.2 (by omega)
theorem c2r(w:Int):Ex LNm (a1t s w):=by
 have b1:=hs.nm;exact A6 (b6n _ _) (l3p s hs w 0 _ (by simp;omega))
 omit hs
theorem f0h(l:List ByteArray)(hl:LNm l):∀i:Nat,1<=i->Ex yes (S9 (i:Int) l):=by
 unfold LNm at hl;refine upn l.length (fun i hi ih h1=>?_) (fun i hi h1=>?_)
 ·refine A6 (a1b _ _) (E1 (fun _=>D0 (by omega) fun y _ _=>?_) fun h=>absurd (show(i:Int)<l.length by omega) h);rw[Q8 (by omega),c5c (by omega)];exact D0 (by omega) fun y2 _ _=>B3 _ (fun _=>C2 trivial) fun _=>ih (by omega)
 ·exact A6 (a1b _ _) (E1 (fun h=>absurd h (by omega)) fun _=>C2 trivial)
theorem n84(l:List ByteArray)(hl:LNm l):Ex yes (a4t l):=A6 (a96 _) (f0h l hl 1 (Nat.le_refl _))
theorem d9n(l b:List ByteArray)(hl:LNm l)(hb:LNm b):∀i:Nat,Ex yes (a3u (i:Int) l b):=by
 unfold LNm at hl hb;refine upn l.length (fun i hi ih=>?_) (fun i hi=>?_)
 ·refine A6 (a5k _ _ _) (E1 (fun _=>D0 (by omega) fun y _ _=>A8 (h8v b (by omega) _) fun _ _=>?_) fun h=>absurd (show(i:Int)<l.length by omega) h);rw[Q8 (by omega)];exact B3 _ (fun _=>C2 trivial) fun _=>ih
 ·exact A6 (a5k _ _ _) (E1 (fun h=>absurd h (by omega)) fun _=>C2 trivial)
theorem d2q(l b:List ByteArray)(hl:LNm l)(hb:LNm b):Ex yes (a6c l b):=A6 (b91 _ _) (d9n l b hl hb 0)
 include hs os
theorem h18(y:G1):∀i:Nat,∀p:List B1,p.length+10000*(s.Services.length - i)<=5000000->Ex yes (a3s (i:Int) s y p):=by
 have b3:=hs.ns;refine upn s.Services.length (fun i hi ih p hp=>?_) (fun i hi p hp=>?_)
 ·refine A6 (a5i _ _ _ _) (E1 (fun _=>D0 (by omega) fun y hy hm=>A8 (n19 s hs y (hs.servs y hm) (os.servs y hm)) fun z hz=>?_) fun h=>absurd (show(i:Int)<s.Services.length by omega) h);unfold LE at hz;rw[Q8 (by omega)];exact E6 (by omega) (ih _ (by simp;omega))
 ·exact A6 (a5i _ _ _ _) (E1 (fun h=>absurd h (by omega)) fun _=>C2 trivial)
theorem g5r(y:G1):∀i:Nat,∀p:List B1,p.length+10000*(s.Enums.length - i)<=3400000->Ex yes (a3p (i:Int) s y p):=by
 have b2:=hs.ne;have b3:=hs.ns;refine upn s.Enums.length (fun i hi ih p hp=>?_) (fun i hi p hp=>?_)
 ·refine A6 (a5u _ _ _ _) (E1 (fun _=>D0 (by omega) fun y hy hm=>A8 (l90 y (hs.enums y hm) (os.enums y hm)) fun z hz=>?_) fun h=>absurd (show(i:Int)<s.Enums.length by omega) h);unfold LE at hz;rw[Q8 (by omega)];exact E6 (by omega) (ih _ (by simp;omega))
 ·exact A6 (a5u _ _ _ _) (E1 (fun h=>absurd h (by omega)) fun _=>h18 s hs os y 0 _ (by omega))
theorem g3k(fin:List Bool)(hf:fin.length=s.Messages.length)(y:G1):∀i:Nat,∀p:List B1,p.length+10000*(s.Messages.length - i)<=1700000->Ex yes (a3q (i:Int) fin s y p):=by
 have b1:=hs.nm;have b2:=hs.ne;refine upn s.Messages.length (fun i hi ih p hp=>?_) (fun i hi p hp=>?_)
 ·refine A6 (a5m _ _ _ _ _) (E1 (fun _=>D0 (by omega) fun y hy hm=>A8 (o1z s hs os y (hs.msgs y hm) (os.msgs y hm) fin hf) fun z hz=>?_) fun h=>absurd (show(i:Int)<s.Messages.length by omega) h);unfold LE at hz;rw[Q8 (by omega)];exact E6 (by omega) (ih _ (by simp;omega))
 ·exact A6 (a5m _ _ _ _ _) (E1 (fun h=>absurd h (by omega)) fun _=>g5r s hs os y 0 _ (by omega))
theorem l0n:∀i:Nat,∀(d:ByteArray) (p:List B1),p.length+2*(4 - i)<=100->Ex yes (a5q (i:Int) s d p):=by
 have b1:=hs.nm;refine upn 4 (fun i hi ih d p hp=>?_) (fun i hi d p hp=>?_)
 ·refine A6 (a57 _ _ _ _) (E1 (fun _=>A8 (c2r s hs _) fun y hy=>A8 (V7 _ _ _ _ (show p.length<=1000000000 by omega)) fun y1 h1=>?_) fun h=>absurd (show(i:Int)<=3 by omega) h);have h1':y1.l.length<=p.length+1:=h1;refine A8 (n84 _ hy) fun _ _=>A8 (V7 _ _ _ _ (by omega)) fun y2 h2=>?_
  rw[Q8 (by omega)];exact ih _ _ (by omega)
 ·refine A6 (a57 _ _ _ _) (E1 (fun h=>absurd h (by omega)) fun _=>A8 (c2r s hs _) fun y1 h1=>A8 (c2r s hs _) fun y2 h2=>A8 (c2r s hs _) fun y3 h3=>A8 (d2q _ _ h1 h2) fun y4 _=>D3 ?_ fun z=>D3 ?_ fun z2=>A8 (V7 _ _ _ _ (show p.length<=1000000000 by omega)) fun y5 h5=>?_)
  ·exact B3 _ (fun _=>C2 trivial) fun _=>A8 (d2q _ _ h1 h3) fun _ _=>C2 trivial
  ·exact B3 _ (fun _=>C2 trivial) fun _=>A8 (d2q _ _ h2 h3) fun _ _=>C2 trivial
  ·have h5':y5.l.length<=p.length+1:=h5;exact A8 (d6k s hs) fun fin hf=>g3k s hs os fin hf y5 0 _ (by omega)
theorem d3f:Ex yes (b2i s):=
 A6 (b6g _) (A8 (A6 (c0t _) (l0n s hs os 1 _ _ (by simp))) fun y _=>C2 trivial)
end
def Few(n:Nat)(left r:Int):Prop:=r=(n:Int)\/r=left+10
theorem c1u(l:List D7)(hl:Sz l.length)(left:Int)(h: -1000000000<=left/\left<=400):Ex (Few l.length left) (L1 l left):=by
 have b1:=b2b hl
 have key:∀i:Nat,Ex (Few l.length left) (V5 (i:Int) l left):=by
  refine upn l.length (fun i hi ih=>?_) (fun i hi=>?_)
  ·refine A6 (a1n _ _ _) (B3 _ (fun _=>D0 (by omega) fun y _ _=>D0 (by omega) fun y2 _ _=>B3 _ (fun _=>C2 (.inr (a3y (by omega)))) fun _=>?_) fun _=>C2 (.inl rfl));rw[Q8 (by omega)];exact ih
  ·refine A6 (a1n _ _ _) (B3 _ (fun h2=>?_) fun _=>C2 (.inl rfl));simp only[Bool.and_eq_true,decide_eq_true_eq]at h2;exact absurd h2.1 (by omega)
 exact A6 (b1o _ _) (key 0)
theorem b9k(l:List ByteArray)(hl:Sz l.length)(left:Int)(h: -1000000000<=left/\left<=400):Ex (Few l.length left) (J6 l left):=by
 have b1:=b2b hl
 have key:∀i:Nat,Ex (Few l.length left) (W0 (i:Int) l left):=by
  refine upn l.length (fun i hi ih=>?_) (fun i hi=>?_)
  ·refine A6 (a1l _ _ _) (B3 _ (fun _=>D0 (by omega) fun y _ _=>B3 _ (fun _=>C2 (.inr (a3y (by omega)))) fun _=>?_) fun _=>C2 (.inl rfl));rw[Q8 (by omega)];exact ih
  ·refine A6 (a1l _ _ _) (B3 _ (fun h2=>?_) fun _=>C2 (.inl rfl));simp only[Bool.and_eq_true,decide_eq_true_eq]at h2;exact absurd h2.1 (by omega)
 exact A6 (b1r _ _) (key 0)
def LOw(left:Int):Prop:= -1000000000000000<=left/\left<=400
theorem w5{x:Int}(h: -1000000000000000000<=x/\x<=1000000000000000000):wI x=x:=a3y (by omega)
section
variable (s:A2) (os:a0i s)
 include os
def SmV(m:C4):Prop:=m.Methods.length<=400
 omit os
theorem b5b{α:Type}{l:List α}{T:α->Prop}{i:Nat}(hi:i<l.length)(h:∀j g,j<i->l[j]? =some g->T g)(ht:T l[i]):∀j g,j<i+1->l[j]? =some g->T g:=by
 intro j g hj hg
 by_cases e:j=i
 ·subst e;rw[List.getElem?_eq_getElem hi]at hg;cases hg;exact ht
 ·exact h j g (by omega) hg
theorem b9x{α:Type}{l:List α}{T:α->Prop}{k:Nat}(h:∀j g,j<k->l[j]? =some g->T g)(hk:l.length<=k):∀g∈l,T g:=by
 intro g hg;obtain⟨j,hj⟩:=List.mem_iff_getElem?.1 hg;exact h j g (by have:=(List.getElem?_eq_some_iff.1 hj).1;omega) hj
 include os
theorem o6k(m:C4)(om:b3j m)(i:Nat)(Q:Bool->Prop)(L0:Int)(hL:L0<=400)(H:∀left,LOw left->(0<=left->(m.Methods.length:Int)<=L0)->Ex Q (U1 (wI ((i:Int)+1)) left s)):∀k:Nat,∀left,LOw left->(0<=left->left+k<=L0)->Ex Q (a0q (k:Int) left (i:Int) s m):=by
 have b1:=b2b om.nm;refine upn m.Methods.length (fun k hk ih left hl h0=>?_) (fun k hk left hl h0=>?_)
 ·unfold LOw at hl;refine A6 (a27 _ _ _ _ _) (B3 _ (fun h=>D0 (by omega) fun y hy hm=>?_) fun h=>H left hl fun h1=>?_)
  ·simp only[Bool.and_eq_true,decide_eq_true_eq]at h;have oy:=om.meths y hm;have b2:=b2b oy.nn;refine A8 (c1u _ oy.nn left (by omega)) fun r1 q1=>c0r y hy (by omega) (c0r y hy (by omega) (c0r y hy (by omega) (A8 (b9k _ (by unfold Sz;simp) left (by omega)) fun r2 q2=>?_)))
   have q2':r2=3\/r2=left+10:=q2;unfold Few at q1;rw[Q8 (by omega),w5 (x:=left - r1) (by omega),w5 (x:=left - r1 - r2) (by omega),w5 (x:=left - r1 - r2+2) (by omega)];exact ih _ (by unfold LOw;omega) (by omega)
  ·simp only[Bool.and_eq_false_iff,decide_eq_false_iff_not]at h;omega
 ·refine A6 (a27 _ _ _ _ _) (B3 _ (fun h=>?_) fun h=>H left hl fun h1=>by have:=h0 h1;omega);simp only[Bool.and_eq_true,decide_eq_true_eq]at h;exact absurd h.1 (by omega)
theorem o3d(hs:s.Services.length<=150)(A:Prop):∀i:Nat,∀left,LOw left->(0<=left->A/\∀(j:Nat) (m:C4),j<i->s.Services[j]? =some m->SmV m)->Ex (fun r=>r=true->A/\∀m∈s.Services,SmV m) (U1 (i:Int) left s):=by
 refine upn s.Services.length (fun i hi ih left hl h0=>?_) (fun i hi left hl h0=>?_)
 ·have hl':=hl;unfold LOw at hl';refine A6 (a3j _ _ _) (B3 _ (fun h=>c0r s.Services[i] (by simp) (by omega) ?_) fun h=>C2 fun h1=>?_)
  ·simp only[Bool.and_eq_true,decide_eq_true_eq]at h;have oy:=os.servs _ (List.getElem_mem hi);have b2:=b2b oy.nn;refine A8 (c1u _ oy.nn left (by omega)) fun r1 q1=>A8 (b9k _ (by unfold Sz;simp) left (by omega)) fun r2 q2=>?_
   have q2':r2=1\/r2=left+10:=q2;unfold Few at q1;rw[w5 (x:=left - r1) (by omega),w5 (x:=left - r1 - r2) (by omega)];refine o6k s os s.Services[i] oy i _ (left - r1 - r2) (by omega) (fun l2 hl2 h2=>?_) 0 _ (by unfold LOw;omega) (by omega);rw[Q8 (by omega)];refine ih l2 hl2 fun h3=>⟨(h0 h.2).1,b5b hi (h0 h.2).2 ?_⟩
   have:=h2 h3;unfold SmV;omega
  ·simp only[Bool.and_eq_false_iff,decide_eq_false_iff_not]at h;simp only[decide_eq_true_eq]at h1;omega
 ·refine A6 (a3j _ _ _) (B3 _ (fun h=>?_) fun h=>C2 fun h1=>?_)
  ·simp only[Bool.and_eq_true,decide_eq_true_eq]at h;exact absurd h.1 (by omega)
  ·simp only[decide_eq_true_eq]at h1;exact⟨(h0 h1).1,b9x (h0 h1).2 hi⟩
theorem o54(m:a20)(om:b80 m)(i:Nat)(Q:Bool->Prop)(L0:Int)(hL:L0<=400)(H:∀left,LOw left->(0<=left->(m.Items.length:Int)<=L0)->Ex Q (T6 (wI ((i:Int)+1)) left s)):∀k:Nat,∀left,LOw left->(0<=left->left+k<=L0)->Ex Q (a02 (k:Int) left (i:Int) s m):=by
 have b1:=b2b om.ni;refine upn m.Items.length (fun k hk ih left hl h0=>?_) (fun k hk left hl h0=>?_)
 ·unfold LOw at hl;refine A6 (a3k _ _ _ _ _) (B3 _ (fun h=>D0 (by omega) fun y hy hm=>?_) fun h=>H left hl fun h1=>?_)
  ·simp only[Bool.and_eq_true,decide_eq_true_eq]at h;have oy:=om.items y hm;have b2:=b2b oy.nn;refine A8 (c1u _ oy.nn left (by omega)) fun r1 q1=>c0r y hy (by omega) (A8 (b9k _ (by unfold Sz;simp) left (by omega)) fun r2 q2=>?_)
   have q2':r2=1\/r2=left+10:=q2;unfold Few at q1;rw[Q8 (by omega),w5 (x:=left - r1) (by omega),w5 (x:=left - r1 - r2) (by omega)];exact ih _ (by unfold LOw;omega) (by omega)
  ·simp only[Bool.and_eq_false_iff,decide_eq_false_iff_not]at h;omega
 ·refine A6 (a3k _ _ _ _ _) (B3 _ (fun h=>?_) fun h=>H left hl fun h1=>by have:=h0 h1;omega);simp only[Bool.and_eq_true,decide_eq_true_eq]at h;exact absurd h.1 (by omega)
theorem o3e(hs:s.Services.length<=150)(he:s.Enums.length<=150)(A:Prop):∀i:Nat,∀left,LOw left->(0<=left->A/\∀(j:Nat) (m:a20),j<i->s.Enums[j]? =some m->SmE m)->Ex (fun r=>r=true->(A/\∀m∈s.Enums,SmE m)/\∀m∈s.Services,SmV m) (T6 (i:Int) left s):=by
 refine upn s.Enums.length (fun i hi ih left hl h0=>?_) (fun i hi left hl h0=>?_)
 ·have hl':=hl;unfold LOw at hl';refine A6 (a24 _ _ _) (B3 _ (fun h=>c0r s.Enums[i] (by simp) (by omega) ?_) fun h=>?_)
  ·simp only[Bool.and_eq_true,decide_eq_true_eq]at h;have oy:=os.enums _ (List.getElem_mem hi);have b2:=b2b oy.nn;have b3:=b2b oy.nr;refine A8 (c1u _ oy.nn left (by omega)) fun r1 q1=>A8 (b9k _ (by unfold Sz;simp) left (by omega)) fun r2 q2=>?_
   have q2':r2=1\/r2=left+10:=q2;unfold Few at q1;rw[w5 (x:=left - r1) (by omega),w5 (x:=left - r1 - (s.Enums[i].Reserved.length:Int)) (by omega),w5 (x:=left - r1 - (s.Enums[i].Reserved.length:Int) - r2) (by omega)];refine o54 s os s.Enums[i] oy i _ (left - r1 - (s.Enums[i].Reserved.length:Int) - r2) (by omega) (fun l2 hl2 h2=>?_) 0 _ (by unfold LOw;omega) (by omega);rw[Q8 (by omega)];refine ih l2 hl2 fun h3=>⟨(h0 h.2).1,b5b hi (h0 h.2).2 ?_⟩
   have:=h2 h3;exact⟨by omega,by omega⟩
  ·simp only[Bool.and_eq_false_iff,decide_eq_false_iff_not]at h;exact o3d s os hs _ 0 left hl fun h1=>absurd h1 (by omega)
 ·refine A6 (a24 _ _ _) (B3 _ (fun h=>?_) fun h=>o3d s os hs _ 0 left hl fun h1=>⟨⟨(h0 h1).1,b9x (h0 h1).2 hi⟩,fun j m hj=>by omega⟩);simp only[Bool.and_eq_true,decide_eq_true_eq]at h;exact absurd h.1 (by omega)
theorem o4b(m:A9)(om:b1y m)(i:Nat)(Q:Bool->Prop)(L0:Int)(hL:L0<=400)(H:∀left,LOw left->(0<=left->(m.Fields.length:Int)<=L0)->Ex Q (U3 (wI ((i:Int)+1)) left s)):∀k:Nat,∀left,LOw left->(0<=left->left+k<=L0)->Ex Q (U0 (k:Int) left (i:Int) s m):=by
 have b1:=b2b om.nf;refine upn m.Fields.length (fun k hk ih left hl h0=>?_) (fun k hk left hl h0=>?_)
 ·unfold LOw at hl;refine A6 (a3b _ _ _ _ _) (B3 _ (fun h=>D0 (by omega) fun y hy hm=>?_) fun h=>H left hl fun h1=>?_)
  ·simp only[Bool.and_eq_true,decide_eq_true_eq]at h;have oy:=om.fields y hm;have b2:=b2b oy.nn;refine A8 (c1u _ oy.nn left (by omega)) fun r1 q1=>A8 (b9k _ (by unfold Sz;simp) left (by omega)) fun r2 q2=>?_
   have q2':r2=3\/r2=left+10:=q2;unfold Few at q1;rw[Q8 (by omega),w5 (x:=left - 1) (by omega),w5 (x:=left - 1 - r1) (by omega),w5 (x:=left - 1 - r1 - r2) (by omega),w5 (x:=left - 1 - r1 - r2+3) (by omega)];exact B3 _ (fun _=>ih _ (by unfold LOw;omega) (by omega)) fun _=>ih _ (by unfold LOw;omega) (by omega)
  ·simp only[Bool.and_eq_false_iff,decide_eq_false_iff_not]at h;omega
 ·refine A6 (a3b _ _ _ _ _) (B3 _ (fun h=>?_) fun h=>H left hl fun h1=>by have:=h0 h1;omega);simp only[Bool.and_eq_true,decide_eq_true_eq]at h;exact absurd h.1 (by omega)
theorem o5z(hs:s.Services.length<=150)(he:s.Enums.length<=150)(hm:s.Messages.length<=150):∀i:Nat,∀left,LOw left->(0<=left->∀(j:Nat) (m:A9),j<i->s.Messages[j]? =some m->SmM m)->Ex (fun r=>r=true->((∀m∈s.Messages,SmM m)/\∀m∈s.Enums,SmE m)/\∀m∈s.Services,SmV m) (U3 (i:Int) left s):=by
 refine upn s.Messages.length (fun i hi ih left hl h0=>?_) (fun i hi left hl h0=>?_)
 ·have hl':=hl;unfold LOw at hl';refine A6 (a29 _ _ _) (B3 _ (fun h=>c0r s.Messages[i] (by simp) (by omega) ?_) fun h=>?_)
  ·simp only[Bool.and_eq_true,decide_eq_true_eq]at h;have oy:=os.msgs _ (List.getElem_mem hi);have b2:=b2b oy.nn;have b3:=b2b oy.nr;have b4:=b2b oy.ng;refine A8 (c1u _ oy.nn left (by omega)) fun r1 q1=>A8 (b9k _ oy.ng left (by omega)) fun r2 q2=>A8 (b9k _ (by unfold Sz;simp) left (by omega)) fun r3 q3=>?_
   have q3':r3=1\/r3=left+10:=q3;unfold Few at q1 q2;rw[w5 (x:=left - r1) (by omega),w5 (x:=left - r1 - (s.Messages[i].Reserved.length:Int)) (by omega),w5 (x:=left - r1 - (s.Messages[i].Reserved.length:Int) - r2) (by omega),w5 (x:=left - r1 - (s.Messages[i].Reserved.length:Int) - r2 - r3) (by omega)];refine o4b s os s.Messages[i] oy i _ (left - r1 - (s.Messages[i].Reserved.length:Int) - r2 - r3) (by omega) (fun l2 hl2 h2=>?_) 0 _ (by unfold LOw;omega) (by omega);rw[Q8 (by omega)];refine ih l2 hl2 fun h3=>b5b hi (h0 h.2) ?_
   have:=h2 h3;exact⟨by omega,by omega,by omega⟩
  ·simp only[Bool.and_eq_false_iff,decide_eq_false_iff_not]at h;exact o3e s os hs he _ 0 left hl fun h1=>absurd h1 (by omega)
 ·refine A6 (a29 _ _ _) (B3 _ (fun h=>?_) fun h=>o3e s os hs he _ 0 left hl fun h1=>⟨b9x (h0 h1) hi,fun j m hj=>by omega⟩);simp only[Bool.and_eq_true,decide_eq_true_eq]at h;exact absurd h.1 (by omega)
theorem d10:Ex (fun r=>r=true->SmS s) (b1n s):=by
 refine A6 (b6y _) (B3 _ (fun _=>C2 fun h=>by cases h) fun h=>?_);simp only[Bool.or_eq_false_iff,decide_eq_false_iff_not]at h;have hm:s.Messages.length<=150:=by omega
 have he:s.Enums.length<=150:=by omega
 have hs:s.Services.length<=150:=by omega
 exact g8z (o5z s os hs he hm 0 400 ⟨by omega,by omega⟩ fun _ j m hj=>by omega) fun r hr h1=>⟨hm,he,hs,(hr h1).1.1,(hr h1).1.2,(hr h1).2⟩
theorem k8c(l:List B4):∃b,b4a s l b/\(b=true->l.length<=70/\∀x∈l,h9g x):=by
 obtain⟨b1,h1,g1⟩:=d7m l;obtain⟨b2,h2,g2⟩:=d10 s os;cases b1 with
 |false=>exact⟨false,a4x _ _ _ ⟨_,h1,fun h=>(by cases h),fun _=>rfl⟩,fun h=>by cases h⟩
 |true=>
  cases b2 with
  |false=>exact⟨false,a4x _ _ _ ⟨_,h1,fun _=>⟨_,h2,fun h=>(by cases h),fun _=>rfl⟩,fun h=>by cases h⟩,fun h=>by cases h⟩
  |true=>
   obtain⟨b3,h3,_⟩:=d3f s (g2 rfl) os;exact⟨b3,a4x _ _ _ ⟨_,h1,fun _=>⟨_,h2,fun _=>⟨_,h3,rfl⟩,fun h=>by cases h⟩,fun h=>by cases h⟩,fun _=>g1 rfl⟩
end
theorem c6q(mg:Int)(s:A2)(os:a0i s)(l:List B4):a4u mg s l true:=by
 obtain⟨b,h1,h2⟩:=k8c s os l;refine a6s _ _ _ _ ⟨b,h1,fun _=>⟨_,c87 mg,rfl⟩,fun h=>?_⟩;obtain⟨h3,h4⟩:=h2 (by simpa using h);exact⟨_,f7p mg s os l h3 h4,_,f0v s os l h3 h4,fun _=>⟨_,c87 mg,rfl⟩,fun hf=>by simp at hf⟩
theorem k10:Rows.gatewayChecksRow.inPlace=Tryz.prog.inPlace 3:=by kernel_rfl
theorem k11:Tryz.prog.unfollowed 3=true:=by kernel_rfl
theorem k12:Tryz.prog.recurses 3=true:=by unfold Program.recurses;rw[k11];rfl
theorem k13:Rows.gatewayChecksRow.named=Tryz.prog.varsNamed 3:=by kernel_rfl
theorem o6r:Tryz.prog.funcs.any Func.goes=false:=by kernel_rfl
theorem f5h{P:Program}(h:P.funcs.any Func.goes=false)(f:FuncId):P.goes f=false:=by
 unfold Program.goes;rw[h,Bool.and_false,Bool.or_false];refine List.any_eq_false.2 fun g _=>?_
 cases hg:P.funcs[g]? with
 |none=>simp
 |some fn=>
  rw[Array.any_eq_false]at h;obtain⟨hl,he⟩:=Array.getElem?_eq_some_iff.1 hg;have:=h g hl;rw[he]at this;simpa using this
theorem kg:false=Rows.gatewayChecksRow.goesBy Tryz.prog:=by
 have:Rows.gatewayChecksRow.goesBy Tryz.prog=Tryz.prog.goesFrom Rows.gatewayChecksRow.func:=by unfold OpenClaim.goesBy Program.goesAt;exact Bool.or_false _
 rw[this];unfold Program.goesFrom;cases Tryz.prog.funcNamed Rows.gatewayChecksRow.func with
 |none=>rfl
 |some f=>rw[Option.any_some,f5h o6r]
theorem a0a{a b:Bool}(h:a=true)(k:b=true):(a&&b)=true:=by rw[h,k];rfl
set_option maxHeartbeats 100000000 in
theorem closed:joinedFacts Tryz.prog 3 Tryz.f3 (OpenSpec.ofChange Rows.gatewayChecksSpec).bare Rows.gatewayChecksRow=true:=by
 unfold joinedFacts;refine(a0a (a0a (a0a (a0a (a0a (a0a (a0a (a0a (a0a (a0a (a0a (a0a (a0a (a0a (a0a (a0a (a0a (a0a (a0a (a0a (a0a (a0a (a0a (a0a (a0a (a0a (a0a (a0a (a0a (a0a (a0a ?_ ?_) ?_) ?_) ?_) ?_) ?_) ?_) ?_) ?_) ?_) ?_) ?_) ?_) ?_) ?_) ?_) ?_) ?_) ?_) ?_) ?_) ?_) ?_) ?_) ?_) ?_) ?_) ?_) ?_) ?_) ?_)
 ·as_aux_lemma=>kernel_rfl
 ·as_aux_lemma=>kernel_rfl
 ·as_aux_lemma=>kernel_rfl
 ·as_aux_lemma=>kernel_rfl
 ·as_aux_lemma=>kernel_rfl
 ·as_aux_lemma=>kernel_rfl
 ·as_aux_lemma=>kernel_rfl
 ·as_aux_lemma=>kernel_rfl
 ·as_aux_lemma=>kernel_rfl
 ·exact beq_iff_eq.2 k10
 ·exact beq_iff_eq.2 k11.symm
 ·exact beq_iff_eq.2 k12.symm
 ·exact beq_iff_eq.2 k13
 ·as_aux_lemma=>kernel_rfl
 ·as_aux_lemma=>kernel_rfl
 ·as_aux_lemma=>kernel_rfl
 ·as_aux_lemma=>kernel_rfl
 ·as_aux_lemma=>kernel_rfl
 ·as_aux_lemma=>kernel_rfl
 ·as_aux_lemma=>kernel_rfl
 ·as_aux_lemma=>kernel_rfl
 ·as_aux_lemma=>kernel_rfl
 ·as_aux_lemma=>kernel_rfl
 ·as_aux_lemma=>kernel_rfl
 ·as_aux_lemma=>kernel_rfl
 ·as_aux_lemma=>kernel_rfl
 ·as_aux_lemma=>kernel_rfl
 ·as_aux_lemma=>kernel_rfl
 ·as_aux_lemma=>kernel_rfl
 ·as_aux_lemma=>kernel_rfl
 ·as_aux_lemma=>kernel_rfl
 ·as_aux_lemma=>kernel_rfl
end Go.Proofs.YtkhgohfaecbgkaaGreatDoor.Lift
