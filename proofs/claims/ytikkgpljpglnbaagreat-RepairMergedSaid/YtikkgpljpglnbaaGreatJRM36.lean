import Derived.Test.YtikkgpljpglnbaaGreatCRMText
import Derived.Test.YtikkgpljpglnbaaGreatJRM33
import Derived.Shelf.GgSortFunc.InsertionK
import Derived.Test.YtikkgpljpglnbaaGreatJRM31
namespace Wx
open Go Go.RowKit Go.Proofs
end Wx

namespace Wx
set_option maxRecDepth 100000
set_option maxHeartbeats 1000000
open Go Go.RowKit Go.Proofs
def iY (q:Rat):List Nat:=(if q.num<0 then[45]else[])++(bF q.num.natAbs++(if q.den=1 then[]else 47::bF q.den))
theorem ic {j n:Nat} (h:Bd j n):(bF n).length<=j+1:=by
 unfold bF
 split
 ·simp
 ·have:=Ce h; unfold On at this; omega
theorem uH (l:List Nat):(⟨#[45]⟩:ByteArray)++strOf l=strOf (45::l):=fA [45] l
theorem uI (l:List Nat):(⟨#[47]⟩:ByteArray)++strOf l=strOf (47::l):=fA [47] l
theorem GO (w:World) (v:Value) (x:Rat) (hx:bW w v x) {j:Nat} (hj:fB j x) (gg:j<=100000000) (hn:¬x.num<0) (hd:¬x.den=1):Calls Tryz.prog 17 #[v] w (eZ w (.string (strOf (iY x)))):=by
 obtain⟨Hh,Hi,rfl,nE,kF⟩:=id hx
 obtain⟨dF,dJ,rfl,_⟩:=id nE
 obtain⟨dG,dK,rfl,_⟩:=id kF
 have HB:=bx hj
 have hT:iY x=bF x.num.natAbs++47::bF x.den:=by unfold iY; rw[if_neg hn,if_neg hd]; simp
 rw[hT,decide_eq_false hn]at *
 rw[kQ hd]at *
 have Wv:(1:Int)<=((af b64 x.den).length:Int):=by have:=(aX (n:=x.den) ak).2 x.den_pos; omega
 have hl2:=ic hj.2
 have hz2:=bP (bF x.den)
 have PJ:=uI (bF x.den)
 have hz3:=bP (47::bF x.den)
 have WU:=fA (bF x.num.natAbs) (47::bF x.den)
 have Cn:=ic hj.1
 have hz1:=bP (bF x.num.natAbs)
 have Py:1+(bF x.den).length<=9223372036854775807:=by omega
 have SD:(bF x.num.natAbs).length+((bF x.den).length+1)<=9223372036854775807:=by omega
 clear hj hn hd hT Cn hl2
 go_enter Tryz.func17,Tryz.ntmps17
 go_wp2_with fail
 obtain⟨w1,e1,o1,b1,s1⟩:=gI w (.bool false) (.slice dF (af b64 x.num.natAbs).length dJ) (.slice dG (af b64 x.den).length dK) 47
 rw[e1]
 clear e1
 refine Calls.mono (jw w1 _ _ (nE.below b1) HB.out.1 gg) ?_
 rintro e w2 ⟨rfl,hb2⟩
 have k0:=(o1.gone hb2).c0
 have k1:=(o1.gone hb2).c1
 have k2:=(o1.gone hb2).c2
 have FL:=(kF.below b1).below hb2
 have B2:=b1.trans (hb2.mono b1.size)
 go_wp2_with fail
 refine Calls.mono (jw w2 _ _ FL HB.out.2 gg) ?_
 rintro e w3 ⟨rfl,hb3⟩
 go_wp2
 go_ret
 exact⟨rfl,B2.trans (hb3.mono B2.size)⟩
theorem GQ (w:World) (v:Value) (x:Rat) (hx:bW w v x) {j:Nat} (hj:fB j x) (gg:j<=100000000) (hn:¬x.num<0) (hd:x.den=1):Calls Tryz.prog 17 #[v] w (eZ w (.string (strOf (iY x)))):=by
 obtain⟨Hh,Hi,rfl,nE,kF⟩:=id hx
 obtain⟨dF,dJ,rfl,_⟩:=id nE
 obtain⟨dG,dK,rfl,_⟩:=id kF
 have HB:=bx hj
 have hT:iY x=bF x.num.natAbs:=by unfold iY; rw[if_neg hn,if_pos hd]; simp
 rw[hT,decide_eq_false hn]at *
 rw[hd,jr,bk]at *
 have Cn:=ic hj.1
 have hz1:=bP (bF x.num.natAbs)
 clear hj hn hd hT Cn
 go_enter Tryz.func17,Tryz.ntmps17
 go_wp2_with fail
 obtain⟨w1,e1,o1,b1,s1⟩:=gI w (.bool false) (.slice dF (af b64 x.num.natAbs).length dJ) (.slice dG 0 dK) 47
 rw[e1]
 clear e1
 refine Calls.mono (jw w1 _ _ (nE.below b1) HB.out.1 gg) ?_
 rintro e w2 ⟨rfl,hb2⟩
 have k0:=(o1.gone hb2).c0
 have k1:=(o1.gone hb2).c1
 have k2:=(o1.gone hb2).c2
 have FL:=(kF.below b1).below hb2
 have B2:=b1.trans (hb2.mono b1.size)
 go_wp2
 go_ret
 exact⟨rfl,B2⟩
theorem GR (w:World) (v:Value) (x:Rat) (hx:bW w v x) {j:Nat} (hj:fB j x) (gg:j<=100000000) (hn:x.num<0) (hd:¬x.den=1):Calls Tryz.prog 17 #[v] w (eZ w (.string (strOf (iY x)))):=by
 obtain⟨Hh,Hi,rfl,nE,kF⟩:=id hx
 obtain⟨dF,dJ,rfl,_⟩:=id nE
 obtain⟨dG,dK,rfl,_⟩:=id kF
 have HB:=bx hj
 have hT:iY x=45::(bF x.num.natAbs++47::bF x.den):=by unfold iY; rw[if_pos hn,if_neg hd]; simp
 rw[hT,decide_eq_true hn]at *
 rw[kQ hd]at *
 have Wv:(1:Int)<=((af b64 x.den).length:Int):=by have:=(aX (n:=x.den) ak).2 x.den_pos; omega
 have hl2:=ic hj.2
 have hz2:=bP (bF x.den)
 have PJ:=uI (bF x.den)
 have hz3:=bP (47::bF x.den)
 have wH:=uH (bF x.num.natAbs)
 have WX:=bP (45::bF x.num.natAbs)
 have WU:=fA (45::bF x.num.natAbs) (47::bF x.den)
 have Cn:=ic hj.1
 have hz1:=bP (bF x.num.natAbs)
 have hq1:1+(bF x.num.natAbs).length<=9223372036854775807:=by omega
 have Py:1+(bF x.den).length<=9223372036854775807:=by omega
 have SD:((bF x.num.natAbs).length+1)+((bF x.den).length+1)<=9223372036854775807:=by omega
 clear hj hn hd hT Cn hl2
 go_enter Tryz.func17,Tryz.ntmps17
 go_wp2_with fail
 obtain⟨w1,e1,o1,b1,s1⟩:=gI w (.bool true) (.slice dF (af b64 x.num.natAbs).length dJ) (.slice dG (af b64 x.den).length dK) 47
 rw[e1]
 clear e1
 refine Calls.mono (jw w1 _ _ (nE.below b1) HB.out.1 gg) ?_
 rintro e w2 ⟨rfl,hb2⟩
 have k0:=(o1.gone hb2).c0
 have k1:=(o1.gone hb2).c1
 have k2:=(o1.gone hb2).c2
 have FL:=(kF.below b1).below hb2
 have B2:=b1.trans (hb2.mono b1.size)
 go_wp2_with fail
 refine Calls.mono (jw w2 _ _ FL HB.out.2 gg) ?_
 rintro e w3 ⟨rfl,hb3⟩
 go_wp2
 go_ret
 exact⟨rfl,B2.trans (hb3.mono B2.size)⟩
theorem GU (w:World) (v:Value) (x:Rat) (hx:bW w v x) {j:Nat} (hj:fB j x) (gg:j<=100000000) (hn:x.num<0) (hd:x.den=1):Calls Tryz.prog 17 #[v] w (eZ w (.string (strOf (iY x)))):=by
 obtain⟨Hh,Hi,rfl,nE,kF⟩:=id hx
 obtain⟨dF,dJ,rfl,_⟩:=id nE
 obtain⟨dG,dK,rfl,_⟩:=id kF
 have HB:=bx hj
 have hT:iY x=45::bF x.num.natAbs:=by unfold iY; rw[if_pos hn,if_pos hd]; simp
 rw[hT,decide_eq_true hn]at *
 rw[hd,jr,bk]at *
 have wH:=uH (bF x.num.natAbs)
 have WX:=bP (45::bF x.num.natAbs)
 have Cn:=ic hj.1
 have hz1:=bP (bF x.num.natAbs)
 have hq1:1+(bF x.num.natAbs).length<=9223372036854775807:=by omega
 clear hj hn hd hT Cn
 go_enter Tryz.func17,Tryz.ntmps17
 go_wp2_with fail
 obtain⟨w1,e1,o1,b1,s1⟩:=gI w (.bool true) (.slice dF (af b64 x.num.natAbs).length dJ) (.slice dG 0 dK) 47
 rw[e1]
 clear e1
 refine Calls.mono (jw w1 _ _ (nE.below b1) HB.out.1 gg) ?_
 rintro e w2 ⟨rfl,hb2⟩
 have k0:=(o1.gone hb2).c0
 have k1:=(o1.gone hb2).c1
 have k2:=(o1.gone hb2).c2
 have FL:=(kF.below b1).below hb2
 have B2:=b1.trans (hb2.mono b1.size)
 go_wp2
 go_ret
 exact⟨rfl,B2⟩
theorem Ef (w:World) (v:Value) (x:Rat) (hx:bW w v x) {j:Nat} (hj:fB j x) (gg:j<=100000000):Calls Tryz.prog 17 #[v] w (eZ w (.string (strOf (iY x)))):=by
 by_cases hn:x.num<0
 ·by_cases hd:x.den=1
  ·exact GU w v x hx hj gg hn hd
  ·exact GR w v x hx hj gg hn hd
 ·by_cases hd:x.den=1
  ·exact GQ w v x hx hj gg hn hd
  ·exact GO w v x hx hj gg hn hd
end Wx

namespace Wx
open Go Go.RowKit Go.Proofs
end Wx

namespace Wx
open Go Go.RowKit Go.Proofs
end Wx

namespace Wx
open Go Go.RowKit Go.Proofs
end Wx

namespace Wx
open Go Go.RowKit Go.Proofs
end Wx

namespace Wx
open Go Go.RowKit Go.Proofs
variable {x y:Rat} {j k:Nat}
end Wx

namespace Wx
open Go Go.RowKit Go.Proofs
set_option linter.unusedVariables false
attribute [local irreducible] OpOk
end Wx

namespace Wx
open Go Go.RowKit Go.Proofs
def sr (p:Pt):List Value:=[.int .i64 p.1,.int .i64 p.2]
variable {p:Pt} {w:World}
theorem zn {ds:List Value}:cT p w (au true ds)↔ds=sr p:=by
 constructor
 ·rintro⟨cs,e,h1,h2,h3,h4,h5⟩
  have e':ds=cs:=by
   have h:(Value.agg ds.toArray)=.agg cs.toArray:=e
   injection h with h
   exact congrArg Array.toList h
  subst e'
  match ds,h1,h2,h3,h4,h5 with
  |[a,b],_,h2,_,h4,_=>
   have h2:a=.int .i64 p.1:=h2
   have h4:b=.int .i64 p.2:=h4
   rw[h2,h4]
   rfl
  |[],h1,_,_,_,_=>exact absurd (show 1<=0 from h1) (by omega)
  |[_],_,_,h3,_,_=>exact absurd (show 1<=0 from h3) (by omega)
  |_::_::_::_,_,_,_,_,h5=>cases h5
 ·rintro rfl
  exact⟨_,rfl,Nat.le_add_left _ _,rfl,Nat.le_refl _,rfl,rfl⟩
abbrev oF (n:Nat) (L:List Pt):Pred:=H6 2 n true λi=>cT (ae L i)
theorem cF (p:Pt):aA (cT p):=DX ⟨bO _,bO _,trivial⟩
theorem G5 {l:List Value} {k:Nat} {x y:Value}:(l.drop k).take 2=[x,y]↔l[k]?=some x/\l[k+1]?=some y:=by
 have h0:(l.drop k)[0]?=l[k]?:=by rw[List.getElem?_drop]; rfl
 have h1:(l.drop k)[1]?=l[k+1]?:=by rw[List.getElem?_drop]
 rw[<-h0,<-h1]
 match l.drop k with
 |[]=>simp
 |[a]=>simp
 |a::b::r=>simp
def NZ (n:Nat) (L:List Pt) (cs:List Value):Prop:=∀i,i<n->cs[i*2]?=some (.int .i64 (ae L i).1)/\cs[i*2+1]?=some (.int .i64 (ae L i).2)
theorem Br {n:Nat} {L:List Pt} {cs:List Value}:oF n L w (au true cs)↔NZ n L cs:=by
 constructor
 ·rintro⟨ds,e,h⟩ i hi
  have e':cs=ds:=by
   have h:(Value.agg cs.toArray)=.agg ds.toArray:=e
   injection h with h
   exact congrArg Array.toList h
  subst e'
  exact G5.1 (zn.1 (h i hi))
 ·intro h
  exact⟨cs,rfl,λi hi=>zn.2 (G5.2 (h i hi))⟩
structure Dc where
 p:Pt
 h:bG 16777216 p
instance:Inhabited Dc:=⟨⟨(0,0),by unfold bG; decide⟩⟩
open Classical in
noncomputable def QJ (p:Pt):Dc:=if h:bG 16777216 p then⟨p,h⟩else default
theorem zQ (h:bG 16777216 p):(QJ p).p=p:=by unfold QJ; rw[dif_pos h]
abbrev qK (x:Dc):List Value:=sr x.p
section
variable {w:World} {b N n:Nat} {L:List Pt}{d:Array Dc}
theorem yu {j:Nat} (h:j<d.size*2):(Go.Sort.flatK qK 2 d)[j]! = if j%2=0 then .int .i64 (d[j/2]!).p.1 else .int .i64 (d[j/2]!).p.2:=by
 rw[Go.Sort.get_flatK qK 2 d j h]
 have hj:j%2=0\/j%2=1:=by omega
 rcases hj with e|e
 ·rw[e,if_pos rfl]; rfl
 ·rw[e,if_neg (by decide)]; rfl
theorem holds_of_one (h:One b N (oF n L) w) (hs:d.size=n) (hd:∀i,i<n->(d[i]!).p=ae L i):Go.Sort.HoldsK qK 2 w b 0 d:=by
 obtain⟨cs,T,h1,h2,h3,h4⟩:=h
 have h5:=Br.1 h4
 intro j hj
 rw[Go.Sort.size_flatK]at hj
 refine⟨?_,?_⟩
 ·show _=some (id _)
  rw[id,yu hj,Nat.zero_add]
  simp only[World.cell?,h1]
  have h6:=h5 (j/2) (by omega)
  rw[List.getElem?_toArray]
  by_cases e:j%2=0
  ·rw[if_pos e,hd _ (by omega),<-h6.1,show j/2*2=j by omega]; rfl
  ·rw[if_neg e,hd _ (by omega),<-h6.2,show j/2*2+1=j by omega]; rfl
 ·simp only[World.frozen?,h1]
  simp
theorem tG {M:Nat->Nat->Prop} {L':List Pt} {m:Nat} {os:Array Obj} (h:One b N (oF n L) w) (hs:d.size=n) (hn:n*2<=N) (hd:∀i,i<n->(d[i]!).p=ae L' i):
  rM M b N (bp (.tuple #[])) (oF n L') w (.returned (.tuple #[])) (Go.Sort.grow (Go.Sort.putRowK qK 2 (Go.Sort.ahead w m) b 0 d) os):=by
 obtain⟨cs,T,h1,h2,h3,h4⟩:=h
 have hlt:b<w.heap.size:=(Array.getElem?_eq_some_iff.1 h1).1
 obtain⟨F,hF⟩:∃F,Go.Sort.flatK qK 2 d=F:=⟨_,rfl⟩
 have VL:F.size=n*2:=by rw[<-hF,Go.Sort.size_flatK,hs]
 have hFg:∀j,j<n*2->F[j]! = if j%2=0 then .int .i64 (d[j/2]!).p.1 else .int .i64 (d[j/2]!).p.2:=λj hj=>by rw[<-hF]; exact yu (by omega)
 obtain⟨C,hC⟩:∃C:List Value,(Go.Sort.putCells id 0 F cs.toArray).toList=C:=⟨_,rfl⟩
 have Ud:∀j,C[j]?=(cs[j]?).map λx=>if j<n*2 then F[j]! else x:=λj=>by
  rw[<-hC]
  unfold Go.Sort.putCells
  simp[VL]
 have hh:(Go.Sort.grow (Go.Sort.putRowK qK 2 (Go.Sort.ahead w m) b 0 d) os).heap=(w.heap.modify b (Go.Sort.onCells (Go.Sort.putCells id 0 F)))++os:=by
  rw[<-hF]; rfl
 have hb:(Go.Sort.grow (Go.Sort.putRowK qK 2 (Go.Sort.ahead w m) b 0 d) os).heap[b]?=some (.cells C.toArray T (0,0)):=by
  rw[hh,Array.getElem?_append_left (by simpa using hlt),Array.getElem?_modify,if_pos rfl,h1]
  rw[<-hC]
  rfl
 refine⟨_,rfl,λ_ _=>rfl,⟨rfl,rfl,rfl,?_,?_⟩,C,T,hb,?_,?_,?_⟩
 ·rw[hh]; simp
 ·intro k hk hne
  have hne:k≠b:=hne
  rw[hh,Array.getElem?_append_left (by simpa using hk),Array.getElem?_modify,if_neg (Ne.symm hne)]
 ·rw[<-hC]
  unfold Go.Sort.putCells
  simp[h2]
 ·intro v hv
  obtain⟨j,hj⟩:=List.mem_iff_getElem?.1 hv
  rw[Ud]at hj
  cases R4:cs[j]? with
  |none=>rw[R4]at hj; cases hj
  |some x=>
   rw[R4]at hj
   injection hj with hj
   dsimp only at hj
   by_cases sH:j<n*2
   ·rw[if_pos sH,hFg j sH]at hj
    rw[<-hj]
    split
    ·exact me _
    ·exact me _
   ·rw[if_neg sH]at hj
    rw[<-hj]
    exact h3 x (List.mem_of_getElem? R4)
 ·refine Br.2 λi hi=>?_
  have hg:∀j,j<n*2->C[j]?=some F[j]!:=λj hj=>by
   rw[Ud,List.getElem?_eq_getElem (show j<cs.length by omega),Option.map_some,if_pos hj]
  rw[hg _ (by omega),hg _ (by omega),hFg _ (by omega),hFg _ (by omega),if_pos (by omega),if_neg (by omega)]
  rw[show i*2/2=i by omega,show(i*2+1)/2=i by omega,hd i hi]
  exact⟨rfl,rfl⟩
end
end Wx
