import Derived.Test.YtkcceahelokheaaGreatJLT45
import Derived.Test.YtkcceahelokheaaGreatJLT44
namespace Wx
set_option maxRecDepth 100000
set_option maxHeartbeats 1000000
open Go Go.RowKit Go.Proofs
def jK (q:Rat):List Nat:=(if q.num<0 then[45]else[])++(cO q.num.natAbs++(if q.den=1 then[]else 47::cO q.den))
theorem mh {j n:Nat} (h:Bd j n):(cO n).length<=j+1:=by
 unfold cO
 split
 ·simp
 ·have:=J0 h; unfold XQ at this; omega
theorem BB (l:List Nat):(⟨#[45]⟩:ByteArray)++strOf l=strOf (45::l):=jI [45] l
theorem BC (l:List Nat):(⟨#[47]⟩:ByteArray)++strOf l=strOf (47::l):=jI [47] l
theorem Qf (w:World) (v:Value) (x:Rat) (hx:bL w v x) {j:Nat} (hj:aZ j x) (fA:j<=100000000) (hn:¬x.num<0) (hd:¬x.den=1):Calls Tryz.prog 58 #[v] w (fU w (.string (strOf (jK x)))):=by
 obtain⟨Ea,Eb,rfl,lu,jO⟩:=id hx
 obtain⟨da,de,rfl,_⟩:=id lu
 obtain⟨dc,dg,rfl,_⟩:=id jO
 have HB:=bx hj
 have hT:jK x=cO x.num.natAbs++47::cO x.den:=by unfold jK; rw[if_neg hn,if_neg hd]; simp
 rw[hT,decide_eq_false hn]at *
 rw[qA hd]at *
 have hld:(1:Int)<=((af b64 x.den).length:Int):=by have:=(aQ (n:=x.den) av).2 x.den_pos; omega
 have hl2:=mh hj.2
 have hz2:=dh (cO x.den)
 have Zj:=BC (cO x.den)
 have hz3:=dh (47::cO x.den)
 have hy3:=jI (cO x.num.natAbs) (47::cO x.den)
 have AB:=mh hj.1
 have hz1:=dh (cO x.num.natAbs)
 have Vx:1+(cO x.den).length<=9223372036854775807:=by omega
 have hq3:(cO x.num.natAbs).length+((cO x.den).length+1)<=9223372036854775807:=by omega
 clear hj hn hd hT AB hl2
 go_enter Tryz.func58,Tryz.ntmps58
 go_wp2_with fail
 obtain⟨w1,e1,o1,b1,s1⟩:=eL w (.bool false) (.slice da (af b64 x.num.natAbs).length de) (.slice dc (af b64 x.den).length dg) 40
 rw[e1]
 clear e1
 refine Calls.mono (o5 w1 _ _ (lu.below b1) HB.out.1 fA) ?_
 rintro e w2 ⟨rfl,hb2⟩
 have k0:=(o1.gone hb2).c0
 have k1:=(o1.gone hb2).c1
 have k2:=(o1.gone hb2).c2
 have Pa:=(jO.below b1).below hb2
 have B2:=b1.trans (hb2.mono b1.size)
 go_wp2_with fail
 refine Calls.mono (o5 w2 _ _ Pa HB.out.2 fA) ?_
 rintro e w3 ⟨rfl,hb3⟩
 go_wp2
 go_ret
 exact⟨rfl,B2.trans (hb3.mono B2.size)⟩
theorem Qg (w:World) (v:Value) (x:Rat) (hx:bL w v x) {j:Nat} (hj:aZ j x) (fA:j<=100000000) (hn:¬x.num<0) (hd:x.den=1):Calls Tryz.prog 58 #[v] w (fU w (.string (strOf (jK x)))):=by
 obtain⟨Ea,Eb,rfl,lu,jO⟩:=id hx
 obtain⟨da,de,rfl,_⟩:=id lu
 obtain⟨dc,dg,rfl,_⟩:=id jO
 have HB:=bx hj
 have hT:jK x=cO x.num.natAbs:=by unfold jK; rw[if_neg hn,if_pos hd]; simp
 rw[hT,decide_eq_false hn]at *
 rw[hd,oF,bN]at *
 have AB:=mh hj.1
 have hz1:=dh (cO x.num.natAbs)
 clear hj hn hd hT AB
 go_enter Tryz.func58,Tryz.ntmps58
 go_wp2_with fail
 obtain⟨w1,e1,o1,b1,s1⟩:=eL w (.bool false) (.slice da (af b64 x.num.natAbs).length de) (.slice dc 0 dg) 40
 rw[e1]
 clear e1
 refine Calls.mono (o5 w1 _ _ (lu.below b1) HB.out.1 fA) ?_
 rintro e w2 ⟨rfl,hb2⟩
 have k0:=(o1.gone hb2).c0
 have k1:=(o1.gone hb2).c1
 have k2:=(o1.gone hb2).c2
 have Pa:=(jO.below b1).below hb2
 have B2:=b1.trans (hb2.mono b1.size)
 go_wp2
 go_ret
 exact⟨rfl,B2⟩
theorem Qh (w:World) (v:Value) (x:Rat) (hx:bL w v x) {j:Nat} (hj:aZ j x) (fA:j<=100000000) (hn:x.num<0) (hd:¬x.den=1):Calls Tryz.prog 58 #[v] w (fU w (.string (strOf (jK x)))):=by
 obtain⟨Ea,Eb,rfl,lu,jO⟩:=id hx
 obtain⟨da,de,rfl,_⟩:=id lu
 obtain⟨dc,dg,rfl,_⟩:=id jO
 have HB:=bx hj
 have hT:jK x=45::(cO x.num.natAbs++47::cO x.den):=by unfold jK; rw[if_pos hn,if_neg hd]; simp
 rw[hT,decide_eq_true hn]at *
 rw[qA hd]at *
 have hld:(1:Int)<=((af b64 x.den).length:Int):=by have:=(aQ (n:=x.den) av).2 x.den_pos; omega
 have hl2:=mh hj.2
 have hz2:=dh (cO x.den)
 have Zj:=BC (cO x.den)
 have hz3:=dh (47::cO x.den)
 have AE:=BB (cO x.num.natAbs)
 have hz4:=dh (45::cO x.num.natAbs)
 have hy3:=jI (45::cO x.num.natAbs) (47::cO x.den)
 have AB:=mh hj.1
 have hz1:=dh (cO x.num.natAbs)
 have hq1:1+(cO x.num.natAbs).length<=9223372036854775807:=by omega
 have Vx:1+(cO x.den).length<=9223372036854775807:=by omega
 have hq3:((cO x.num.natAbs).length+1)+((cO x.den).length+1)<=9223372036854775807:=by omega
 clear hj hn hd hT AB hl2
 go_enter Tryz.func58,Tryz.ntmps58
 go_wp2_with fail
 obtain⟨w1,e1,o1,b1,s1⟩:=eL w (.bool true) (.slice da (af b64 x.num.natAbs).length de) (.slice dc (af b64 x.den).length dg) 40
 rw[e1]
 clear e1
 refine Calls.mono (o5 w1 _ _ (lu.below b1) HB.out.1 fA) ?_
 rintro e w2 ⟨rfl,hb2⟩
 have k0:=(o1.gone hb2).c0
 have k1:=(o1.gone hb2).c1
 have k2:=(o1.gone hb2).c2
 have Pa:=(jO.below b1).below hb2
 have B2:=b1.trans (hb2.mono b1.size)
 go_wp2_with fail
 refine Calls.mono (o5 w2 _ _ Pa HB.out.2 fA) ?_
 rintro e w3 ⟨rfl,hb3⟩
 go_wp2
 go_ret
 exact⟨rfl,B2.trans (hb3.mono B2.size)⟩
theorem Qi (w:World) (v:Value) (x:Rat) (hx:bL w v x) {j:Nat} (hj:aZ j x) (fA:j<=100000000) (hn:x.num<0) (hd:x.den=1):Calls Tryz.prog 58 #[v] w (fU w (.string (strOf (jK x)))):=by
 obtain⟨Ea,Eb,rfl,lu,jO⟩:=id hx
 obtain⟨da,de,rfl,_⟩:=id lu
 obtain⟨dc,dg,rfl,_⟩:=id jO
 have HB:=bx hj
 have hT:jK x=45::cO x.num.natAbs:=by unfold jK; rw[if_pos hn,if_pos hd]; simp
 rw[hT,decide_eq_true hn]at *
 rw[hd,oF,bN]at *
 have AE:=BB (cO x.num.natAbs)
 have hz4:=dh (45::cO x.num.natAbs)
 have AB:=mh hj.1
 have hz1:=dh (cO x.num.natAbs)
 have hq1:1+(cO x.num.natAbs).length<=9223372036854775807:=by omega
 clear hj hn hd hT AB
 go_enter Tryz.func58,Tryz.ntmps58
 go_wp2_with fail
 obtain⟨w1,e1,o1,b1,s1⟩:=eL w (.bool true) (.slice da (af b64 x.num.natAbs).length de) (.slice dc 0 dg) 40
 rw[e1]
 clear e1
 refine Calls.mono (o5 w1 _ _ (lu.below b1) HB.out.1 fA) ?_
 rintro e w2 ⟨rfl,hb2⟩
 have k0:=(o1.gone hb2).c0
 have k1:=(o1.gone hb2).c1
 have k2:=(o1.gone hb2).c2
 have Pa:=(jO.below b1).below hb2
 have B2:=b1.trans (hb2.mono b1.size)
 go_wp2
 go_ret
 exact⟨rfl,B2⟩
theorem MW (w:World) (v:Value) (x:Rat) (hx:bL w v x) {j:Nat} (hj:aZ j x) (fA:j<=100000000):Calls Tryz.prog 58 #[v] w (fU w (.string (strOf (jK x)))):=by
 by_cases hn:x.num<0
 ·by_cases hd:x.den=1
  ·exact Qi w v x hx hj fA hn hd
  ·exact Qh w v x hx hj fA hn hd
 ·by_cases hd:x.den=1
  ·exact Qg w v x hx hj fA hn hd
  ·exact Qf w v x hx hj fA hn hd
end Wx

namespace Wx
set_option linter.unusedVariables false
def QY:List Rat:=[((100:Int):Rat),((10:Int):Rat),((5:Int):Rat),0,0,0,pJ 1 100,pJ 1 100,pJ 1 100,pJ 1 100,pJ 1 100,((1:Int):Rat),((1:Int):Rat),((1:Int):Rat),((1:Int):Rat),((1:Int):Rat)]
def mY:Nat->List Rat:=λ_=>QY
def oJ:List bK:=[⟨0,1,0,2⟩]
def y8:List bK:=[⟨0,1,0,1⟩,⟨0,0,1,1⟩]
def QX:List Rat:=[((1:Int):Rat),0,0]
def QZ:List Rat:=[0,0,0]
def bdB (j:Nat) (l:List Rat):Bool:=l.all λx=>Nat.blt x.num.natAbs (2^j)&&Nat.blt x.den (2^j)
theorem CR {j:Nat} {l:List Rat} (hj:1<=j) (h:bdB j l=true):∀q,aZ j (l.getD q 0):=by
 refine ud hj λx hx=>?_
 have h1:=List.all_eq_true.1 h x hx
 rw[Bool.and_eq_true]at h1
 exact⟨Nat.le_of_ble_eq_true h1.1,Nat.le_of_ble_eq_true h1.2⟩
theorem Oq:∀q,aZ 64 (QY.getD q 0):=CR (by decide) (by kernel_rfl)
theorem X3:aZ 64 (pJ 1 100):=Oq 6
theorem uq:jQ 1 64 mY:=⟨λ_ _=>rfl,by decide,λ_ q _=>Oq q⟩
theorem Ou:lq 1 mY oJ=0:=by kernel_rfl
theorem Ov:lq 1 mY y8=0:=by kernel_rfl
theorem J5:lJ 1 mY oJ:=mP (λ_ _=>rfl) Ou
theorem Rv:lJ 1 mY y8:=mP (λ_ _=>rfl) Ov
def Ts:List (List Rat):=tK (xN mY oJ 1)
def exB:List Rat:=wW QX QZ (qn mY oJ 0 0 1) (qn mY oJ 0 1 1)
theorem UX:qu 100 Ts:=by
 intro i k
 have h:(Ts.all (bdB 100))=true:=by kernel_rfl
 rw[show Ts.getD i []=Ts[i]?.getD []from List.getD_eq_getElem?_getD]
 cases e:Ts[i]? with
 |none=>exact(ud (l:=[]) (by decide) (λ_ h=>nomatch h) k)
 |some r=>exact CR (by decide) (List.all_eq_true.1 h r (List.mem_of_getElem? e)) k
theorem Rt:¬tY Ts exB:=by
 rintro⟨c,h1,h2⟩
 have h:((List.range 6).all λc=>!decide (gW (Kb (mW Ts (uh exB)) c) c<0))=true:=by kernel_rfl
 have h3:=List.all_eq_true.1 h c (List.mem_range.2 h1)
 simp only[Bool.not_eq_true',decide_eq_false_iff_not]at h3
 exact h3 h2
theorem UZ:GG mY oJ QX QZ 0 10000 20000 100 100 where
 of:=λm t k _ _ (hk:k<=oJ.length)=>(DD J5 uq m t k hk).mono (by have:k<=1:=hk; omega)
 th:=λm t k _ _ (hk:k<=oJ.length)=>(Qw J5 uq Eg m t k hk).mono (by have:k<=1:=hk; have e:Nf 64=1+3*(30*64+2705):=rfl; rw[e]; have h1:k*(1+3*(30*64+2705)+(236+1)+1)<=1*(1+3*(30*64+2705)+(236+1)+1):=Nat.mul_le_mul_right _ this; exact Nat.le_trans (Nat.add_le_add_left h1 1) (by decide))
 a1:=by decide
 bA:=UX
 bb:=CR (by decide) (show bdB 100 exB=true by kernel_rfl)
 gj:=by decide
 res:=λ_=>CR (by decide) (show bdB 100 (xQ Ts exB)=true by kernel_rfl)
theorem UY:CF 1 64 64 10000 20000 100 100 mY oJ QX QZ where
 Xj:=uq
 sz:=by refine⟨by decide,by decide,by decide,rfl,rfl,?_⟩; decide
 ok:=λ_=>UZ
theorem Tt:jl 1 mY oJ QX QZ 0=0:=by
 unfold jl
 rw[if_neg (by rw[Ou]; decide)]
 unfold Gc
 exact if_neg Rt
def exR:List Rat:=KQ mY oJ QX QZ 0
theorem Tu:dm 1 mY oJ QX QZ 0=exR:=by unfold dm; rw[if_pos Tt]; rfl
theorem Tv:Be 1 mY oJ QX QZ=0:=by
 unfold Be
 rw[if_neg (by rw[Tt]; decide),Tu,if_neg]
 rw[show(Qe mY oJ exR oJ.length).1=true by kernel_rfl]
 decide
theorem Yc:MV 1 mY oJ QX QZ=2:=by
 unfold MV
 rw[if_pos Tv,Tu]
 kernel_rfl
def exT:List Rat:=kP (iS QY) (nY (cR 1 1))
def Ot:List Rat:=pZ 1 mY y8
theorem Yb:exT.length=9:=rfl
theorem X7:Ot.length=27:=by kernel_rfl
theorem X4:strOf (jK (Ot.getD 0 0))=⟨#[49,49,48]⟩:=by kernel_rfl
theorem X5:strOf (jK (Ot.getD 9 0))=⟨#[45,52,53]⟩:=by kernel_rfl
theorem X6:strOf (jK (Ot.getD 18 0))=⟨#[49,49,48,47,51]⟩:=by kernel_rfl
theorem X8:strOf (jK (exT.getD 2 0))=⟨#[52,53,47,50]⟩:=by kernel_rfl
theorem X9:strOf (jK 2)=⟨#[50]⟩:=by kernel_rfl
theorem Ya:vv QY 1 1=0:=by kernel_rfl
end Wx

namespace Wx
set_option maxRecDepth 100000
set_option maxHeartbeats 1000000
open Go Go.RowKit Go.Proofs
set_option linter.unusedVariables false
attribute [local irreducible] OpOk
theorem NT (_:True):∀w v1 v2,pI 1 w v1->pI 100 w v2->Calls Tryz.prog 20 #[v1,v2] w (ie (cN (pR 64 (pJ 1 100)) (pI 0)) w):=λw v1 v2 h1 h2=>(N9 (by decide) (by decide) (by decide) (by decide) (by decide) w v1 v2 h1 h2).mono λ_ _=>ie.map λw v hv=>by
 obtain⟨u1,u2,e,k1,k2⟩:=hv
 exact⟨u1,u2,e,⟨X3,k1⟩,k2⟩
theorem ua {x:Rat} {j:Nat} (s:ByteArray) (h:strOf (jK x)=s/\j<=100000000):∀w v1,pR j x w v1->Calls Tryz.prog 58 #[v1] w (ie (bg (.string s)) w):=λw v1 h1=>(MW w v1 x h1.2 h1.1 h.2).mono λ_ _ hr=>by rw[<-h.1]; exact Ab hr
section
variable {P:Program} {ops:Array Oper} {ms:List Nat} {c:fT} {V:List Vr} {A:List Al} {G:List bz} {i:Nat}{d:Nat} {x y:Operand} {ty:TypeId} {pos:String} {aft:Array Edge}{T:TypeId}
theorem abb (E:TypeId) (S:List bK) (X:bK) (hS:S=[X]) (ht:mV P T E 4:=by exact⟨by kernel_rfl,λ_=>by kernel_rfl⟩) (Dq:∀w,(zeroValue E).run P w=.ok (.agg ([Zl.i,.i,.i,.i].flatMap Zl.cs).toArray) w:=by exactλ_=>by kernel_rfl) (h1:Has ms G i x (cP X):=by exact hs) (hp:Post G i (aA 4 true S.length λk=>cP (ai S k)):=by exact pt rfl):
  OpOk P ops ms c V A G i ⟨some d,.buildSlice T 1 #[(0,x)],ty,pos,aft,none⟩:=by
 subst hS
 refine iF (fs:=List.replicate 1 ⟨true,4,cP FW⟩) (ps:=[(0,cP X)]) (gs:=[⟨true,4,cP X⟩]) (agg:=true) (n:=1) (p:=cP FW) (z:=[Zl.i,.i,.i,.i].flatMap Zl.cs) ht Dq rfl rfl (by decide) (λw=>tP [.i,.i,.i,.i] w) rfl (show dy _ _ _ _ _ _ from⟨⟨rfl,h1,_,rfl,oK⟩,trivial⟩) rfl (λk=>cP (ai [X] k)) (λk f hk=>?_) hp
 match k,hk with
 |0,hk=>cases hk; rfl
 |k+1,hk=>exact absurd hk (by simp)
theorem abc (E:TypeId) (S:List bK) (X Y:bK) (hS:S=[X,Y]) (ht:mV P T E 4:=by exact⟨by kernel_rfl,λ_=>by kernel_rfl⟩) (Dq:∀w,(zeroValue E).run P w=.ok (.agg ([Zl.i,.i,.i,.i].flatMap Zl.cs).toArray) w:=by exactλ_=>by kernel_rfl) (h1:Has ms G i x (cP X):=by exact hs) (h2:Has ms G i y (cP Y):=by exact hs) (hp:Post G i (aA 4 true S.length λk=>cP (ai S k)):=by exact pt rfl):
  OpOk P ops ms c V A G i ⟨some d,.buildSlice T 2 #[(0,x),(1,y)],ty,pos,aft,none⟩:=by
 subst hS
 refine iF (fs:=List.replicate 2 ⟨true,4,cP FW⟩) (ps:=[(0,cP X),(1,cP Y)]) (gs:=[⟨true,4,cP X⟩,⟨true,4,cP Y⟩]) (agg:=true) (n:=2) (p:=cP FW) (z:=[Zl.i,.i,.i,.i].flatMap Zl.cs) ht Dq rfl rfl (by decide) (λw=>tP [.i,.i,.i,.i] w) rfl (show dy _ _ _ _ _ _ from⟨⟨rfl,h1,_,rfl,oK⟩,⟨rfl,h2,_,rfl,oK⟩,trivial⟩) rfl (λk=>cP (ai [X,Y] k)) (λk f hk=>?_) hp
 match k,hk with
 |0,hk=>cases hk; rfl
 |1,hk=>cases hk; rfl
 |k+2,hk=>exact absurd hk (by simp)
end
theorem Mc (h:True):K0 Tryz.prog 56 (pV au 64 QY):=by
 intro M w0 hM
 refine Z0 (N:=26) Tryz.func56 rfl rfl rfl hM λa hI=>?_
 refine bf hI 1 [⟨0,0,some 0,none,.ptr,97,48,true,pv _,[]⟩] [] [] .z .z ⟨fB [.r,.r,.r,.r,.r,.r,.r,.r,.r,.r,.r,.r,.r,.r,.r,.r],trivial⟩ (.k .z) .z λa w hI=>?_
 refine bf hI 3 [⟨1,1,some 1,none,.ptr,40,3,true,pv _,[(2,pv _)]⟩] [] [Uc 0 5 _] (.k .z) .z ⟨qi Bt,fB [.r],dM,trivial⟩ (.k (.s .o .z)) (.d .z) λa w hI=>?_
 refine bf hI 7 [⟨2,2,some 4,none,.ptr,40,3,true,pv _,[(5,pv _)]⟩] [] [Uc 0 7 _,Uc 1 6 _,Uc 2 8 _,Uc 3 9 _,Uc 6 3 _] (.k (.k .z)) .z ⟨fZ NT,mv,ext,ext,fB [.r],dM,mv,trivial⟩ (.k (.k (.s .o .z))) (.bh (.d .z)) λa w hI=>?_
 refine bf hI 5 [⟨4,4,some 3,none,.ptr,94,6,true,pv _,[(4,pv _)]⟩] [] [Uc 0 10 _,Uc 1 11 _,Uc 2 12 _] (.k (.k (.k .z))) .z ⟨ld,ld,GR 3 [.o .r,.o .r] [(0,_),(1,_)],fB [.r,.r],dM,trivial⟩ (.k (.k (.k (.s .o .z)))) (.qy .z) λa w hI=>?_
 refine mR hI [0,1,3,0,0,0,0,0,0,0,0,1984,4095,8191] [] [] [Uc 0 13 _,Uc 1 14 _,Uc 2 15 _,Uc 3 16 _,Uc 4 17 _,Uc 5 18 _,Uc 6 19 _,Uc 7 20 _,Uc 8 21 _,Uc 9 22 _,Uc 10 23 _,Uc 11 24 _,Uc 12 25 _] (.u none [(13,pv _)] (.k (.k (.k .z)))) .z ⟨qi Bt,qi Bt,qi Bt,ld,ld,ld,ld,ld,ld,ld,ld,GR 3 (List.replicate 5 (.o .r)) [(0,_),(1,_),(2,_),(3,_),(4,_)],bd [.o .r,.o .r,.o .r,.o .r,.m [.r,.r],.m [.r,.r],.m [.r,.r],.o .r,.m [.r,.r,.r,.r,.r]] [(0,_),(1,_),(2,_),(5,_),(6,_),(7,_),(8,_)],dM,trivial⟩ (.s .o (.d (.d (.d .z)))) (.d8 (.bh (.d .z))) λa w hI=>?_
 refine aL ?_
 exact ck hI rfl r7
theorem Ru:jQ 1 64 mY/\64<=100000/\1<=1000000/\y8.length<=1000000/\1<=10000/\10000<=10000000/\(lq 1 mY y8=0->∀m t k,m<3->t<9->k<=y8.length->aZ 10000 (tT mY y8 m t k)):=
 ⟨uq,by decide,by decide,by decide,by decide,by decide,λ_ m t k _ _ (hk:k<=2)=>(DD Rv uq m t k hk).mono (by have h1:k*(28*64+2558)<=2*(28*64+2558):=Nat.mul_le_mul_right _ hk; exact Nat.le_trans (Nat.add_le_add_left h1 1) (by decide))⟩
theorem adW (h:True):∀(M:Nat->Nat->Prop) (w:World) (v0 v1:Value),cL M w->aO M (λw=>(aA 48 true 1 λ_=>pV au 64 QY) w v0) w->aO M (λw=>(aA 4 true y8.length λi=>cP (ai y8 i)) w v1) w->Calls Tryz.prog 24 #[v0,v1] w (bH M (cN (pV au 10000 Ot) (pI 0)) w):=by
 have h:=Pc (n:=1) (j:=64) (J:=10000) (ms:=mY) (S:=y8) Ru
 rw[Ov]at h
 exact h
theorem QO (h:True):∀(M:Nat->Nat->Prop) (w:World) (v0 v1:Value),cL M w->aO M (λw=>(pV au 64 QY) w v0) w->aO M (λw=>(pS [⟨false,1,pI 1⟩,⟨false,1,pI 1⟩]) w v1) w->Calls Tryz.prog 57 #[v0,v1] w (bH M (cN (pV au 10000 exT) (pI 0)) w):=by
 have h:=Pe (m:=QY) (j:=64) (p:=1) (q:=1) ⟨rfl,by decide,by decide⟩
 rw[Ya,if_pos rfl]at h
 intro M w v0 v1 h1 h2 h3
 refine(h M w v0 v1 h1 h2 h3).mono ?_
 rintro e w' ⟨v,e1,e2,e3⟩
 refine⟨v,e1,e2.imp λw hv=>?_,e3⟩
 obtain⟨u1,u2,e4,k1,k2⟩:=hv
 exact⟨u1,u2,e4,cq rfl (by decide) w u1 k1,k2⟩
theorem Nr (h:True):∀(M:Nat->Nat->Prop) (w:World) (v0 v1 v2 v3:Value),cL M w->aO M (λw=>(aA 48 true 1 λ_=>pV au 64 QY) w v0) w->aO M (λw=>(aA 4 true oJ.length λi=>cP (ai oJ i)) w v1) w->aO M (λw=>(pV au 64 QX) w v2) w->aO M (λw=>(pV au 64 QZ) w v3) w->Calls Tryz.prog 31 #[v0,v1,v2,v3] w (bH M (cN (pR 100000 2) (pI 0)) w):=by
 have h:=L9 (n:=1) (j:=64) (jf:=64) (J:=10000) (Jt:=20000) (ja:=100) (jr:=100) (ms:=mY) (S:=oJ) (fo:=QX) (mo:=QZ) UY
 rw[Yc,Tv]at h
 intro M w v0 v1 v2 v3 h1 h2 h3 h4 h5
 refine(h M w v0 v1 v2 v3 h1 h2 h3 h4 h5).mono ?_
 rintro e w' ⟨v,e1,e2,e3⟩
 refine⟨v,e1,e2.imp λw hv=>?_,e3⟩
 obtain⟨u1,u2,e4,k1,k2⟩:=hv
 exact⟨u1,u2,e4,nF (by decide) w u1 k1,k2⟩
theorem Ds (h:True):K0 Tryz.prog 10 (pB true):=by
 intro M w0 hM
 have hlO:=X7
 have hlT:=Yb
 have hlM:QY.length=16:=rfl
 refine Z0 (N:=80) Tryz.func10 rfl rfl rfl hM λa hI=>?_
 refine bM hI 1 [Uc 0 0 _] .z ⟨mv,trivial⟩ (.k .z) λa w hI=>?_
 refine bM hI 3 [Uc 0 8 _,Uc 1 9 _,Uc 2 1 _] (.k .z) ⟨cb0 Mc,bs1 97 16,mv,trivial⟩ (.nh .z) λa w hI=>?_
 refine bf hI 13 [⟨2,2,some 10,none,.ptr,77,81,true,pv _,[(11,pv _)]⟩] [] [Uc 0 11 _,Uc 1 12 _,Uc 2 13 _,Uc 3 14 _,Uc 4 15 _,Uc 5 16 _,Uc 6 17 _,Uc 7 10 _,Uc 8 18 _,Uc 9 19 _,Uc 12 3 _] .z (.kk .z) ⟨mv,bd [.o .i,.o .i] [(0,_)],bd [.o .i,.m [.i,.i],.o .i] [(1,_),(2,_)],bd [.o .i,.o .i] [(1,_)],bd [.o .i,.m [.i,.i],.o .i] [(1,_),(2,_)],abc 68 y8 ⟨0,1,0,1⟩ ⟨0,0,1,1⟩ rfl,pq adW,mv,ext,ext,fB [.r,.r,.r,.r,.r,.r,.r,.r,.r,.r,.r,.r,.r,.r,.r,.r,.r,.r,.r,.r,.r,.r,.r,.r,.r,.r,.r],dM,mv,trivial⟩ (.s .o .z) (.dI (.d8 (.k .z))) λa w hI=>?_
 refine bf hI 11 [⟨4,4,some 8,none,.ptr,75,27,true,pv _,[(9,pv _)]⟩] [] [Uc 0 21 _,Uc 1 22 _,Uc 2 23 _,Uc 3 24 _,Uc 4 25 _,Uc 5 20 _,Uc 6 26 _,Uc 7 27 _,Uc 10 5 _] (.k .z) (.bS .z) ⟨mv,ix,ld,bd [.o .i,.o .i] [(0,_),(1,_)],pq QO,mv,ext,ext,fB [.r,.r,.r,.r,.r,.r,.r,.r,.r],dM,mv,trivial⟩ (.k (.s .o .z)) (.cA (.bh (.dw .z))) λa w hI=>?_
 refine bf hI 14 [⟨6,6,some 11,none,.ptr,40,3,true,pv _,[(12,pv _)]⟩] [] [Uc 0 29 _,Uc 1 30 _,Uc 2 31 _,Uc 3 32 _,Uc 4 33 _,Uc 5 34 _,Uc 6 35 _,Uc 7 36 _,Uc 8 28 _,Uc 9 37 _,Uc 10 38 _,Uc 13 7 _] (.k (.k .z)) (.ah .z) ⟨mv,bd [.o .i,.o .i] [(0,_)],bd [.o .i,.m [.i,.i],.o .i] [(1,_),(2,_)],abb 68 oJ ⟨0,1,0,2⟩ rfl,qi Bt,GR 3 [.o .r,.o .r,.o .r] [(0,_)],UG 64 3,cb4 Nr,mv,ext,ext,fB [.r],dM,mv,trivial⟩ (.k (.k (.s .o .z))) (.oM (.d8 (.dw .z))) λa w hI=>?_
 refine bf hI 42 [] [⟨some 6,45,2,0,_⟩,⟨some 7,46,2,0,_⟩,⟨some 8,47,2,0,_⟩,⟨some 14,53,2,27,_⟩,⟨some 15,54,2,27,_⟩,⟨some 16,55,2,27,_⟩,⟨some 22,61,2,54,_⟩,⟨some 23,62,2,54,_⟩,⟨some 24,63,2,54,_⟩,⟨some 30,69,4,0,_⟩,⟨some 31,70,4,6,_⟩] [Uc 0 39 _,Uc 1 40 _,Uc 2 41 _,Uc 3 42 _,Uc 4 43 _,Uc 5 44 _,Uc 9 48 _,Uc 10 49 _,Uc 11 50 _,Uc 12 51 _,Uc 13 52 _,Uc 17 56 _,Uc 18 57 _,Uc 19 58 _,Uc 20 59 _,Uc 21 60 _,Uc 25 64 _,Uc 26 65 _,Uc 27 66 _,Uc 28 67 _,Uc 29 68 _,Uc 32 71 _,Uc 33 72 _,Uc 34 73 _,Uc 35 74 _,Uc 36 75 _,Uc 37 76 _,Uc 38 77 _,Uc 39 78 _,Uc 40 79 _,Uc 41 0 _] (.k (.k (.k .z))) (.t 41 (.bS .z)) ⟨mv,mv,mv,FO hs hs hs (pt rfl),bn,mv,gd λh=>mZ h,gd λh=>mZ h,gd λh=>mZ h,gd λh=>lV 0 (hcd:=h) (hp:=pg h rfl),gd λh=>OG h (ua ⟨#[49,49,48]⟩) (hφ:=⟨X4,by decide⟩),gd λh=>lf (neq:=false) (m:=⟨#[49,49,48]⟩) hg hg (pg h rfl),pk,mv,gd λh=>mZ h,gd λh=>mZ h,gd λh=>mZ h,gd λh=>lV 9 (hcd:=h) (hp:=pg h rfl),gd λh=>OG h (ua ⟨#[45,52,53]⟩) (hφ:=⟨X5,by decide⟩),gd λh=>lf (neq:=false) (m:=⟨#[45,52,53]⟩) hg hg (pg h rfl),pk,mv,gd λh=>mZ h,gd λh=>mZ h,gd λh=>mZ h,gd λh=>lV 18 (hcd:=h) (hp:=pg h rfl),gd λh=>OG h (ua ⟨#[49,49,48,47,51]⟩) (hφ:=⟨X6,by decide⟩),gd λh=>lf (neq:=false) (m:=⟨#[49,49,48,47,51]⟩) hg hg (pg h rfl),pk,mv,gd λh=>mZ h,gd λh=>mZ h,gd λh=>lV 2 (hcd:=h) (hp:=pg h rfl),gd λh=>OG h (ua ⟨#[52,53,47,50]⟩) (hφ:=⟨X8,by decide⟩),gd λh=>lf (neq:=false) (m:=⟨#[52,53,47,50]⟩) hg hg (pg h rfl),pk,mv,gd λh=>Fa h,gd λh=>OG h (ua ⟨#[50]⟩) (hφ:=⟨X9,by decide⟩),gd λh=>lf (neq:=false) (m:=⟨#[50]⟩) hg hg (pg h rfl),pk,mv,trivial⟩ (.d (.d (.d .z))) (.d8 (.d8 (.d8 (.d8 (.lQ .z))))) λa w hI=>?_
 refine aL ?_
 exact ck hI rfl (iu (hq:=gw (by kernel_rfl)))
end Wx

namespace Wx
set_option maxRecDepth 100000
set_option maxHeartbeats 1000000
open Go Go.RowKit Go.Proofs
set_option linter.unusedVariables false
set_option linter.unusedSimpArgs false
attribute [local irreducible] OpOk
variable {D:List (Int×Int)}
theorem Wb:∀w v,pG 3 pO (DF none (λu=>some (rN (D.getD u z2))) 5) w v->zU D w v:=λw v h=>Wa (l:=gU D) w v (by unfold gU; rw[List.map_map]; exact h)
theorem R3 (h:D.length=16/\∀q,J6 (D.getD q z2)):K1 Tryz.prog 59 (V9 D) (cN (I1 D) (zU D)):=by
 intro M w0 v0 hM hv0
 have hD:=h.1
 refine om (N:=130) Tryz.func59 rfl rfl rfl hM hv0 λa hI=>?_
 refine bf hI 3 [⟨2,2,some 1,none,.ptr,97,48,true,pv _,[]⟩,⟨3,3,some 2,none,.ptr,145,48,true,pv _,[]⟩] [] [Uc 0 1 _] .z (.k .z) ⟨AK 32 true (hf:=rM h.1),fB [.r,.r,.r,.r,.r,.r,.r,.r,.r,.r,.r,.r,.r,.r,.r,.r],fB [.f,.f,.f,.f,.f,.f,.f,.f,.f,.f,.f,.f,.f,.f,.f,.f],trivial⟩ (.k (.k .z)) (.dk .z) λa w hI=>?_
 refine bf hI 1 [⟨4,4,some 0,none,.ptr,97,48,true,pv _,[]⟩] [] [] (.k (.k .z)) (.k .z) ⟨lE 64 16,trivial⟩ (.k (.k (.k .z))) (.k .z) λa w hI=>?_
 refine bf hI 1 [⟨5,5,some 0,none,.ptr,145,48,true,pv _,[]⟩] [] [] (.k (.k (.k .z))) (.k .z) ⟨adp 16,trivial⟩ (.k (.k (.k (.k .z)))) (.k .z) λa w hI=>?_
 refine mR hI [0,1,3,7,0,16,48,127,0,256,768,2047,0,4096,12288,32767,15,131071,262143,524287,1048575,2097151,4194303,8388607] [] [⟨some 16,24,4,0,True⟩,⟨some 18,25,4,3,True⟩,⟨some 20,26,4,6,True⟩,⟨some 22,27,4,9,True⟩] [Uc 0 8 _,Uc 1 9 _,Uc 2 10 _,Uc 3 11 _,Uc 4 12 _,Uc 5 13 _,Uc 6 14 _,Uc 7 15 _,Uc 8 16 _,Uc 9 17 _,Uc 10 18 _,Uc 11 19 _,Uc 12 20 _,Uc 13 21 _,Uc 14 22 _,Uc 15 23 _] (.k (.k (.u none [(17,pv _),(19,pv _),(21,pv _),(23,pv _)] (.k .z)))) (.k .z) ⟨hW 0 4,hI' 4 0 z2,cK hs (pt rfl) (by kernel_rfl) (bW _),qi CM (hφ:=h.2 _),hW 0 4,hI' 4 1 z2,cK hs (pt rfl) (by kernel_rfl) (bW _),qi CM (hφ:=h.2 _),hW 0 4,hI' 4 2 z2,cK hs (pt rfl) (by kernel_rfl) (bW _),qi CM (hφ:=h.2 _),hW 0 4,hI' 4 3 z2,cK hs (pt rfl) (by kernel_rfl) (bW _),qi CM (hφ:=h.2 _),fa,sJ (0) (hq:=by simp only[List.length_set,List.length_replicate,cm,cI]<;>omega),fa,sJ (1) (hq:=by simp only[List.length_set,List.length_replicate,cm,cI]<;>omega),fa,sJ (2) (hq:=by simp only[List.length_set,List.length_replicate,cm,cI]<;>omega),fa,sJ (3) (hq:=by simp only[List.length_set,List.length_replicate,cm,cI]<;>omega),trivial⟩ (.k (.k (.s (.c (.c (.c .o))) (.k .z)))) (.dx (.d8 (.bh (.d .z)))) λa w hI=>?_
 refine mR hI [0,1,3,7,0,16,48,127,0,256,768,2047,0,4096,12288,32767,15,131071,262143,524287,1048575,2097151,4194303,8388607] [] [⟨some 16,44,5,0,True⟩,⟨some 18,45,5,3,True⟩,⟨some 20,46,5,6,True⟩,⟨some 22,47,5,9,True⟩] [Uc 0 28 _,Uc 1 29 _,Uc 2 30 _,Uc 3 31 _,Uc 4 32 _,Uc 5 33 _,Uc 6 34 _,Uc 7 35 _,Uc 8 36 _,Uc 9 37 _,Uc 10 38 _,Uc 11 39 _,Uc 12 40 _,Uc 13 41 _,Uc 14 42 _,Uc 15 43 _] (.k (.k (.k (.u none [(17,pv _),(19,pv _),(21,pv _),(23,pv _)] .z)))) (.k .z) ⟨hW 0 4,hI' 4 0 z2,cK hs (pt rfl) (by kernel_rfl) (bW _),qi Dz (hφ:=h.2 _),hW 0 4,hI' 4 1 z2,cK hs (pt rfl) (by kernel_rfl) (bW _),qi Dz (hφ:=h.2 _),hW 0 4,hI' 4 2 z2,cK hs (pt rfl) (by kernel_rfl) (bW _),qi Dz (hφ:=h.2 _),hW 0 4,hI' 4 3 z2,cK hs (pt rfl) (by kernel_rfl) (bW _),qi Dz (hφ:=h.2 _),fa,sG (0+0) (some (rN (D.getD (0+0) z2))) Ek (hq:=by simp only[List.length_set,List.length_replicate,cm,cI]<;>omega),fa,sG (0+1) (some (rN (D.getD (0+1) z2))) Ek (hq:=by simp only[List.length_set,List.length_replicate,cm,cI]<;>omega),fa,sG (0+2) (some (rN (D.getD (0+2) z2))) Ek (hq:=by simp only[List.length_set,List.length_replicate,cm,cI]<;>omega),fa,sG (0+3) (some (rN (D.getD (0+3) z2))) Ek (hq:=by simp only[List.length_set,List.length_replicate,cm,cI]<;>omega),trivial⟩ (.k (.k (.k (.s (.c (.c (.c .o))) .z)))) (.dx (.d8 (.bh (.d .z)))) λa w hI=>?_
 refine az ?_
 have s0:=oQ (z:=(0:Rat)) (R:=(λu=>rN (D.getD u z2)))
 have s1:=oQ (z:=none) (R:=(λu=>some (rN (D.getD u z2))))
 refine bf hI 1 [] [] [Uc 0 48 _] (.k (.k (.k (.k .z)))) (.k .z) ⟨mv,trivial⟩ (.k (.k (.k (.k .z)))) (.kk .z) λa w hI=>?_
 refine aC ?_
 refine tN [Vz 2 2 97 48 true _,Vz 3 3 145 48 true _] [Uz 1 _] (λ(i:Nat)=>[Vz 4 4 97 48 true (pV au 64 (FJ 0 (λu=>rN (D.getD u z2)) i)),Vz 5 5 145 48 true (pG 3 pO (FJ none (λu=>some (rN (D.getD u z2))) i))]) (λ(i:Nat)=>[Uz 48 (pI (i:Int))]) (λ(i:Nat)=>i<=2) (λ(i:Nat)=>2-i) (0) (Nat.zero_le 2) hI ⟨vi,vi,vC (cq oQ (Nat.le_refl _)),vC (λ_ _ h=>h),trivial⟩ ⟨gi,gc,trivial⟩ ?_
 intro i a w hi hI
 refine bf hI 1 [] [] [Uc 0 49 _] (.k (.k (.k (.k .z)))) (.kk .z) ⟨bn,trivial⟩ (.k (.k (.k (.k .z)))) (.bS .z) λa w hI=>?_
 refine az ?_
 refine mj hI (λt1=>?_) (λt1=>?_)
 ·
  refine aJ ?_
  refine ae ?_
  refine az ?_
  refine aC ?_
  have YU:i<2:=by omega
  have hl4:=cm (z:=(0:Rat)) (R:=(λu=>rN (D.getD u z2))) (i:=i)
  have hl5:=cm (z:=none) (R:=(λu=>some (rN (D.getD u z2)))) (i:=i)
  refine bf hI 2 [] [] [Uc 0 50 _,Uc 1 6 _] (.k (.k (.k (.k .z)))) (.bS .z) ⟨mv,mv,trivial⟩ (.k (.k (.k (.k .z)))) (.dI (.k .z)) λa w hI=>?_
  refine mR hI [0,0,0,0,0,24,56,120,0,0,768,1792,4088,0,0,24576,57344,131064,0,262393,1048569,0,4194299,8388603,0,33554431,67108863] [] [⟨some 18,69,4,12,True⟩,⟨some 19,70,4,12+(i)*3,True⟩,⟨some 21,71,4,18,True⟩,⟨some 22,72,4,18+(i)*3,True⟩,⟨some 24,73,4,24,True⟩,⟨some 25,74,4,24+(i)*3,True⟩] [Uc 0 51 _,Uc 1 52 _,Uc 2 53 _,Uc 3 54 _,Uc 4 55 _,Uc 5 56 _,Uc 6 57 _,Uc 7 58 _,Uc 8 59 _,Uc 9 60 _,Uc 10 61 _,Uc 11 62 _,Uc 12 63 _,Uc 13 64 _,Uc 14 65 _,Uc 15 66 _,Uc 16 67 _,Uc 17 68 _] (.k (.k (.u none [(20,pv _),(23,pv _),(26,pv _)] (.k .z)))) (.bS .z) ⟨mv,mv,mv,mv,hW 4 2,hI' 2 i z2,cK hs (pt rfl) (by kernel_rfl) (bW _),qi CM (hφ:=h.2 _),mv,hW 6 2,hI' 2 i z2,cK hs (pt rfl) (by kernel_rfl) (bW _),qi CM (hφ:=h.2 _),mv,hW 8 2,hI' 2 i z2,cK hs (pt rfl) (by kernel_rfl) (bW _),qi CM (hφ:=h.2 _),fa,iB 2 3 i,sJ (4+(i)) (hq:=by simp only[List.length_set,List.length_replicate,cm,cI]<;>omega),fa,iB 2 3 i,sJ (6+(i)) (hq:=by simp only[List.length_set,List.length_replicate,cm,cI]<;>omega),fa,iB 2 3 i,sJ (8+(i)) (hq:=by simp only[List.length_set,List.length_replicate,cm,cI]<;>omega),trivial⟩ (.k (.k (.s (.c (.c .o)) (.k .z)))) (.cA (.d8 (.d8 (.d .z)))) λa w hI=>?_
  refine QK hI [0,0,0,0,0,24,56,120,0,0,768,1792,4088,0,0,24576,57344,131064,0,262393,1048569,0,4194299,8388603,0,33554431,67108863] [] [⟨some 18,93,5,12,True⟩,⟨some 19,94,5,12+(i)*3,True⟩,⟨some 21,95,5,18,True⟩,⟨some 22,96,5,18+(i)*3,True⟩,⟨some 24,97,5,24,True⟩,⟨some 25,98,5,24+(i)*3,True⟩] [Uc 0 75 _,Uc 1 76 _,Uc 2 77 _,Uc 3 78 _,Uc 4 79 _,Uc 5 80 _,Uc 6 81 _,Uc 7 82 _,Uc 8 83 _,Uc 9 84 _,Uc 10 85 _,Uc 11 86 _,Uc 12 87 _,Uc 13 88 _,Uc 14 89 _,Uc 15 90 _,Uc 16 91 _,Uc 17 92 _] (.k (.k (.k (.u none [(20,pv _),(23,pv _),(26,pv _)] .z)))) (.bS .z) ⟨mv,mv,mv,mv,hW 4 2,hI' 2 i z2,cK hs (pt rfl) (by kernel_rfl) (bW _),qi Dz (hφ:=h.2 _),mv,hW 6 2,hI' 2 i z2,cK hs (pt rfl) (by kernel_rfl) (bW _),qi Dz (hφ:=h.2 _),mv,hW 8 2,hI' 2 i z2,cK hs (pt rfl) (by kernel_rfl) (bW _),qi Dz (hφ:=h.2 _),fa,iB 2 3 i,sG (4+i) (some (rN (D.getD (4+i) z2))) Ek (hq:=by simp only[List.length_set,List.length_replicate,cm,cI]<;>omega),fa,iB 2 3 i,sG (6+i) (some (rN (D.getD (6+i) z2))) Ek (hq:=by simp only[List.length_set,List.length_replicate,cm,cI]<;>omega),fa,iB 2 3 i,sG (8+i) (some (rN (D.getD (8+i) z2))) Ek (hq:=by simp only[List.length_set,List.length_replicate,cm,cI]<;>omega),trivial⟩ (.k (.k (.k (.s (.c (.c .o)) .z)))) (.dI (.d8 (.d8 (.d .z)))) λa w hI=>?_
  refine aG ?_
  refine ae ?_
  have s0:=oQ (z:=(0:Rat)) (R:=(λu=>rN (D.getD u z2)))
  have s1:=oQ (z:=none) (R:=(λu=>some (rN (D.getD u z2))))
  refine qq hI 2 [] [] [Uc 0 99 _,Uc 1 48 _] (.k (.k (.k (.k .z)))) (.k (.t 1 .z)) ⟨bn,mv,trivial⟩ (.k (.k (.k (.k .z)))) (.nh .z) λa w hI=>?_
  refine ae ?_
  have s2:=B8 (z:=(0:Rat)) (R:=(λu=>rN (D.getD u z2))) (i:=i) YU
  have s3:=B8 (z:=none) (R:=(λu=>some (rN (D.getD u z2)))) (i:=i) YU
  exact qR (i+1) (by omega) hI ⟨vc,vc,vC (cq s2 (Nat.le_refl _)),vC (λ_ _ h=>s3▸h),trivial⟩ ⟨gc,gc,trivial⟩ (by omega)
 ·
  refine bO ?_
  refine ak ?_
  refine ak ?_
  refine aH ?_
  refine ae ?_
  obtain rfl:i=2:=by omega
  have hl4:=cm (z:=(0:Rat)) (R:=(λu=>rN (D.getD u z2))) (i:=2)
  have hl5:=cm (z:=none) (R:=(λu=>some (rN (D.getD u z2)))) (i:=2)
  refine mR hI [0,1,3,0,8,31,7,127,255,511] [] [⟨some 6,106,4,30,True⟩,⟨some 8,107,5,30,True⟩] [Uc 0 100 _,Uc 1 101 _,Uc 2 102 _,Uc 3 103 _,Uc 4 104 _,Uc 5 105 _] (.k (.k (.u none [(7,pv _)] (.u none [(9,pv _)] .z)))) (.bS .z) ⟨hQ 10 z2,cK hs (pt rfl) (by kernel_rfl) (bW _),qi CM (hφ:=h.2 _),hQ 10 z2,cK hs (pt rfl) (by kernel_rfl) (bW _),qi Dz (hφ:=h.2 _),fa,sJ (10) (hq:=by simp only[List.length_set,List.length_replicate,cm,cI]<;>omega),fa,sG (10) (some (rN (D.getD (10) z2))) Ek (hq:=by simp only[List.length_set,List.length_replicate,cm,cI]<;>omega),trivial⟩ (.k (.k (.s .o (.s .o .z)))) (.dx (.bh (.d .z))) λa w hI=>?_
  refine az ?_
  refine bf hI 1 [] [] [Uc 0 108 _] (.k (.k (.k (.k .z)))) (.k .z) ⟨mv,trivial⟩ (.k (.k (.k (.k .z)))) (.kk .z) λa w hI=>?_
  refine aC ?_
  refine tN [Vz 2 2 97 48 true _,Vz 3 3 145 48 true _] [Uz 1 _] (λ(k:Nat)=>[Vz 4 4 97 48 true (pV au 64 (DF 0 (λu=>rN (D.getD u z2)) k)),Vz 5 5 145 48 true (pG 3 pO (DF none (λu=>some (rN (D.getD u z2))) k))]) (λ(k:Nat)=>[Uz 108 (pI (k:Int))]) (λ(k:Nat)=>k<=5) (λ(k:Nat)=>5-k) (0) (Nat.zero_le 5) hI ⟨vi,vi,vC (cq Mx (Nat.le_refl _)),vC (λ_ _ h=>h),trivial⟩ ⟨gi,gc,trivial⟩ ?_
  intro k a w hk hI
  refine bf hI 1 [] [] [Uc 0 109 _] (.k (.k (.k (.k .z)))) (.kk .z) ⟨bn,trivial⟩ (.k (.k (.k (.k .z)))) (.bS .z) λa w hI=>?_
  refine az ?_
  refine mj hI (λt2=>?_) (λt2=>?_)
  ·
   refine aJ ?_
   refine ae ?_
   refine az ?_
   refine aC ?_
   have hk2:k<5:=by omega
   have hl4:=cI (z:=(0:Rat)) (R:=(λu=>rN (D.getD u z2))) (i:=k)
   have hl5:=cI (z:=none) (R:=(λu=>some (rN (D.getD u z2)))) (i:=k)
   refine bf hI 2 [] [] [Uc 0 110 _,Uc 1 7 _] (.k (.k (.k (.k .z)))) (.bS .z) ⟨mv,mv,trivial⟩ (.k (.k (.k (.k .z)))) (.dI (.k .z)) λa w hI=>?_
   refine QK hI [0,0,0,0,12,28,60,0,0,384,896,2044,0,4221,16381,0,65535,131071] [] [⟨some 12,123,4,33,True⟩,⟨some 13,124,4,33+(k)*3,True⟩,⟨some 15,125,5,33,True⟩,⟨some 16,126,5,33+(k)*3,True⟩] [Uc 0 111 _,Uc 1 112 _,Uc 2 113 _,Uc 3 114 _,Uc 4 115 _,Uc 5 116 _,Uc 6 117 _,Uc 7 118 _,Uc 8 119 _,Uc 9 120 _,Uc 10 121 _,Uc 11 122 _] (.k (.k (.u none [(14,pv _)] (.u none [(17,pv _)] .z)))) (.bS .z) ⟨mv,mv,mv,hW 11 5,hI' 5 k z2,cK hs (pt rfl) (by kernel_rfl) (bW _),qi CM (hφ:=h.2 _),mv,hW 11 5,hI' 5 k z2,cK hs (pt rfl) (by kernel_rfl) (bW _),qi Dz (hφ:=h.2 _),fa,iB 5 3 k,sJ (11+(k)) (hq:=by simp only[List.length_set,List.length_replicate,cm,cI]<;>omega),fa,iB 5 3 k,sG (11+k) (some (rN (D.getD (11+k) z2))) Ek (hq:=by simp only[List.length_set,List.length_replicate,cm,cI]<;>omega),trivial⟩ (.k (.k (.s .o (.s .o .z)))) (.dI (.d8 (.qy .z))) λa w hI=>?_
   refine aG ?_
   refine ae ?_
   refine qq hI 2 [] [] [Uc 0 127 _,Uc 1 108 _] (.k (.k (.k (.k .z)))) (.k (.t 1 .z)) ⟨bn,mv,trivial⟩ (.k (.k (.k (.k .z)))) (.nh .z) λa w hI=>?_
   refine ae ?_
   have s2:=B9 (z:=(0:Rat)) (R:=(λu=>rN (D.getD u z2))) (k:=k) hk2
   have s3:=B9 (z:=none) (R:=(λu=>some (rN (D.getD u z2)))) (k:=k) hk2
   exact qR (k+1) (by omega) hI ⟨vc,vc,vC (cq s2 (Nat.le_refl _)),vC (λ_ _ h=>s3▸h),trivial⟩ ⟨gc,gc,trivial⟩ (by omega)
  ·
   refine bO ?_
   refine ak ?_
   refine ak ?_
   refine aH ?_
   refine ae ?_
   obtain rfl:k=5:=by omega
   refine mR hI [0,0,1,7] [] [] [Uc 0 128 _,Uc 1 129 _] (.u none [(2,pv _)] (.u none [(3,pv _)] (.k (.k .z)))) (.bS .z) ⟨ld,ld,dM,dM,trivial⟩ (.s .o (.s .o (.d (.d .z)))) (.bh (.d .z)) λa w hI=>?_
   refine aL ?_
   exact jZ hI rfl (r7 (hq:=cq PN (Nat.le_refl _))) (r7 (hq:=Wb))
end Wx

namespace Wx
set_option maxRecDepth 100000
set_option maxHeartbeats 1000000
open Go Go.RowKit Go.Proofs
set_option linter.unusedVariables false
attribute [local irreducible] OpOk
variable {L:List (List (Int×Int))}
theorem Qo {i:Nat}:∀k,k<1->(λ_:Nat=>L.getD i []) k=L.getD (i+k) []:=λk hk=>by rw[show k=0 by omega]; rfl
theorem VQ (h:L.length<=1000000/\∀k,k<L.length->(L.getD k []).length=16/\∀q,J6 ((L.getD k []).getD q z2)):K1 Tryz.prog 11 (aA 32 true L.length λk=>V9 (L.getD k [])) (cN (aA 48 true L.length λk=>I1 (L.getD k [])) (aA 48 true L.length λk=>zU (L.getD k []))):=by
 intro M w0 v0 hM hv0
 refine om (N:=32) Tryz.func11 rfl rfl rfl hM hv0 λa hI=>?_
 refine bM hI 2 [Uc 0 2 _,Uc 1 3 _] (.k .z) ⟨mv,mv,trivial⟩ (.bS .z) λa w hI=>?_
 refine bf hI 1 [⟨4,4,some 0,none,.grow (0) 48,97,3,true,pv cY,[]⟩] [] [Uc 0 4 _] .z (.bS .z) ⟨nlH (f:=λk=>I1 (L.getD k [])),trivial⟩ (.k .z) (.ah .z) λa w hI=>?_
 refine bf hI 1 [⟨5,5,some 0,none,.grow (0) 48,145,3,true,pv cY,[]⟩] [] [Uc 0 5 _] (.k .z) (.ah .z) ⟨nlH (f:=λk=>zU (L.getD k [])),trivial⟩ (.k (.k .z)) (.ah (.k .z)) λa w hI=>?_
 refine az ?_
 refine bf hI 3 [] [] [Uc 0 10 _,Uc 1 11 _,Uc 2 12 _] (.k (.k .z)) (.ah (.k .z)) ⟨mv,ln,mv,trivial⟩ (.k (.k .z)) (.mw (.ah .z)) λa w hI=>?_
 refine aC ?_
 refine tN [] [Uz 2 _,Uz 3 _,Uz 10 _,Uz 11 _] (λ(i:Nat)=>[Gz 4 4 i 48 97,Gz 5 5 i 48 145]) (λ(i:Nat)=>[Uz 12 (pI (i:Int)),Uz 4 (aA 48 true i λk=>I1 (L.getD k [])),Uz 5 (aA 48 true i λk=>zU (L.getD k []))]) (λ(i:Nat)=>i<=L.length) (λ(i:Nat)=>L.length-i) (0) (Nat.zero_le _) hI ⟨vG,vG,trivial⟩ ⟨gi,gi,gi,gi,gc,gc,gc,trivial⟩ ?_
 intro i a w hp hI
 refine bf hI 1 [] [] [Uc 0 13 _] (.k (.k .z)) (.ah (.bS .z)) ⟨bn,trivial⟩ (.k (.k .z)) (.k8 .z) λa w hI=>?_
 refine az ?_
 refine mj hI (λt1=>?_) (λt1=>?_)
 ·
  have hl:=h.2 i (by omega)
  refine aJ ?_
  refine ae ?_
  refine az ?_
  refine aC ?_
  refine bf hI 4 [⟨7,7,some 2,none,.ptr,115,32,true,pv _,[(3,pv _)]⟩] [] [Uc 0 14 _,Uc 1 15 _] (.k (.k .z)) (.k8 .z) ⟨ix,cK hs (pt rfl) (by kernel_rfl) (rM hl.1),fB [.i,.i,.i,.i,.i,.i,.i,.i,.i,.i,.i,.i,.i,.i,.i,.i,.i,.i,.i,.i,.i,.i,.i,.i,.i,.i,.i,.i,.i,.i,.i,.i],gV rfl rfl hs rfl rfl (aY (by kernel_rfl)) (rM hl.1) (by kernel_rfl),trivial⟩ (.k (.k (.s .o .z))) (.ah (.cA (.dd .z))) λa w hI=>?_
  refine bf hI 9 [⟨8,8,some 5,none,.ptr,97,48,true,pv _,[(7,pv _)]⟩,⟨9,9,some 6,none,.ptr,145,48,true,pv _,[(8,pv _)]⟩] [] [Uc 0 17 _,Uc 1 18 _,Uc 2 16 _,Uc 3 19 _,Uc 4 20 _] (.k (.k (.k .z))) (.ah (.bS .z)) ⟨ld,mS (R3 (D:=L.getD i [])) (hφ:=hl),mv,ext,ext,fB [.r,.r,.r,.r,.r,.r,.r,.r,.r,.r,.r,.r,.r,.r,.r,.r],fB [.f,.f,.f,.f,.f,.f,.f,.f,.f,.f,.f,.f,.f,.f,.f,.f],gV rfl rfl hs rfl rfl (aY (by kernel_rfl)) (zf _) (by kernel_rfl),gV rfl rfl hs rfl rfl (aY (by kernel_rfl)) (vX _) (by kernel_rfl),trivial⟩ (.k (.k (.d (.s .o (.s .o .z))))) (.ah (.cA (.bh .z))) λa w hI=>?_
  refine Xq hI [0,0,2,7,0,0,32,127,255,511] 8 [⟨21,21,some 0,some 3,.grow (i) 48,97,3,true,pv cY,[]⟩,⟨24,24,some 3,none,.grow (i+1) 48,97,3,true,pv cY,[]⟩,⟨25,25,some 4,some 7,.grow (i) 48,145,3,true,pv cY,[]⟩,⟨28,28,some 7,none,.grow (i+1) 48,145,3,true,pv cY,[]⟩] [] [Uc 0 21 _,Uc 1 22 _,Uc 2 23 _,Uc 3 24 _,Uc 4 25 _,Uc 5 26 _,Uc 6 27 _,Uc 7 28 _] (.u (some 0) [] (.u (some 4) [] (.k (.k .z)))) (.ah (.bS .z)) ⟨mvH,ld,bsG 97 48 (List.replicate 16 .r) (zf _),UF (F:=I1) L [] zf (m:=i) (n:=1) (e:=λ_=>L.getD i []) (he:=Qo),mvH,ld,bsG 145 48 (List.replicate 16 .f) (vX _),UF (F:=zU) L [] vX (m:=i) (n:=1) (e:=λ_=>L.getD i []) (he:=Qo),trivial⟩ (.d (.d (.d (.d (.d (.k (.d (.k .z)))))))) (.ah (.dx (.Hf (.lQ .z)))) (⟨_,sgl [⟨4,4,some 0,none,.grow (i+1) 48,97,3,true,pv cY,[]⟩] [] [Uc 0 4 _] (.u (some 0) [] (.k .z)) (.ah (.bS .z)) (XB) (.d (.k (.k .z))) (.ah (.oM .z)),⟨_,sgl [⟨5,5,some 0,none,.grow (i+1) 48,145,3,true,pv cY,[]⟩] [] [Uc 0 5 _] (.u (some 0) [] (.k .z)) (.ah (.bS .z)) (XB) (.d (.k (.k .z))) (.ah (.oM .z)),rfl⟩⟩) λa w hI=>?_
  refine aG ?_
  refine ae ?_
  refine qq hI 2 [] [] [Uc 0 29 _,Uc 1 12 _] (.k (.k .z)) (.ah (.t 1 (.kk .z))) ⟨bn,mv,trivial⟩ (.k (.k .z)) (.ah (.Rp (.k .z))) λa w hI=>?_
  refine ae ?_
  exact qR (i+1) (by omega) hI ⟨vG,vG,trivial⟩ ⟨gc,gc,gc,gc,gc,gc,gc,trivial⟩ (by omega)
 ·
  obtain rfl:i=L.length:=by omega
  refine bO ?_
  refine ak ?_
  refine ak ?_
  refine aH ?_
  refine ae ?_
  refine bf hI 4 [] [] [Uc 0 30 _,Uc 1 31 _,Uc 2 2 _,Uc 3 3 _] (.k (.k .z)) (.t 2 (.t 3 (.ah (.kk .z)))) ⟨mv,mv,mv,mv,trivial⟩ (.d (.d .z)) (.d8 (.xI .z)) λa w hI=>?_
  refine aL ?_
  exact jZ hI rfl iu iu
end Wx
