import Derived.Test.YtikkgpljpglnbaaGreatCRMText
namespace Wx
open Go Go.RowKit Go.Proofs
end Wx

namespace Wx
set_option maxRecDepth 100000
set_option maxHeartbeats 1000000
open Go Go.RowKit Go.Proofs
def gO (q:Rat):List Nat:=(if q.num<0 then[45]else[])++(bB q.num.natAbs++(if q.den=1 then[]else 47::bB q.den))
theorem fU {j n:Nat} (h:Bd j n):(bB n).length<=j+1:=by
 unfold bB
 split
 ·simp
 ·have:=zP h; unfold Lp at this; omega
theorem sN (l:List Nat):(⟨#[45]⟩:ByteArray)++strOf l=strOf (45::l):=er [45] l
theorem sO (l:List Nat):(⟨#[47]⟩:ByteArray)++strOf l=strOf (47::l):=er [47] l
theorem Ef (w:World) (v:Value) (x:Rat) (hx:cM w v x) {j:Nat} (hj:fo j x) (fD:j<=100000000) (hn:¬x.num<0) (hd:¬x.den=1):Calls Tryz.prog 17 #[v] w (fW w (.string (strOf (gO x)))):=by
 obtain⟨IW,IX,rfl,qP,nr⟩:=id hx
 obtain⟨ij,iq,rfl,_⟩:=id qP
 obtain⟨ik,ir,rfl,_⟩:=id nr
 have HB:=bx hj
 have hT:gO x=bB x.num.natAbs++47::bB x.den:=by unfold gO; rw[if_neg hn,if_neg hd]; simp
 rw[hT,decide_eq_false hn]at *
 rw[jE hd]at *
 have Tk:(1:Int)<=((ak b64 x.den).length:Int):=by have:=(aU (n:=x.den) ai).2 x.den_pos; omega
 have hl2:=fU hj.2
 have hz2:=bJ (bB x.den)
 have MH:=sO (bB x.den)
 have hz3:=bJ (47::bB x.den)
 have TE:=er (bB x.num.natAbs) (47::bB x.den)
 have Aa:=fU hj.1
 have hz1:=bJ (bB x.num.natAbs)
 have Mx:1+(bB x.den).length<=9223372036854775807:=by omega
 have PL:(bB x.num.natAbs).length+((bB x.den).length+1)<=9223372036854775807:=by omega
 clear hj hn hd hT Aa hl2
 go_enter Tryz.func17,Tryz.ntmps17
 go_wp2_with fail
 obtain⟨w1,e1,o1,b1,s1⟩:=iY w (.bool false) (.slice ij (ak b64 x.num.natAbs).length iq) (.slice ik (ak b64 x.den).length ir) 47
 rw[e1]
 clear e1
 refine Calls.mono (iG w1 _ _ (qP.below b1) HB.out.1 fD) ?_
 rintro e w2 ⟨rfl,hb2⟩
 have k0:=(o1.gone hb2).c0
 have k1:=(o1.gone hb2).c1
 have k2:=(o1.gone hb2).c2
 have Dl:=(nr.below b1).below hb2
 have B2:=b1.trans (hb2.mono b1.size)
 go_wp2_with fail
 refine Calls.mono (iG w2 _ _ Dl HB.out.2 fD) ?_
 rintro e w3 ⟨rfl,hb3⟩
 go_wp2
 go_ret
 exact⟨rfl,B2.trans (hb3.mono B2.size)⟩
theorem Eg (w:World) (v:Value) (x:Rat) (hx:cM w v x) {j:Nat} (hj:fo j x) (fD:j<=100000000) (hn:¬x.num<0) (hd:x.den=1):Calls Tryz.prog 17 #[v] w (fW w (.string (strOf (gO x)))):=by
 obtain⟨IW,IX,rfl,qP,nr⟩:=id hx
 obtain⟨ij,iq,rfl,_⟩:=id qP
 obtain⟨ik,ir,rfl,_⟩:=id nr
 have HB:=bx hj
 have hT:gO x=bB x.num.natAbs:=by unfold gO; rw[if_neg hn,if_pos hd]; simp
 rw[hT,decide_eq_false hn]at *
 rw[hd,iA,bf]at *
 have Aa:=fU hj.1
 have hz1:=bJ (bB x.num.natAbs)
 clear hj hn hd hT Aa
 go_enter Tryz.func17,Tryz.ntmps17
 go_wp2_with fail
 obtain⟨w1,e1,o1,b1,s1⟩:=iY w (.bool false) (.slice ij (ak b64 x.num.natAbs).length iq) (.slice ik 0 ir) 47
 rw[e1]
 clear e1
 refine Calls.mono (iG w1 _ _ (qP.below b1) HB.out.1 fD) ?_
 rintro e w2 ⟨rfl,hb2⟩
 have k0:=(o1.gone hb2).c0
 have k1:=(o1.gone hb2).c1
 have k2:=(o1.gone hb2).c2
 have Dl:=(nr.below b1).below hb2
 have B2:=b1.trans (hb2.mono b1.size)
 go_wp2
 go_ret
 exact⟨rfl,B2⟩
theorem Eh (w:World) (v:Value) (x:Rat) (hx:cM w v x) {j:Nat} (hj:fo j x) (fD:j<=100000000) (hn:x.num<0) (hd:¬x.den=1):Calls Tryz.prog 17 #[v] w (fW w (.string (strOf (gO x)))):=by
 obtain⟨IW,IX,rfl,qP,nr⟩:=id hx
 obtain⟨ij,iq,rfl,_⟩:=id qP
 obtain⟨ik,ir,rfl,_⟩:=id nr
 have HB:=bx hj
 have hT:gO x=45::(bB x.num.natAbs++47::bB x.den):=by unfold gO; rw[if_pos hn,if_neg hd]; simp
 rw[hT,decide_eq_true hn]at *
 rw[jE hd]at *
 have Tk:(1:Int)<=((ak b64 x.den).length:Int):=by have:=(aU (n:=x.den) ai).2 x.den_pos; omega
 have hl2:=fU hj.2
 have hz2:=bJ (bB x.den)
 have MH:=sO (bB x.den)
 have hz3:=bJ (47::bB x.den)
 have uP:=sN (bB x.num.natAbs)
 have TH:=bJ (45::bB x.num.natAbs)
 have TE:=er (45::bB x.num.natAbs) (47::bB x.den)
 have Aa:=fU hj.1
 have hz1:=bJ (bB x.num.natAbs)
 have hq1:1+(bB x.num.natAbs).length<=9223372036854775807:=by omega
 have Mx:1+(bB x.den).length<=9223372036854775807:=by omega
 have PL:((bB x.num.natAbs).length+1)+((bB x.den).length+1)<=9223372036854775807:=by omega
 clear hj hn hd hT Aa hl2
 go_enter Tryz.func17,Tryz.ntmps17
 go_wp2_with fail
 obtain⟨w1,e1,o1,b1,s1⟩:=iY w (.bool true) (.slice ij (ak b64 x.num.natAbs).length iq) (.slice ik (ak b64 x.den).length ir) 47
 rw[e1]
 clear e1
 refine Calls.mono (iG w1 _ _ (qP.below b1) HB.out.1 fD) ?_
 rintro e w2 ⟨rfl,hb2⟩
 have k0:=(o1.gone hb2).c0
 have k1:=(o1.gone hb2).c1
 have k2:=(o1.gone hb2).c2
 have Dl:=(nr.below b1).below hb2
 have B2:=b1.trans (hb2.mono b1.size)
 go_wp2_with fail
 refine Calls.mono (iG w2 _ _ Dl HB.out.2 fD) ?_
 rintro e w3 ⟨rfl,hb3⟩
 go_wp2
 go_ret
 exact⟨rfl,B2.trans (hb3.mono B2.size)⟩
theorem Ei (w:World) (v:Value) (x:Rat) (hx:cM w v x) {j:Nat} (hj:fo j x) (fD:j<=100000000) (hn:x.num<0) (hd:x.den=1):Calls Tryz.prog 17 #[v] w (fW w (.string (strOf (gO x)))):=by
 obtain⟨IW,IX,rfl,qP,nr⟩:=id hx
 obtain⟨ij,iq,rfl,_⟩:=id qP
 obtain⟨ik,ir,rfl,_⟩:=id nr
 have HB:=bx hj
 have hT:gO x=45::bB x.num.natAbs:=by unfold gO; rw[if_pos hn,if_pos hd]; simp
 rw[hT,decide_eq_true hn]at *
 rw[hd,iA,bf]at *
 have uP:=sN (bB x.num.natAbs)
 have TH:=bJ (45::bB x.num.natAbs)
 have Aa:=fU hj.1
 have hz1:=bJ (bB x.num.natAbs)
 have hq1:1+(bB x.num.natAbs).length<=9223372036854775807:=by omega
 clear hj hn hd hT Aa
 go_enter Tryz.func17,Tryz.ntmps17
 go_wp2_with fail
 obtain⟨w1,e1,o1,b1,s1⟩:=iY w (.bool true) (.slice ij (ak b64 x.num.natAbs).length iq) (.slice ik 0 ir) 47
 rw[e1]
 clear e1
 refine Calls.mono (iG w1 _ _ (qP.below b1) HB.out.1 fD) ?_
 rintro e w2 ⟨rfl,hb2⟩
 have k0:=(o1.gone hb2).c0
 have k1:=(o1.gone hb2).c1
 have k2:=(o1.gone hb2).c2
 have Dl:=(nr.below b1).below hb2
 have B2:=b1.trans (hb2.mono b1.size)
 go_wp2
 go_ret
 exact⟨rfl,B2⟩
theorem B7 (w:World) (v:Value) (x:Rat) (hx:cM w v x) {j:Nat} (hj:fo j x) (fD:j<=100000000):Calls Tryz.prog 17 #[v] w (fW w (.string (strOf (gO x)))):=by
 by_cases hn:x.num<0
 ·by_cases hd:x.den=1
  ·exact Ei w v x hx hj fD hn hd
  ·exact Eh w v x hx hj fD hn hd
 ·by_cases hd:x.den=1
  ·exact Eg w v x hx hj fD hn hd
  ·exact Ef w v x hx hj fD hn hd
end Wx

namespace Wx
open Go Go.RowKit Go.Proofs
end Wx

namespace Wx
open Go Go.RowKit Go.Proofs
end Wx

namespace Wx
open Go Go.RowKit Go.Proofs
end Wx

namespace Wx
open Go Go.RowKit Go.Proofs
end Wx

namespace Wx
open Go Go.RowKit Go.Proofs
variable {x y:Rat} {j k:Nat}
end Wx

namespace Wx
set_option maxRecDepth 100000
set_option maxHeartbeats 1000000
open Go Go.RowKit Go.Proofs
set_option linter.unusedVariables false
attribute [local irreducible] OpOk
def eH (a b p:Pt):Int:=if az a b p<0 then -1 else if az a b p>0 then 1 else 0
variable {a b:Pt}
theorem xk {p:Pt}:eH a b p=1↔0<az a b p:=by
 unfold eH
 by_cases h:az a b p<0
 ·rw[if_pos h]; omega
 ·rw[if_neg h]
  by_cases h2:az a b p>0
  ·rw[if_pos h2]; omega
  ·rw[if_neg h2]; omega
def LB (p:Pt):Bool:=((decide (p.1 < -1048576)||decide (p.1>1048576))||decide (p.2 < -1048576))||decide (p.2>1048576)
theorem zT (p:Pt):LB p=ua p:=by
 unfold LB ua Bn
 rw[Bool.or_assoc]
theorem Ek {c:Pt} (h:cG 16777216 a/\cG 16777216 b/\cG 16777216 c):K3 Tryz.prog 42 (cq a) (cq b) (cq c) (pI (eH a b c)):=by
 intro M w0 v0 v1 v2 hM hv0 jw hv2
 obtain⟨⟨a1,a2,a3,a4⟩,⟨b1,b2,b3,b4⟩,c1,c2,c3,c4⟩:=h
 have m1:=nI 33554432 (p:=b.1-a.1) (q:=c.2-a.2) (by omega) (by omega) (by omega) (by omega)
 have m2:=nI 33554432 (p:=b.2-a.2) (q:=c.1-a.1) (by omega) (by omega) (by omega) (by omega)
 refine GR (N:=35) Tryz.func42 rfl rfl rfl hM hv0 jw hv2 λa hI=>?_
 refine bk hI 4 [⟨3,3,some 0,none,.ptr,38,2,true,pv _,[]⟩,⟨4,4,some 1,none,.ptr,38,2,true,pv _,[]⟩,⟨5,5,some 2,none,.ptr,38,2,true,pv _,[]⟩] [] [Uc 3 6 _] .z (.cE .z) ⟨bo,bo,bo,mv,trivial⟩ (.k (.k (.k .z))) (.dL .z) λa w hI=>?_
 refine bk hI 24 [] [⟨some 0,8,4,0,True⟩,⟨some 2,10,3,0,True⟩,⟨some 5,13,5,1,True⟩,⟨some 7,15,3,1,True⟩,⟨some 11,19,4,1,True⟩,⟨some 13,21,3,1,True⟩,⟨some 16,24,5,0,True⟩,⟨some 18,26,3,0,True⟩] [Uc 1 9 _,Uc 3 11 _,Uc 4 12 _,Uc 6 14 _,Uc 8 16 _,Uc 9 17 _,Uc 10 18 _,Uc 12 20 _,Uc 14 22 _,Uc 15 23 _,Uc 17 25 _,Uc 19 27 _,Uc 20 28 _,Uc 21 29 _,Uc 22 30 _,Uc 23 7 _] (.k (.k (.k .z))) (.k .z) ⟨fa,ld,fa,ld,bn,fa,ld,fa,ld,bn,bn,fa,ld,fa,ld,bn,fa,ld,fa,ld,bn,bn,bn,mv,trivial⟩ (.d (.d (.d .z))) (.fF (.d8 (.cH (.k .z)))) λa w hI=>?_
 refine au ?_
 refine aZ hI 2 [Uc 0 31 _,Uc 1 32 _] (.kk .z) ⟨mv,bn,trivial⟩ (.gX .z) λa w hI=>?_
 refine gA hI (λt1=>?_) (λt1=>?_)
 ·
  refine aZ hI 1 [Uc 0 6 _] (.t 0 (.kk .z)) ⟨mv,trivial⟩ (.Lr .z) λa w hI=>?_
  refine aH ?_
  refine aC ?_
  exact cT hI rfl (fR (hq:=bL (by unfold eH az; rw[if_pos t1])))
 ·
  refine ax ?_
  refine af ?_
  refine au ?_
  refine aZ hI 2 [Uc 0 33 _,Uc 1 34 _] (.cE .z) ⟨mv,bn,trivial⟩ (.fF (.k .z)) λa w hI=>?_
  refine gA hI (λt2=>?_) (λt2=>?_)
  ·
   refine aZ hI 1 [Uc 0 6 _] (.t 0 (.k .z)) ⟨mv,trivial⟩ (.lO .z) λa w hI=>?_
   refine aH ?_
   refine aC ?_
   exact cT hI rfl (fR (hq:=bL (by unfold eH az; rw[if_neg t1,if_pos t2])))
  ·
   refine ax ?_
   refine af ?_
   refine aZ hI 1 [Uc 0 6 _] (.t 0 (.k .z)) ⟨mv,trivial⟩ (.lO .z) λa w hI=>?_
   refine aH ?_
   exact cT hI rfl (fR (hq:=bL (by unfold eH az; rw[if_neg t1,if_neg t2])))
variable {L:List Pt}
theorem Kq (h:L.length<=1000):K1 Tryz.prog 41 (eC L) (pI (dJ L)):=by
 intro M w0 v0 hM hv0
 refine rY (N:=92) Tryz.func41 rfl rfl rfl hM hv0 λa hI=>?_
 refine aZ hI 1 [Uc 0 2 _] (.k .z) ⟨mv,trivial⟩ (.kk .z) λa w hI=>?_
 refine au ?_
 refine aZ hI 8 [Uc 0 7 _,Uc 1 8 _,Uc 2 9 _,Uc 3 10 _,Uc 4 11 _,Uc 5 12 _,Uc 6 13 _,Uc 7 14 _] (.kk .z) ⟨mv,ln,bn,mv,gd λh=>iC h,gd λh=>OI h,gd λh=>oa h,pk,trivial⟩ (.dm (.cH (.dk .z))) λa w hI=>?_
 refine uR hI (λt1=>?_) (λt1=>?_)
 ·
  refine aZ hI 1 [Uc 0 2 _] (.k (.t 0 (.k .z))) ⟨mv,trivial⟩ (.oK .z) λa w hI=>?_
  refine aH ?_
  refine aC ?_
  exact cT hI rfl (fR (hq:=bL (by unfold dJ mA; rw[if_pos t1])))
 ·
  refine ax ?_
  refine af ?_
  refine au ?_
  refine aZ hI 1 [Uc 0 3 _] (.cE .z) ⟨mv,trivial⟩ (.gX .z) λa w hI=>?_
  refine aF ?_
  refine sF [] [Uz 0 _] (λ(m:Nat)=>[]) (λ(m:Nat)=>[Uz 3 (pI (m:Int))]) (λ(m:Nat)=>m<=L.length/\∀q,q<m->ua (ae L q)=false) (λ(m:Nat)=>L.length-m) (0) ⟨Nat.zero_le _,λ_ h=>absurd h (Nat.not_lt_zero _)⟩ hI trivial ⟨gi,gc,trivial⟩ ?_
  intro m a w hm hI
  refine au ?_
  refine aZ hI 4 [Uc 0 15 _,Uc 1 16 _,Uc 2 17 _,Uc 3 18 _] (.kk .z) ⟨mv,mv,ln,bn,trivial⟩ (.dm (.dk .z)) λa w hI=>?_
  refine gA hI (λt2=>?_) (λt2=>?_)
  ·
   refine ax ?_
   refine af ?_
   refine au ?_
   refine aF ?_
   refine aZ hI 30 [Uc 0 21 _,Uc 1 22 _,Uc 2 23 _,Uc 3 24 _,Uc 4 25 _,Uc 5 26 _,Uc 6 27 _,Uc 7 28 _,Uc 8 29 _,Uc 9 30 _,Uc 10 31 _,Uc 11 32 _,Uc 12 33 _,Uc 13 34 _,Uc 14 35 _,Uc 15 36 _,Uc 16 37 _,Uc 17 38 _,Uc 18 39 _,Uc 19 40 _,Uc 20 41 _,Uc 21 42 _,Uc 22 43 _,Uc 23 44 _,Uc 24 45 _,Uc 25 46 _,Uc 26 47 _,Uc 27 48 _,Uc 28 49 _,Uc 29 50 _] (.cE .z) ⟨mv,mv,ix,fP 0 1 false,ld,bn,mv,gd λh=>iC h,gd λh=>iC h,gd λh=>FD h,gd λh=>Nt h 0 1 false,gd λh=>pz h,gd λh=>oa h,pk,mv,gd λh=>iC h,gd λh=>iC h,gd λh=>FD h,gd λh=>Nt h 1 1 false,gd λh=>pz h,gd λh=>oa h,pk,mv,gd λh=>iC h,gd λh=>iC h,gd λh=>FD h,gd λh=>Nt h 1 1 false,gd λh=>pz h,gd λh=>oa h,pk,trivial⟩ (.dm (.d8 (.d8 (.d8 (.cH (.k .z)))))) λa w hI=>?_
   refine uR hI (λt3=>?_) (λt3=>?_)
   ·
    refine aZ hI 1 [Uc 0 2 _] (.cE .z) ⟨mv,trivial⟩ (.gX .z) λa w hI=>?_
    refine aH ?_
    refine aP ?_
    refine aC ?_
    refine aC ?_
    refine aP ?_
    refine aC ?_
    exact cT hI rfl (fR (hq:=bL (by
     have e:qw L=(m:Int):=uq (by rw[<-zT]; exact t3) hm.2 (by omega)
     unfold dJ mA; rw[if_neg (by rw[t1]; exact Bool.false_ne_true),if_pos (by omega)])))
   ·
    refine ax ?_
    refine aO ?_
    refine af ?_
    refine xy hI 3 [Uc 0 19 _,Uc 1 20 _,Uc 2 3 _] (.k (.t 2 (.k .z))) ⟨mv,bn,mv,trivial⟩ (.fF (.dk .z)) λa w hI=>?_
    refine af ?_
    exact nF (m+1) ⟨by omega,λq hq=>if e:q=m then by rw[e,<-zT]; exact t3 else hm.2 q (by omega)⟩ hI trivial ⟨gc,gc,trivial⟩ (by omega)
  ·
   refine bO ?_
   refine aB ?_
   refine aB ?_
   refine aR ?_
   refine af ?_
   refine au ?_
   have ym:¬qw L>=0:=by
    have e:qw L = -1:=jM λq hq=>hm.2 q (by omega)
    omega
   have hn:∀q,q<L.length->cG 16777216 (ae L q):=λq hq=>kC (iD ym q hq)
   refine aZ hI 1 [Uc 0 4 _] (.cE .z) ⟨mv,trivial⟩ (.oK .z) λa w hI=>?_
   refine aF ?_
   refine sF [] [Uz 0 _] (λ(k:Nat)=>[]) (λ(k:Nat)=>[Uz 4 (pI (k:Int))]) (λ(k:Nat)=>k<=L.length/\∀q,q<k->gU L q) (λ(k:Nat)=>L.length-k) (0) ⟨Nat.zero_le _,λ_ h=>absurd h (Nat.not_lt_zero _)⟩ hI trivial ⟨gi,gc,trivial⟩ ?_
   intro k a w hk hI
   refine au ?_
   refine aZ hI 4 [Uc 0 51 _,Uc 1 52 _,Uc 2 53 _,Uc 3 54 _] (.kk .z) ⟨mv,mv,ln,bn,trivial⟩ (.dm (.dk .z)) λa w hI=>?_
   refine gA hI (λt4=>?_) (λt4=>?_)
   ·
    refine ax ?_
    refine af ?_
    refine au ?_
    refine aF ?_
    have hx:oN L.length k<L.length:=Nat.mod_lt _ (by omega)
    refine aZ hI 6 [Uc 0 57 _,Uc 1 58 _,Uc 2 59 _,Uc 3 60 _,Uc 4 61 _,Uc 5 5 _] (.cE .z) ⟨mv,bn,mv,ln,TS,mv,trivial⟩ (.dm (.cH (.k .z))) λa w hI=>?_
    refine aZ hI 1 [Uc 0 6 _] (.cE .z) ⟨mv,trivial⟩ (.aj .z) λa w hI=>?_
    refine aF ?_
    refine sF [] [Uz 0 _,Uz 4 _,Uz 5 _] (λ(i:Nat)=>[]) (λ(i:Nat)=>[Uz 6 (pI (i:Int))]) (λ(i:Nat)=>i<=L.length/\∀q,q<i->q≠k->q≠oN L.length k->0<az (ae L k) (ae L (oN L.length k)) (ae L q)) (λ(i:Nat)=>L.length-i) (0) ⟨Nat.zero_le _,λ_ h=>absurd h (Nat.not_lt_zero _)⟩ hI trivial ⟨gi,gi,gi,gc,trivial⟩ ?_
    intro i a w hi hI
    refine au ?_
    refine aZ hI 4 [Uc 0 62 _,Uc 1 63 _,Uc 2 64 _,Uc 3 65 _] (.aj .z) ⟨mv,mv,ln,bn,trivial⟩ (.aj (.dL .z)) λa w hI=>?_
    refine gA hI (λt5=>?_) (λt5=>?_)
    ·
     refine ax ?_
     refine af ?_
     refine au ?_
     refine aF ?_
     refine Nf hI [0,0,3,7,15,15,63,127,255,511,511,2047,4095,511,511,25087,57855,511,511,393727,918015,2097151,4194303,8388607] [Uc 0 68 _,Uc 1 69 _,Uc 2 70 _,Uc 3 71 _,Uc 4 72 _,Uc 5 73 _,Uc 6 74 _,Uc 7 75 _,Uc 8 76 _,Uc 9 77 _,Uc 10 78 _,Uc 11 79 _,Uc 12 80 _,Uc 13 81 _,Uc 14 82 _,Uc 15 83 _,Uc 16 84 _,Uc 17 85 _,Uc 18 86 _,Uc 19 87 _,Uc 20 88 _,Uc 21 89 _,Uc 22 90 _,Uc 23 91 _] (.aj (.k .z)) ⟨mv,mv,bn,mv,gd λh=>iC h,gd λh=>iC h,gd λh=>oa h,pk,mv,gd λh=>iC h,gd λh=>iC h,gd λh=>FD h,gd λh=>pz h,gd λh=>iC h,gd λh=>iC h,gd λh=>FD h,gd λh=>pz h,gd λh=>iC h,gd λh=>iC h,gd λh=>FD h,gd λh=>pz h,gd λh=>Jt h Ek (hφ:=⟨hn _ (by omega),hn _ hx,hn _ (by omega)⟩),gd λh=>oa h,pk,trivial⟩ (.aj (.d8 (.d8 (.d8 (.k .z))))) λa w hI=>?_
     refine uR hI (λt6=>?_) (λt6=>?_)
     ·
      refine aZ hI 1 [Uc 0 2 _] (.aj (.k .z)) ⟨mv,trivial⟩ (.aj (.dk .z)) λa w hI=>?_
      refine aH ?_
      refine aP ?_
      refine aC ?_
      refine aC ?_
      refine aP ?_
      refine aP ?_
      refine aC ?_
      refine aC ?_
      refine aP ?_
      refine aC ?_
      exact cT hI rfl (fR (hq:=bL (by
        have hno:¬ ∀k,k<L.length->gU L k:=λhall=>by
         have h1:=hall k (by omega) i (by omega)
         simp only[Bool.and_eq_true,decide_eq_true_eq]at t6
         exact t6.2 (xk.2 (h1 (by omega) (by omega)))
        unfold dJ mA; rw[if_neg (by rw[t1]; exact Bool.false_ne_true),if_neg ym,if_neg hno])))
     ·
      refine ax ?_
      refine aO ?_
      refine af ?_
      refine xy hI 3 [Uc 0 66 _,Uc 1 67 _,Uc 2 6 _] (.cE (.t 2 (.k .z))) ⟨mv,bn,mv,trivial⟩ (.dx (.dL .z)) λa w hI=>?_
      refine af ?_
      have hst:i≠k->i≠oN L.length k->0<az (ae L k) (ae L (oN L.length k)) (ae L i):=λh1 h2=>by
       simp only[Bool.and_eq_false_iff,decide_eq_false_iff_not,Decidable.not_not]at t6
       refine xk.1 ?_
       omega
      exact nF (i+1) ⟨by omega,λq hq h1 h2=>if e:q=i then by rw[e]at h1 h2 ⊢; exact hst h1 h2 else hi.2 q (by omega) h1 h2⟩ hI trivial ⟨gc,gc,gc,gc,trivial⟩ (by omega)
    ·
     refine bO ?_
     refine aB ?_
     refine aB ?_
     refine aR ?_
     refine aO ?_
     refine af ?_
     have ym:¬qw L>=0:=by
      have e:qw L = -1:=jM λq hq=>hm.2 q (by omega)
      omega
     have hn:∀q,q<L.length->cG 16777216 (ae L q):=λq hq=>kC (iD ym q hq)
     refine xy hI 3 [Uc 0 55 _,Uc 1 56 _,Uc 2 4 _] (.k (.t 2 (.cE .z))) ⟨mv,bn,mv,trivial⟩ (.fF (.dL .z)) λa w hI=>?_
     refine af ?_
     exact nF (k+1) ⟨by omega,λq hq=>if e:q=k then by rw[e]; exactλj hj=>hi.2 j (by omega)else hk.2 q (by omega)⟩ hI trivial ⟨gc,gc,trivial⟩ (by omega)
   ·
    refine bO ?_
    refine aB ?_
    refine aB ?_
    refine aR ?_
    refine af ?_
    refine aZ hI 1 [Uc 0 2 _] (.cE .z) ⟨mv,trivial⟩ (.dL .z) λa w hI=>?_
    refine aH ?_
    exact cT hI rfl (fR (hq:=bL (by
     have hall:∀k,k<L.length->gU L k:=λq hq=>hk.2 q (by omega)
     unfold dJ mA; rw[if_neg (by rw[t1]; exact Bool.false_ne_true),if_neg ym,if_pos hall])))
theorem AL {d:Int} (h:L.length<=1000):K1 Tryz.prog 20 (eR L d) (pI (ct L d)):=by
 intro M w0 v0 hM hv0
 refine rY (N:=18) Tryz.func20 rfl rfl rfl hM hv0 λa hI=>?_
 refine bk hI 2 [⟨1,1,some 0,none,.ptr,30,2,true,pv _,[]⟩] [] [Uc 1 2 _] .z (.k .z) ⟨bo,mv,trivial⟩ (.k .z) (.dk .z) λa w hI=>?_
 refine au ?_
 refine bk hI 4 [] [⟨some 0,4,1,0,True⟩] [Uc 1 5 _,Uc 2 6 _,Uc 3 3 _] (.k .z) (.k .z) ⟨fa,ld,uN Kq,mv,trivial⟩ (.k .z) (.oK .z) λa w hI=>?_
 refine bk hI 2 [] [] [Uc 0 7 _,Uc 1 8 _] (.k .z) (.kk .z) ⟨mv,bn,trivial⟩ (.k .z) (.gX .z) λa w hI=>?_
 refine gA hI (λt1=>?_) (λt1=>?_)
 ·
  refine bk hI 2 [] [] [Uc 0 9 _,Uc 1 2 _] (.k .z) (.t 1 (.kk .z)) ⟨mv,mv,trivial⟩ (.k .z) (.cH (.k .z)) λa w hI=>?_
  refine aH ?_
  refine aC ?_
  exact cT hI rfl (fR (hq:=bL (by unfold ct; rw[if_pos t1])))
 ·
  refine ax ?_
  refine af ?_
  refine au ?_
  refine bk hI 8 [] [⟨some 0,10,1,1,True⟩,⟨some 4,14,1,1,_⟩] [Uc 1 11 _,Uc 2 12 _,Uc 3 13 _,Uc 5 15 _,Uc 6 16 _,Uc 7 17 _] (.k .z) (.cE .z) ⟨fa,ld,bn,mv,gd λh=>FC h,gd λh=>pz h,gd λh=>oa h,pk,trivial⟩ (.d .z) (.fF (.cH (.k .z))) λa w hI=>?_
  refine uR hI (λt2=>?_) (λt2=>?_)
  ·
   refine aZ hI 1 [Uc 0 2 _] (.t 0 (.k .z)) ⟨mv,trivial⟩ (.lO .z) λa w hI=>?_
   refine aH ?_
   refine aC ?_
   exact cT hI rfl (fR (hq:=bL (by unfold ct; rw[if_neg t1,if_pos t2])))
  ·
   refine ax ?_
   refine af ?_
   refine aZ hI 1 [Uc 0 2 _] (.t 0 (.k .z)) ⟨mv,trivial⟩ (.lO .z) λa w hI=>?_
   refine aH ?_
   exact cT hI rfl (fR (hq:=bL (by unfold ct; rw[if_neg t1,if_neg (by rw[t2]; exact Bool.false_ne_true)])))
theorem GJ (e g:Pt):(e.1-g.1)*(e.1-g.1)+(e.2-g.2)*(e.2-g.2)=Ev e g:=by
 unfold Ev
 rw[<-Int.neg_sub g.1 e.1,<-Int.neg_sub g.2 e.2,Int.neg_mul_neg,Int.neg_mul_neg]
theorem AM {e g:Pt} (h:cG 16777216 e/\cG 16777216 g):K2 Tryz.prog 43 (cq e) (cq g) (pI (Ev e g)):=by
 intro M w0 v0 v1 hM hv0 jw
 obtain⟨⟨a1,a2,a3,a4⟩,b1,b2,b3,b4⟩:=h
 have m1:=nI 33554432 (p:=e.1-g.1) (q:=e.1-g.1) (by omega) (by omega) (by omega) (by omega)
 have m2:=nI 33554432 (p:=e.2-g.2) (q:=e.2-g.2) (by omega) (by omega) (by omega) (by omega)
 refine rZ (N:=28) Tryz.func43 rfl rfl rfl hM hv0 jw λa hI=>?_
 refine bk hI 3 [⟨2,2,some 0,none,.ptr,38,2,true,pv _,[]⟩,⟨3,3,some 1,none,.ptr,38,2,true,pv _,[]⟩] [] [Uc 2 4 _] .z (.kk .z) ⟨bo,bo,mv,trivial⟩ (.k (.k .z)) (.lO .z) λa w hI=>?_
 refine bk hI 24 [] [⟨some 0,5,2,0,True⟩,⟨some 2,7,3,0,True⟩,⟨some 5,10,2,0,True⟩,⟨some 7,12,3,0,True⟩,⟨some 11,16,2,1,True⟩,⟨some 13,18,3,1,True⟩,⟨some 16,21,2,1,True⟩,⟨some 18,23,3,1,True⟩] [Uc 1 6 _,Uc 3 8 _,Uc 4 9 _,Uc 6 11 _,Uc 8 13 _,Uc 9 14 _,Uc 10 15 _,Uc 12 17 _,Uc 14 19 _,Uc 15 20 _,Uc 17 22 _,Uc 19 24 _,Uc 20 25 _,Uc 21 26 _,Uc 22 27 _,Uc 23 4 _] (.k (.k .z)) (.t 23 .z) ⟨fa,ld,fa,ld,bn,fa,ld,fa,ld,bn,bn,fa,ld,fa,ld,bn,fa,ld,fa,ld,bn,bn,bn,mv,trivial⟩ (.d (.d .z)) (.d8 (.d8 (.k .z))) λa w hI=>?_
 refine aH ?_
 exact cT hI rfl (fR (hq:=bL (GJ e g)))
end Wx
