import Derived.Test.YtadigiledciihaaGreatJRB45
import Derived.Test.YtadigiledciihaaGreatJRB42
namespace Wx
open Go Go.RowKit Go.Proofs
abbrev LN (p:Pt):Fd:=⟨true,2,fq p⟩
section
variable {P:Program} {ops:Array Oper} {ms:List Nat} {c:dg} {V:List Vr} {A:List Al} {G:List aX} {i d:Nat} {ty:TypeId} {pos:String} {aI:Array Edge}
theorem I9 (L:List Pt):∀(k:Nat) (f:Fd),(L.map LN)[k]?=some f->f.p=fq (aA L k):=λk f hf=>by
 rw[List.getElem?_map]at hf
 unfold aA
 rw[List.getD_eq_getElem?_getD]
 cases h:L[k]? with
 |none=>rw[h]at hf; cases hf
 |some x=>
  rw[h]at hf
  injection hf with hf
  rw[<-hf]
  rfl
theorem QS {T:TypeId} {n:Nat} {parts:Array (Nat×Operand)} (E:TypeId) (L:List Pt) (ps:List (Nat×Pred)) (hps:dX ms G i (List.replicate n (LN (0,0))) parts.toList ps:=by repeat' (first|exact trivial|refine⟨⟨rfl,Wx.hs,_,rfl,ki _⟩,?_⟩)) (R5:mP (List.replicate n (LN (0,0))) ps=L.map LN:=by rfl) (ht:mU P T E 2:=by exact⟨by kernel_rfl,λ_=>by kernel_rfl⟩) (AH:∀w,(zeroValue E).run P w=.ok (.agg (si (0,0)).toArray) w:=by exactλ_=>by kernel_rfl) (hsz:decide (0<2/\0<n/\n*2<=16777216)=true:=by decide) (hp:Post G i (bk 2 true n λk=>fq (aA L k)):=by exact pt rfl):
  OpOk P ops ms c V A G i ⟨some d,.buildSlice T n parts,ty,pos,aI,none⟩:=
 ji (p:=fq (0,0)) (z:=si (0,0)) ht AH rfl rfl hsz (λ_=>zq.2 rfl) rfl hps R5 _ (I9 L) hp
theorem Q5 {φ:Prop} (hφ:φ) {T:TypeId} {n:Nat} {parts:Array (Nat×Operand)} (E:TypeId) (L:List Pt) (ps:List (Nat×Pred)) (hps:dX ms G i (List.replicate n (LN (0,0))) parts.toList ps:=by repeat' (first|exact trivial|refine⟨⟨rfl,Wx.hg,_,rfl,ki _⟩,?_⟩)) (R5:mP (List.replicate n (LN (0,0))) ps=L.map LN:=by rfl) (ht:mU P T E 2:=by exact⟨by kernel_rfl,λ_=>by kernel_rfl⟩) (AH:∀w,(zeroValue E).run P w=.ok (.agg (si (0,0)).toArray) w:=by exactλ_=>by kernel_rfl) (hsz:decide (0<2/\0<n/\n*2<=16777216)=true:=by decide) (hp:Post G i (bk 2 true n λk=>fq (aA L k)):=by exact pg (by assumption) rfl):
  OpOk P ops ms c V A G i ⟨some d,.buildSlice T n parts,ty,pos,aI,none⟩:=(λ_:φ=>QS E L ps hps R5 ht AH hsz hp) hφ
end
end Wx

namespace Wx
set_option maxRecDepth 100000
set_option maxHeartbeats 1000000
open Go Go.RowKit Go.Proofs
set_option linter.unusedVariables false
attribute [local irreducible] OpOk
theorem oa (h:True):K0 Tryz.prog 10 (pB true):=by
 intro M w0 hM
 refine Tf (N:=91) Tryz.func10 rfl rfl rfl hM λa hI=>?_
 refine cK hI 1 [Uc 0 0 _] .z ⟨mv,trivial⟩ (.k .z) λa w hI=>?_
 refine bN hI 7 [⟨1,1,some 5,none,.ptr,24,2,true,pv _,[(6,pv _)]⟩] [] [Uc 0 11 _,Uc 1 12 _,Uc 2 13 _,Uc 3 14 _,Uc 4 15 _] .z (.k .z) ⟨bd [.o .i,.o .i] [],bd [.o .i,.o .i] [(0,_)],bd [.o .i,.o .i] [(1,_)],QS 26 Ev [(0,fq (0,0)),(1,fq (4,0)),(2,fq (0,4))],bd [.o .n,.o .i] [(0,_),(1,_)],qw [.n,.i],lS,trivial⟩ (.s .o .z) (.ju (.dd .z)) λa w hI=>?_
 refine bN hI 7 [⟨2,2,some 5,none,.ptr,24,2,true,pv _,[(6,pv _)]⟩] [] [Uc 0 16 _,Uc 1 17 _,Uc 2 18 _,Uc 3 19 _,Uc 4 20 _] (.k .z) (.k .z) ⟨bd [.o .i,.o .i] [(0,_),(1,_)],bd [.o .i,.o .i] [(0,_),(1,_)],bd [.o .i,.o .i] [(0,_),(1,_)],QS 26 Fc [(0,fq (1,1)),(1,fq (5,1)),(2,fq (1,5))],bd [.o .n,.o .i] [(0,_),(1,_)],qw [.n,.i],lS,trivial⟩ (.k (.s .o .z)) (.ju (.dd .z)) λa w hI=>?_
 refine bN hI 8 [] [] [Uc 0 22 _,Uc 1 23 _,Uc 2 24 _,Uc 3 21 _,Uc 4 25 _,Uc 5 26 _,Uc 6 3 _,Uc 7 4 _] (.k (.k .z)) (.k .z) ⟨ld,bd [.o .i,.o .i] [(0,_),(1,_)],Eu (FQ (L:=Ev) (d:=1) (p:=(2,2))),mv,ext,ext,mv,mv,trivial⟩ (.k (.k .z)) (.ju (.kM (.k .z))) λa w hI=>?_
 refine bN hI 9 [⟨5,5,some 6,none,.ptr,24,2,true,pv _,[(7,pv _)]⟩] [] [Uc 0 28 _,Uc 1 29 _,Uc 2 30 _,Uc 3 27 _,Uc 4 31 _,Uc 5 32 _,Uc 8 6 _] (.k (.k .z)) (.eH .z) ⟨ld,ld,Eu JR,mv,ext,ext,qw [.n,.i],lS,mv,trivial⟩ (.k (.k (.s .o .z))) (.fE (.cU (.dk .z))) λa w hI=>?_
 refine bN hI 8 [] [] [Uc 0 34 _,Uc 1 35 _,Uc 2 36 _,Uc 3 33 _,Uc 4 37 _,Uc 5 38 _,Uc 6 7 _,Uc 7 8 _] (.k (.k (.k .z))) (.aB .z) ⟨ld,ld,PW (I0 (K:=Ev) (L:=Fc) (k:=1) (l:=2) (f:=1)),mv,ext,ext,mv,mv,trivial⟩ (.d (.d (.k .z))) (.aB (.cU (.ua .z))) λa w hI=>?_
 refine bN hI 14 [⟨9,9,some 11,none,.ptr,56,9,true,pv _,[(12,pv _)]⟩] [] [Uc 0 40 _,Uc 1 41 _,Uc 2 42 _,Uc 3 43 _,Uc 4 44 _,Uc 5 45 _,Uc 6 46 _,Uc 7 47 _,Uc 8 39 _,Uc 9 48 _,Uc 10 49 _,Uc 13 10 _] (.k .z) (.aB (.kk .z)) ⟨wq BQ,bd [.o .r,.o .r,.o .r] [(0,_)],wq BQ,wq BQ,wq BQ,bd [.o .r,.o .r,.o .r] [(0,_),(1,_),(2,_)],NI (p:=pV bg 64 [1,0,0]) (q:=pV bg 64 [1,4,2]) (zv:=.agg ([Zl.r,.r,.r].flatMap Zl.cs).toArray) 56 ([Zl.r,.r,.r].flatMap Zl.cs) (λi=>pV bg 64 (PY i)) (ej (λ_=>eO) rfl) (ej (λ_=>eO) rfl) (h1:=(hs).imp (dW.pV (dW.c (by decide) (dW.c (by decide) (dW.c (by decide) dW.z))))) (h2:=(hs).imp (dW.pV (dW.c (by decide) (dW.c (by decide) (dW.c (by decide) dW.z))))),Ag Dy (hφ:=LJ),mv,ext,ext,qw [.r,.r,.r],lS,mv,trivial⟩ (.k (.s .o .z)) (.aB (.fM (.d8 (.dk .z)))) λa w hI=>?_
 refine bN hI 42 [] [⟨some 10,60,5,1,_⟩,⟨some 15,65,5,0,_⟩,⟨some 30,80,9,3,_⟩,⟨some 36,86,9,6,_⟩] [Uc 0 50 _,Uc 1 51 _,Uc 2 52 _,Uc 3 53 _,Uc 4 54 _,Uc 5 55 _,Uc 6 56 _,Uc 7 57 _,Uc 8 58 _,Uc 9 59 _,Uc 11 61 _,Uc 12 62 _,Uc 13 63 _,Uc 14 64 _,Uc 16 66 _,Uc 17 67 _,Uc 18 68 _,Uc 19 69 _,Uc 20 70 _,Uc 21 71 _,Uc 22 72 _,Uc 23 73 _,Uc 24 74 _,Uc 25 75 _,Uc 26 76 _,Uc 27 77 _,Uc 28 78 _,Uc 29 79 _,Uc 31 81 _,Uc 32 82 _,Uc 33 83 _,Uc 34 84 _,Uc 35 85 _,Uc 37 87 _,Uc 38 88 _,Uc 39 89 _,Uc 40 90 _,Uc 41 0 _] (.k (.k .z)) (.t 41 (.aB (.kk .z))) ⟨mv,mv,mv,mv,Gp hs hs hs hs (pt rfl),bn,mv,gd λh=>xF h,pk,mv,gd λh=>uQ h,gd λh=>zS h,gd λh=>yB h,pk,mv,gd λh=>uQ h,gd λh=>zS h,gd λh=>bd [.o .i,.o .i] [] (hp:=pg h rfl),gd λh=>bd [.o .i,.o .i] [(0,_)] (hp:=pg h rfl),gd λh=>bd [.o .i,.o .i] [(0,_),(1,_)] (hp:=pg h rfl),gd λh=>bd [.o .i,.o .i] [(0,_),(1,_)] (hp:=pg h rfl),gd λh=>bd [.o .i,.o .i] [(1,_)] (hp:=pg h rfl),gd λh=>Q5 h 26 N2 [(0,fq (0,0)),(1,fq (4,0)),(2,fq (5,1)),(3,fq (1,5)),(4,fq (0,4))],gd λh=>N6 h (I6 (K:=N2) (L:=N2)),pk,mv,gd λh=>xF h,gd λh=>PZ h,pk,mv,gd λh=>uQ h,gd λh=>lV 1 (hcd:=h) (hq:=by decide) (hp:=pg h rfl),gd λh=>N8 h (BS ⟨#[50]⟩) (hφ:=⟨by kernel_rfl,by decide⟩),gd λh=>qz (neq:=false) (m:=⟨#[50]⟩) hg hg (pg h rfl),pk,mv,gd λh=>uQ h,gd λh=>lV 2 (hcd:=h) (hq:=by decide) (hp:=pg h rfl),gd λh=>N8 h (BS ⟨#[49]⟩) (hφ:=⟨by kernel_rfl,by decide⟩),gd λh=>qz (neq:=false) (m:=⟨#[49]⟩) hg hg (pg h rfl),pk,mv,trivial⟩ (.d (.d .z)) (.d8 (.d8 (.d8 (.d8 (.d8 (.cU (.k .z))))))) λa w hI=>?_
 refine aP ?_
 exact fo hI rfl (jP (hq:=mN (by kernel_rfl)))
end Wx

namespace Wx
set_option maxRecDepth 100000
set_option maxHeartbeats 1000000
open Go Go.RowKit Go.Proofs
set_option linter.unusedVariables false
attribute [local irreducible] OpOk
theorem CW (ms:Nat->List Rat):[((0:Int):Rat),((0:Int):Rat),((0:Int):Rat)]=aO ms 0:=by rw[Rat.intCast_zero]; rfl
theorem pz {l:List Rat} {p q:Nat} {x:Rat} (h:p≠q):(l.set p x).getD q 0=l.getD q 0:=by rw[List.getD_eq_getElem?_getD,List.getD_eq_getElem?_getD,List.getElem?_set_ne h]
theorem G6 {ms:Nat->List Rat} {i:Nat} (h:(aO ms i).length=3):(((aO ms i).set 0 ((aO ms i).getD 0 0+(ms i).getD 0 0)).set 1 (((aO ms i).set 0 ((aO ms i).getD 0 0+(ms i).getD 0 0)).getD 1 0+(ms i).getD 0 0*(ms i).getD 1 0)).set 2 ((((aO ms i).set 0 ((aO ms i).getD 0 0+(ms i).getD 0 0)).set 1 (((aO ms i).set 0 ((aO ms i).getD 0 0+(ms i).getD 0 0)).getD 1 0+(ms i).getD 0 0*(ms i).getD 1 0)).getD 2 0+(ms i).getD 0 0*(ms i).getD 2 0)=aO ms (i+1):=by
 show _=[(aO ms i).getD 0 0+(ms i).getD 0 0,(aO ms i).getD 1 0+(ms i).getD 0 0*(ms i).getD 1 0,(aO ms i).getD 2 0+(ms i).getD 0 0*(ms i).getD 2 0]
 generalize aO ms i=l at *
 match l,h with
 |[a,b,c],_=>rfl
def ia (n:Nat) (ms:Nat->List Rat):Int:=if decide ((n:Int)<1)||decide ((n:Int)>64)then 4 else if ∀i,i<n->0<=iI ((ms i).getD 0 0)then(if(aO ms n).getD 0 0=0 then 3 else 0)else 1
def fA (n:Nat) (ms:Nat->List Rat):List Rat:=if ia n ms=0 then[(aO ms n).getD 0 0,(aO ms n).getD 1 0/(aO ms n).getD 0 0,(aO ms n).getD 2 0/(aO ms n).getD 0 0]else[0,0,0]
structure rC (n j J:Nat) (ms:Nat->List Rat):Prop where
 len:n<=1000
 bits:1<=J/\J<=1000000/\j<=1000000
 el:∀i,i<n->(ms i).length=3
 bd:n<=64->∀k q,k<=n->q<3->cN J ((aO ms k).getD q 0)
section
variable {n:Nat} {ms:Nat->List Rat}
theorem J1 (t:(decide ((n:Int)<1)||decide ((n:Int)>64))=true):ia n ms=4:=by unfold ia; rw[if_pos t]
theorem JZ {i:Nat} (t:¬(decide ((n:Int)<1)||decide ((n:Int)>64))=true) (hi:i<n) (hs:iI ((ms i).getD 0 0)<0):ia n ms=1:=by
 unfold ia
 rw[if_neg t,if_neg λh=>absurd (h i hi) (by omega)]
theorem J0 (t:¬(decide ((n:Int)<1)||decide ((n:Int)>64))=true) (h:∀i,i<n->0<=iI ((ms i).getD 0 0)) (h0:(aO ms n).getD 0 0=0):ia n ms=3:=by
 unfold ia
 rw[if_neg t,if_pos h,if_pos h0]
theorem ER (t:¬(decide ((n:Int)<1)||decide ((n:Int)>64))=true) (h:∀i,i<n->0<=iI ((ms i).getD 0 0)) (h0:¬(aO ms n).getD 0 0=0):ia n ms=0:=by
 unfold ia
 rw[if_neg t,if_pos h,if_neg h0]
theorem pn {e:Int} (h:ia n ms=e) (he:e≠0):[0,0,0]=fA n ms:=by
 unfold fA
 rw[if_neg (by rw[h]; exact he)]
theorem wg (h:ia n ms=0):[(aO ms n).getD 0 0,(aO ms n).getD 1 0/(aO ms n).getD 0 0,(aO ms n).getD 2 0/(aO ms n).getD 0 0]=fA n ms:=by
 unfold fA
 rw[if_pos h]
end
variable {n j J:Nat} {ms:Nat->List Rat}
theorem mo (h:rC n j J ms):K1 Tryz.prog 21 (bk 9 true n λi=>pV bg j (ms i)) (ew (pV bg (2*J) (fA n ms)) (pI (ia n ms))):=by
 intro M w0 v0 hM hv0
 have h1:=h.len
 have h2:=h.bits
 have hl:=tO (ms:=ms)
 refine xA (N:=67) Tryz.func21 rfl rfl rfl hM hv0 λa hI=>?_
 refine bN hI 2 [⟨2,2,some 0,none,.ptr,56,9,true,pv _,[]⟩] [] [Uc 1 3 _] .z (.k .z) ⟨qw [.r,.r,.r],mv,trivial⟩ (.k .z) (.kk .z) λa w hI=>?_
 refine ax ?_
 refine bN hI 8 [] [] [Uc 0 7 _,Uc 1 8 _,Uc 2 9 _,Uc 3 10 _,Uc 4 11 _,Uc 5 12 _,Uc 6 13 _,Uc 7 14 _] (.k .z) (.kk .z) ⟨mv,ln,bn,mv,gd λh=>xF h,gd λh=>Nl h,gd λh=>yB h,pk,trivial⟩ (.k .z) (.fM (.cU (.dk .z))) λa w hI=>?_
 refine CS hI (λt1=>?_) (λt1=>?_)
 ·
  have e1:=J1 (ms:=ms) t1
  refine bN hI 3 [] [] [Uc 0 15 _,Uc 2 3 _] (.u none [(1,pv _)] .z) (.k (.t 2 (.k .z))) ⟨QO J 3,lS,mv,trivial⟩ (.s .o .z) (.ju (.k .z)) λa w hI=>?_
  refine aP ?_
  refine aH ?_
  exact mI hI rfl (xx (hq:=lP (pn e1 (by decide)) (by omega))) (jP (hq:=dD e1.symm))
 ·
  have ht:¬(decide ((n:Int)<1)||decide ((n:Int)>64))=true:=by rw[t1]; exact Bool.false_ne_true
  have hn:n<=64:=by
   simp only[Bool.or_eq_false_iff,decide_eq_false_iff_not]at t1
   omega
  refine aF ?_
  refine ai ?_
  refine bN hI 1 [⟨4,4,some 0,none,.ptr,56,9,true,pv _,[]⟩] [] [] (.k .z) (.eH .z) ⟨Pm J 3,trivial⟩ (.k (.k .z)) (.Uj .z) λa w hI=>?_
  refine ax ?_
  refine bN hI 3 [] [] [Uc 0 16 _,Uc 1 17 _,Uc 2 18 _] (.k (.k .z)) (.kk .z) ⟨mv,ln,mv,trivial⟩ (.k (.k .z)) (.Df (.k .z)) λa w hI=>?_
  refine aN ?_
  refine BF [Vz 2 2 56 9 true _] [Uz 16 _,Uz 17 _] (λ(i:Nat)=>[Vz 4 4 56 9 true (pV bg J (aO ms i))]) (λ(i:Nat)=>[Uz 18 (pI (i:Int))]) (λ(i:Nat)=>i<=n/\∀q,q<i->0<=iI ((ms q).getD 0 0)) (λ(i:Nat)=>n-i) (0) ⟨Nat.zero_le _,λq hq=>absurd hq (Nat.not_lt_zero _)⟩ hI ⟨vi,vC (λ_ _ h=>h),trivial⟩ ⟨gi,gi,gc,trivial⟩ ?_
  intro i a w hi hI
  refine bN hI 1 [] [] [Uc 0 19 _] (.k (.k .z)) (.eH .z) ⟨bn,trivial⟩ (.k (.k .z)) (.aB .z) λa w hI=>?_
  refine ax ?_
  refine mJ hI (λt2=>?_) (λt2=>?_)
  ·
   refine aF ?_
   refine ai ?_
   refine ax ?_
   refine aN ?_
   have hl2:=h.el i (by omega)
   have mw:=hl i
   have hb0:cN J ((aO ms i).getD 0 0+(ms i).getD 0 0):=h.bd (by omega) (i+1) 0 (by omega) (by decide)
   have hb1:cN J ((aO ms i).getD 1 0+(ms i).getD 0 0*(ms i).getD 1 0):=h.bd (by omega) (i+1) 1 (by omega) (by decide)
   have hb2:cN J ((aO ms i).getD 2 0+(ms i).getD 0 0*(ms i).getD 2 0):=h.bd (by omega) (i+1) 2 (by omega) (by decide)
   refine bN hI 4 [⟨6,6,some 2,none,.ptr,56,9,true,pv _,[(3,pv _)]⟩] [] [Uc 0 20 _,Uc 1 21 _] (.k (.k .z)) (.aB .z) ⟨ix,ld,qw [.r,.r,.r],lS,trivial⟩ (.k (.k (.s .o .z))) (.fE (.dd .z)) λa w hI=>?_
   refine ax ?_
   refine bN hI 4 [] [⟨some 0,22,6,0,True⟩] [Uc 1 23 _,Uc 2 24 _,Uc 3 25 _] (.k (.k (.k .z))) (.eH .z) ⟨fa,lV 0,wq EM,bn,trivial⟩ (.k (.k (.k .z))) (.fE (.dk .z)) λa w hI=>?_
   refine mJ hI (λt3=>?_) (λt3=>?_)
   ·
    have e1:=JZ ht (by omega) t3
    refine bN hI 3 [] [] [Uc 0 26 _,Uc 2 3 _] (.u none [(1,pv _)] (.k (.k .z))) (.aB .z) ⟨QO J 3,lS,mv,trivial⟩ (.s .o (.k (.k .z))) (.fE (.dk .z)) λa w hI=>?_
    refine aP ?_
    refine aH ?_
    refine bC ?_
    refine aH ?_
    refine aH ?_
    refine bC ?_
    refine aH ?_
    exact mI hI rfl (xx (hq:=lP (pn e1 (by decide)) (by omega))) (jP (hq:=dD e1.symm))
   ·
    refine aF ?_
    refine ai ?_
    refine PK hI [0,1,0,4,15,0,32,0,128,0,512,1951,4095,0,8192,0,32768,0,131072,499711,1048575,2097151,4194303] [] [⟨some 0,27,4,0,True⟩,⟨some 2,29,6,0,True⟩,⟨some 5,32,4,3,True⟩,⟨some 7,34,6,0,True⟩,⟨some 9,36,6,3,True⟩,⟨some 13,40,4,6,True⟩,⟨some 15,42,6,0,True⟩,⟨some 17,44,6,6,True⟩] [Uc 1 28 _,Uc 3 30 _,Uc 4 31 _,Uc 6 33 _,Uc 8 35 _,Uc 10 37 _,Uc 11 38 _,Uc 12 39 _,Uc 14 41 _,Uc 16 43 _,Uc 18 45 _,Uc 19 46 _,Uc 20 47 _,Uc 21 48 _] (.k (.u none [(22,pv _)] (.k .z))) (.aB .z) ⟨fa,lV 0,fa,lV 0,xZ (oZ hb0),fa,lV 1,fa,lV 0,fa,lV 1,xZ BR,xZ (oZ hb1),fa,lV 2,fa,lV 0,fa,lV 2,xZ BR,xZ (oZ hb2),bd [.o .r,.o .r,.o .r] [(0,_),(1,_),(2,_)],lS,trivial⟩ (.k (.s .o (.d .z))) (.fE (.d8 (.cU (.dd .z)))) λa w hI=>?_
    refine bK ?_
    refine ai ?_
    refine BH hI 2 [] [] [Uc 0 49 _,Uc 1 18 _] (.k (.k .z)) (.kk (.t 1 .z)) ⟨bn,mv,trivial⟩ (.k (.k .z)) (.fM (.k .z)) λa w hI=>?_
    refine ai ?_
    exact AO (i+1) ⟨by omega,λq hq=>if e:q=i then by rw[e]; omega else hi.2 q (by omega)⟩ hI ⟨vc,vC (dW.pV (dW.c (Nat.le_refl _) (dW.c (Nat.le_refl _) (dW.c (Nat.le_refl _) dW.z)))),trivial⟩ ⟨gc,gc,gc,trivial⟩ (by omega)
  ·
   refine dJ ?_
   refine aM ?_
   refine aM ?_
   refine bI ?_
   refine ai ?_
   refine ax ?_
   obtain rfl:i=n:=by omega
   have mw:=hl i
   refine bN hI 3 [] [⟨some 0,50,4,0,True⟩] [Uc 1 51 _,Uc 2 52 _] (.k (.k .z)) (.aB .z) ⟨fa,lV 0,wq EN,trivial⟩ (.k (.k .z)) (.cU (.dk .z)) λa w hI=>?_
   refine mJ hI (λt4=>?_) (λt4=>?_)
   ·
    have e1:=J0 ht hi.2 t4
    refine bN hI 3 [] [] [Uc 0 53 _,Uc 2 3 _] (.u none [(1,pv _)] (.k .z)) (.k .z) ⟨QO J 3,lS,mv,trivial⟩ (.s .o (.k .z)) (.tZ .z) λa w hI=>?_
    refine aP ?_
    refine aH ?_
    exact mI hI rfl (xx (hq:=lP (pn e1 (by decide)) (by omega))) (jP (hq:=dD e1.symm))
   ·
    have e1:=ER ht hi.2 t4
    refine aF ?_
    refine ai ?_
    refine Ib hI [0,1,0,4,0,16,60,0,128,0,512,2044,4095,8191,16383] [] [⟨some 0,54,4,0,True⟩,⟨some 2,56,4,3,True⟩,⟨some 4,58,4,0,True⟩,⟨some 7,61,4,6,True⟩,⟨some 9,63,4,0,True⟩] [Uc 1 55 _,Uc 3 57 _,Uc 5 59 _,Uc 6 60 _,Uc 8 62 _,Uc 10 64 _,Uc 11 65 _,Uc 12 66 _,Uc 14 3 _] (.u none [(13,pv _)] (.k .z)) (.k .z) ⟨fa,lV 0,fa,lV 1,fa,lV 0,Eu xe,fa,lV 2,fa,lV 0,Eu xe,bd [.o .r,.o .r,.o .r] [(0,_),(1,_),(2,_)],lS,mv,trivial⟩ (.s .o (.d .z)) (.d8 (.dk .z)) λa w hI=>?_
    refine aP ?_
    exact mI hI rfl (xx (hq:=λw v hv=>lP (wg e1) (Nat.le_refl _) w v (dW.pV (dW.c (by omega) (dW.c (by omega) (dW.c (by omega) dW.z))) w v hv))) (jP (hq:=dD e1.symm))
variable {x y:Rat} {k:Nat}
theorem AQ (hb:cN J (x+y)) (h:j+k<=4000000):∀w v1 v2,pN j x w v1->pN k y w v2->Calls Tryz.prog 51 #[v1,v2] w (dK (pN J (x+y)) w):=λw v1 v2 h1 h2=>(Pj h w v1 v2 h1 h2).mono λ_ _=>dK.map λ_ _ h=>⟨hb,h.2⟩
theorem PB (h:j+k<=4000000):K2 Tryz.prog 53 (pN j x) (pN k y) (pN (j+k) (x/y)):=by
 intro M w0 v0 v1 hM hv0 mL
 refine xB (N:=14) Tryz.func53 rfl rfl rfl hM hv0 mL λa hI=>?_
 refine bN hI 3 [⟨2,2,some 0,none,.ptr,61,3,true,pv _,[]⟩,⟨3,3,some 1,none,.ptr,61,3,true,pv _,[]⟩,⟨4,4,some 2,none,.ptr,61,3,true,pv _,[]⟩] [] [] .z (.kk .z) ⟨bo,bo,qw [.f],trivial⟩ (.k (.k (.k .z))) (.dd .z) λa w hI=>?_
 refine bN hI 9 [⟨5,5,some 6,none,.ptr,61,3,true,pv _,[(7,pv _)]⟩] [] [Uc 0 8 _,Uc 1 9 _,Uc 2 10 _,Uc 3 7 _,Uc 4 11 _,Uc 5 12 _,Uc 8 6 _] (.k (.k (.k .z))) .z ⟨ld,ld,xZ Pk,mv,ext,ext,qw [.f],lS,mv,trivial⟩ (.d (.d (.k (.s .o .z)))) (.cU (.NP .z)) λa w hI=>?_
 refine bN hI 2 [] [] [Uc 0 13 _] (.u none [(1,pv _)] (.k .z)) .z ⟨ld,lS,trivial⟩ (.s .o (.d .z)) (.d .z) λa w hI=>?_
 refine aP ?_
 exact fo hI rfl xx
theorem Ed (h:rC n j J ms):K1 Tryz.prog 22 (bk 9 true n λi=>pV bW j (ms i)) (ew (pV bW (2*J+128) (fA n ms)) (pI (ia n ms))):=by
 intro M w0 v0 hM hv0
 have h1:=h.len
 have h2:=h.bits
 have hl:=tO (ms:=ms)
 refine xA (N:=91) Tryz.func22 rfl rfl rfl hM hv0 λa hI=>?_
 refine bN hI 2 [⟨2,2,some 0,none,.ptr,63,9,true,pv _,[]⟩] [] [Uc 1 3 _] .z (.k .z) ⟨qw [.f,.f,.f],mv,trivial⟩ (.k .z) (.kk .z) λa w hI=>?_
 refine bN hI 6 [⟨4,4,some 4,none,.ptr,63,9,true,pv _,[(5,pv _)]⟩] [] [Uc 0 7 _,Uc 1 8 _,Uc 2 9 _,Uc 3 10 _] (.k .z) (.kk .z) ⟨wq F9,wq F9,wq F9,bd [.o .f,.o .f,.o .f] [(0,_),(1,_),(2,_)],qw [.f,.f,.f],lS,trivial⟩ (.k (.s .o .z)) (.fM (.dd .z)) λa w hI=>?_
 refine ax ?_
 refine bN hI 8 [] [] [Uc 0 11 _,Uc 1 12 _,Uc 2 13 _,Uc 3 14 _,Uc 4 15 _,Uc 5 16 _,Uc 6 17 _,Uc 7 18 _] (.k (.k .z)) (.kk .z) ⟨mv,ln,bn,mv,gd λh=>xF h,gd λh=>Nl h,gd λh=>yB h,pk,trivial⟩ (.k (.k .z)) (.fM (.cU (.dk .z))) λa w hI=>?_
 refine CS hI (λt1=>?_) (λt1=>?_)
 ·
  have e1:=J1 (ms:=ms) t1
  refine bN hI 3 [] [] [Uc 0 19 _,Uc 2 3 _] (.u none [(1,pv _)] (.k .z)) (.k (.t 2 (.k .z))) ⟨ld,lS,mv,trivial⟩ (.s .o (.k .z)) (.ju (.k .z)) λa w hI=>?_
  refine aP ?_
  refine aH ?_
  exact mI hI rfl (xx (hq:=λw v hv=>lP ((CW ms).trans (pn e1 (by decide))) (Nat.le_refl _) w v (dW.pV (dW.c (by omega) (dW.c (by omega) (dW.c (by omega) dW.z))) w v hv))) (jP (hq:=dD e1.symm))
 ·
  have ht:¬(decide ((n:Int)<1)||decide ((n:Int)>64))=true:=by rw[t1]; exact Bool.false_ne_true
  have hn:n<=64:=by
   simp only[Bool.or_eq_false_iff,decide_eq_false_iff_not]at t1
   omega
  refine aF ?_
  refine ai ?_
  refine bN hI 3 [⟨5,5,some 1,none,.ptr,63,9,true,pv _,[(2,pv _)]⟩] [] [Uc 0 20 _] (.k (.k .z)) (.eH .z) ⟨ld,qw [.f,.f,.f],lS,trivial⟩ (.k (.k (.s .o .z))) (.fM .z) λa w hI=>?_
  refine ax ?_
  refine bN hI 1 [] [] [Uc 0 6 _] (.k (.k (.k .z))) (.kk .z) ⟨mv,trivial⟩ (.k (.k (.k .z))) (.eH .z) λa w hI=>?_
  refine aN ?_
  refine BF [Vz 2 2 63 9 true _,Vz 4 4 63 9 true _] [Uz 0 _] (λ(i:Nat)=>[Vz 5 5 63 9 true (pV bW (J+64) (aO ms i))]) (λ(i:Nat)=>[Uz 6 (pI (i:Int))]) (λ(i:Nat)=>i<=n/\∀q,q<i->0<=iI ((ms q).getD 0 0)) (λ(i:Nat)=>n-i) (0) ⟨Nat.zero_le _,λq hq=>absurd hq (Nat.not_lt_zero _)⟩ hI ⟨vi,vi,vC (λw v hv=>lP (CW ms) (Nat.le_refl _) w v (dW.pV (dW.c (Nat.le_add_left 64 J) (dW.c (Nat.le_add_left 64 J) (dW.c (Nat.le_add_left 64 J) dW.z))) w v hv)),trivial⟩ ⟨gi,gc,trivial⟩ ?_
  intro i a w hi hI
  refine ax ?_
  refine bN hI 4 [] [] [Uc 0 21 _,Uc 1 22 _,Uc 2 23 _,Uc 3 24 _] (.k (.k (.k .z))) (.kk .z) ⟨mv,mv,ln,bn,trivial⟩ (.k (.k (.k .z))) (.fM (.dk .z)) λa w hI=>?_
  refine mJ hI (λt2=>?_) (λt2=>?_)
  ·
   refine aF ?_
   refine ai ?_
   refine ax ?_
   refine aN ?_
   refine ax ?_
   have hl2:=h.el i (by omega)
   have mw:=hl i
   have hb0:cN J ((aO ms i).getD 0 0+(ms i).getD 0 0):=h.bd (by omega) (i+1) 0 (by omega) (by decide)
   have T2:((aO ms i).set 0 ((aO ms i).getD 0 0+(ms i).getD 0 0)).length=3:=by rw[List.length_set]; exact mw
   have hl4:(((aO ms i).set 0 ((aO ms i).getD 0 0+(ms i).getD 0 0)).set 1 (((aO ms i).set 0 ((aO ms i).getD 0 0+(ms i).getD 0 0)).getD 1 0+(ms i).getD 0 0*(ms i).getD 1 0)).length=3:=by rw[List.length_set]; exact T2
   have hb1:cN J (((aO ms i).set 0 ((aO ms i).getD 0 0+(ms i).getD 0 0)).getD 1 0+(ms i).getD 0 0*(ms i).getD 1 0):=by rw[pz (by decide)]; exact h.bd (by omega) (i+1) 1 (by omega) (by decide)
   have hb2:cN J ((((aO ms i).set 0 ((aO ms i).getD 0 0+(ms i).getD 0 0)).set 1 (((aO ms i).set 0 ((aO ms i).getD 0 0+(ms i).getD 0 0)).getD 1 0+(ms i).getD 0 0*(ms i).getD 1 0)).getD 2 0+(ms i).getD 0 0*(ms i).getD 2 0):=by rw[pz (by decide),pz (by decide)]; exact h.bd (by omega) (i+1) 2 (by omega) (by decide)
   refine bN hI 7 [] [] [Uc 0 27 _,Uc 1 28 _,Uc 2 29 _,Uc 3 30 _,Uc 4 31 _,Uc 5 32 _,Uc 6 33 _] (.k (.k (.k .z))) (.eH .z) ⟨mv,mv,ix,fQ 0,ld,wq Mz,bn,trivial⟩ (.k (.k (.k .z))) (.fM (.cU (.dk .z))) λa w hI=>?_
   refine mJ hI (λt3=>?_) (λt3=>?_)
   ·
    have e1:=JZ ht (by omega) t3
    refine bN hI 3 [] [] [Uc 0 34 _,Uc 2 3 _] (.u none [(1,pv _)] (.k (.k .z))) (.eH .z) ⟨ld,lS,mv,trivial⟩ (.s .o (.k (.k .z))) (.fM (.k .z)) λa w hI=>?_
    refine aP ?_
    refine aH ?_
    refine bC ?_
    refine aH ?_
    refine aH ?_
    refine bC ?_
    refine aH ?_
    exact mI hI rfl (xx (hq:=λw v hv=>lP ((CW ms).trans (pn e1 (by decide))) (Nat.le_refl _) w v (dW.pV (dW.c (by omega) (dW.c (by omega) (dW.c (by omega) dW.z))) w v hv))) (jP (hq:=dD e1.symm))
   ·
    refine aF ?_
    refine ai ?_
    refine Ib hI [0,1,0,0,12,28,60,127,255,511] [] [⟨some 0,35,5,0,True⟩,⟨some 8,43,5,0,True⟩] [Uc 1 36 _,Uc 2 37 _,Uc 3 38 _,Uc 4 39 _,Uc 5 40 _,Uc 6 41 _,Uc 7 42 _] (.k (.k (.u none [(9,pv _)] .z))) (.eH .z) ⟨fa,lV 0,mv,mv,ix,fQ 0,ld,xZ (AQ hb0),fa,sJ 0,trivial⟩ (.k (.k (.s .o .z))) (.fM (.cU (.dd .z))) λa w hI=>?_
    refine Ib hI [0,1,0,0,12,28,60,0,0,384,896,1920,4092,8191,16383,32767] [] [⟨some 0,44,5,3,True⟩,⟨some 14,58,5,3,True⟩] [Uc 1 45 _,Uc 2 46 _,Uc 3 47 _,Uc 4 48 _,Uc 5 49 _,Uc 6 50 _,Uc 7 51 _,Uc 8 52 _,Uc 9 53 _,Uc 10 54 _,Uc 11 55 _,Uc 12 56 _,Uc 13 57 _] (.k (.k (.u none [(15,pv _)] .z))) (.kk .z) ⟨fa,lV 1,mv,mv,ix,fQ 0,ld,mv,mv,ix,fQ 1,ld,xZ KC,xZ (AQ hb1),fa,sJ 1,trivial⟩ (.k (.k (.s .o .z))) (.fM (.d8 (.NP .z))) λa w hI=>?_
    refine PK hI [0,1,0,0,12,28,60,0,0,384,896,1920,4092,8191,16383,32767] [] [⟨some 0,59,5,6,True⟩,⟨some 14,73,5,6,True⟩] [Uc 1 60 _,Uc 2 61 _,Uc 3 62 _,Uc 4 63 _,Uc 5 64 _,Uc 6 65 _,Uc 7 66 _,Uc 8 67 _,Uc 9 68 _,Uc 10 69 _,Uc 11 70 _,Uc 12 71 _,Uc 13 72 _] (.k (.k (.u none [(15,pv _)] .z))) (.kk .z) ⟨fa,lV 2,mv,mv,ix,fQ 0,ld,mv,mv,ix,fQ 2,ld,xZ KC,xZ (AQ hb2),fa,sJ 2,trivial⟩ (.k (.k (.s .o .z))) (.fM (.d8 (.NP .z))) λa w hI=>?_
    refine bK ?_
    refine ai ?_
    refine BH hI 3 [] [] [Uc 0 25 _,Uc 1 26 _,Uc 2 6 _] (.k (.k (.k .z))) (.k (.t 2 .z)) ⟨mv,bn,mv,trivial⟩ (.k (.k (.k .z))) (.ju (.k .z)) λa w hI=>?_
    refine ai ?_
    exact AO (i+1) ⟨by omega,λq hq=>if e:q=i then by rw[e]; omega else hi.2 q (by omega)⟩ hI ⟨vc,vc,vC (lP (G6 mw) (Nat.le_refl _)),trivial⟩ ⟨gc,gc,trivial⟩ (by omega)
  ·
   refine dJ ?_
   refine aM ?_
   refine aM ?_
   refine bI ?_
   refine ai ?_
   refine ax ?_
   obtain rfl:i=n:=by omega
   have mw:=hl i
   refine bN hI 3 [] [⟨some 0,74,5,0,True⟩] [Uc 1 75 _,Uc 2 76 _] (.k (.k (.k .z))) (.eH .z) ⟨fa,lV 0,wq MA,trivial⟩ (.k (.k (.k .z))) (.cU (.k .z)) λa w hI=>?_
   refine mJ hI (λt4=>?_) (λt4=>?_)
   ·
    have e1:=J0 ht hi.2 t4
    refine bN hI 3 [] [] [Uc 0 77 _,Uc 2 3 _] (.u none [(1,pv _)] (.k (.k .z))) (.k .z) ⟨ld,lS,mv,trivial⟩ (.s .o (.d (.k .z))) (.tZ .z) λa w hI=>?_
    refine aP ?_
    refine aH ?_
    exact mI hI rfl (xx (hq:=λw v hv=>lP ((CW ms).trans (pn e1 (by decide))) (Nat.le_refl _) w v (dW.pV (dW.c (by omega) (dW.c (by omega) (dW.c (by omega) dW.z))) w v hv))) (jP (hq:=dD e1.symm))
   ·
    have e1:=ER ht hi.2 t4
    refine aF ?_
    refine ai ?_
    refine Ib hI [0,1,0,4,0,16,60,0,128,0,512,2044,4095,8191,16383] [] [⟨some 0,78,5,0,True⟩,⟨some 2,80,5,3,True⟩,⟨some 4,82,5,0,True⟩,⟨some 7,85,5,6,True⟩,⟨some 9,87,5,0,True⟩] [Uc 1 79 _,Uc 3 81 _,Uc 5 83 _,Uc 6 84 _,Uc 8 86 _,Uc 10 88 _,Uc 11 89 _,Uc 12 90 _,Uc 14 3 _] (.u none [(13,pv _)] (.k (.k .z))) (.k .z) ⟨fa,lV 0,fa,lV 1,fa,lV 0,Eu PB,fa,lV 2,fa,lV 0,Eu PB,bd [.o .f,.o .f,.o .f] [(0,_),(1,_),(2,_)],lS,mv,trivial⟩ (.s .o (.d (.d .z))) (.d8 (.dk .z)) λa w hI=>?_
    refine aP ?_
    exact mI hI rfl (xx (hq:=λw v hv=>lP (wg e1) (Nat.le_refl _) w v (dW.pV (dW.c (by omega) (dW.c (by omega) (dW.c (by omega) dW.z))) w v hv))) (jP (hq:=dD e1.symm))
end Wx
