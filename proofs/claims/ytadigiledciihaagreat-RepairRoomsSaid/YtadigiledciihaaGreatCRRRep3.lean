import Derived.Test.YtadigiledciihaaGreatJRR42
import Derived.Test.YtadigiledciihaaGreatJRR38
namespace Wx
set_option maxRecDepth 100000
set_option maxHeartbeats 1000000
open Go Go.RowKit Go.Proofs
set_option linter.unusedVariables false
attribute [local irreducible] OpOk
def tW (a b p:Pt):Int:=if cz a b p<0 then -1 else if cz a b p>0 then 1 else 0
variable {a b:Pt}
theorem nQ {p:Pt}:tW a b p=1↔0<cz a b p:=by
 unfold tW
 by_cases h:cz a b p<0
 ·rw[if_pos h]; omega
 ·rw[if_neg h]
  by_cases h2:cz a b p>0
  ·rw[if_pos h2]; omega
  ·rw[if_neg h2]; omega
def LG (p:Pt):Bool:=((decide (p.1 < -1048576)||decide (p.1>1048576))||decide (p.2 < -1048576))||decide (p.2>1048576)
theorem Ae (p:Pt):LG p=wL p:=by
 unfold LG wL Dd
 rw[Bool.or_assoc]
theorem EK {c:Pt} (h:b9 16777216 a/\b9 16777216 b/\b9 16777216 c):K3 Tryz.prog 57 (dS a) (dS b) (dS c) (pI (tW a b c)):=by
 intro M w0 v0 v1 v2 hM hv0 ir hv2
 obtain⟨⟨a1,a2,a3,a4⟩,⟨b1,b2,b3,b4⟩,c1,c2,c3,c4⟩:=h
 have m1:=fe 33554432 (p:=b.1-a.1) (q:=c.2-a.2) (by omega) (by omega) (by omega) (by omega)
 have m2:=fe 33554432 (p:=b.2-a.2) (q:=c.1-a.1) (by omega) (by omega) (by omega) (by omega)
 refine zJ (N:=35) Tryz.func57 rfl rfl rfl hM hv0 ir hv2 λa hI=>?_
 refine bJ hI 4 [⟨3,3,some 0,none,.ptr,26,2,true,pv _,[]⟩,⟨4,4,some 1,none,.ptr,26,2,true,pv _,[]⟩,⟨5,5,some 2,none,.ptr,26,2,true,pv _,[]⟩] [] [Uc 3 6 _] .z (.dr .z) ⟨bo,bo,bo,mv,trivial⟩ (.k (.k (.k .z))) (.eM .z) λa w hI=>?_
 refine bJ hI 24 [] [⟨some 0,8,4,0,True⟩,⟨some 2,10,3,0,True⟩,⟨some 5,13,5,1,True⟩,⟨some 7,15,3,1,True⟩,⟨some 11,19,4,1,True⟩,⟨some 13,21,3,1,True⟩,⟨some 16,24,5,0,True⟩,⟨some 18,26,3,0,True⟩] [Uc 1 9 _,Uc 3 11 _,Uc 4 12 _,Uc 6 14 _,Uc 8 16 _,Uc 9 17 _,Uc 10 18 _,Uc 12 20 _,Uc 14 22 _,Uc 15 23 _,Uc 17 25 _,Uc 19 27 _,Uc 20 28 _,Uc 21 29 _,Uc 22 30 _,Uc 23 7 _] (.k (.k (.k .z))) (.k .z) ⟨fa,ld,fa,ld,bn,fa,ld,fa,ld,bn,bn,fa,ld,fa,ld,bn,fa,ld,fa,ld,bn,bn,bn,mv,trivial⟩ (.d (.d (.d .z))) (.jE (.d8 (.dD (.k .z)))) λa w hI=>?_
 refine az ?_
 refine bg hI 2 [Uc 0 31 _,Uc 1 32 _] (.kk .z) ⟨mv,bn,trivial⟩ (.nu .z) λa w hI=>?_
 refine kp hI (λt1=>?_) (λt1=>?_)
 ·
  refine bg hI 1 [Uc 0 6 _] (.t 0 (.kk .z)) ⟨mv,trivial⟩ (.Ov .z) λa w hI=>?_
  refine aI ?_
  refine aF ?_
  exact cF hI rfl (fE (hq:=cJ (by unfold tW cz; rw[if_pos t1])))
 ·
  refine aG ?_
  refine af ?_
  refine az ?_
  refine bg hI 2 [Uc 0 33 _,Uc 1 34 _] (.dr .z) ⟨mv,bn,trivial⟩ (.jE (.k .z)) λa w hI=>?_
  refine kp hI (λt2=>?_) (λt2=>?_)
  ·
   refine bg hI 1 [Uc 0 6 _] (.t 0 (.k .z)) ⟨mv,trivial⟩ (.n5 .z) λa w hI=>?_
   refine aI ?_
   refine aF ?_
   exact cF hI rfl (fE (hq:=cJ (by unfold tW cz; rw[if_neg t1,if_pos t2])))
  ·
   refine aG ?_
   refine af ?_
   refine bg hI 1 [Uc 0 6 _] (.t 0 (.k .z)) ⟨mv,trivial⟩ (.n5 .z) λa w hI=>?_
   refine aI ?_
   exact cF hI rfl (fE (hq:=cJ (by unfold tW cz; rw[if_neg t1,if_neg t2])))
variable {L:List Pt}
theorem EJ (h:L.length<=1000):K1 Tryz.prog 26 (fT L) (pI (cR L)):=by
 intro M w0 v0 hM hv0
 refine sU (N:=92) Tryz.func26 rfl rfl rfl hM hv0 λa hI=>?_
 refine bg hI 1 [Uc 0 2 _] (.k .z) ⟨mv,trivial⟩ (.kk .z) λa w hI=>?_
 refine az ?_
 refine bg hI 8 [Uc 0 7 _,Uc 1 8 _,Uc 2 9 _,Uc 3 10 _,Uc 4 11 _,Uc 5 12 _,Uc 6 13 _,Uc 7 14 _] (.kk .z) ⟨mv,ln,bn,mv,gd λh=>fl h,gd λh=>OJ h,gd λh=>nh h,pk,trivial⟩ (.e9 (.dD (.dk .z))) λa w hI=>?_
 refine vB hI (λt1=>?_) (λt1=>?_)
 ·
  refine bg hI 1 [Uc 0 2 _] (.k (.t 0 (.k .z))) ⟨mv,trivial⟩ (.w9 .z) λa w hI=>?_
  refine aI ?_
  refine aF ?_
  exact cF hI rfl (fE (hq:=cJ (by unfold cR pH; rw[if_pos t1])))
 ·
  refine aG ?_
  refine af ?_
  refine az ?_
  refine bg hI 1 [Uc 0 3 _] (.dr .z) ⟨mv,trivial⟩ (.nu .z) λa w hI=>?_
  refine aK ?_
  refine vK [] [Uz 0 _] (λ(m:Nat)=>[]) (λ(m:Nat)=>[Uz 3 (pI (m:Int))]) (λ(m:Nat)=>m<=L.length/\∀q,q<m->wL (av L q)=false) (λ(m:Nat)=>L.length-m) (0) ⟨Nat.zero_le _,λ_ h=>absurd h (Nat.not_lt_zero _)⟩ hI trivial ⟨gi,gc,trivial⟩ ?_
  intro m a w hm hI
  refine az ?_
  refine bg hI 4 [Uc 0 15 _,Uc 1 16 _,Uc 2 17 _,Uc 3 18 _] (.kk .z) ⟨mv,mv,ln,bn,trivial⟩ (.e9 (.dk .z)) λa w hI=>?_
  refine kp hI (λt2=>?_) (λt2=>?_)
  ·
   refine aG ?_
   refine af ?_
   refine az ?_
   refine aK ?_
   refine bg hI 30 [Uc 0 21 _,Uc 1 22 _,Uc 2 23 _,Uc 3 24 _,Uc 4 25 _,Uc 5 26 _,Uc 6 27 _,Uc 7 28 _,Uc 8 29 _,Uc 9 30 _,Uc 10 31 _,Uc 11 32 _,Uc 12 33 _,Uc 13 34 _,Uc 14 35 _,Uc 15 36 _,Uc 16 37 _,Uc 17 38 _,Uc 18 39 _,Uc 19 40 _,Uc 20 41 _,Uc 21 42 _,Uc 22 43 _,Uc 23 44 _,Uc 24 45 _,Uc 25 46 _,Uc 26 47 _,Uc 27 48 _,Uc 28 49 _,Uc 29 50 _] (.dr .z) ⟨mv,mv,ix,fP 0 1 false,ld,bn,mv,gd λh=>fl h,gd λh=>fl h,gd λh=>Dh h,gd λh=>JH h 0 1 false,gd λh=>jC h,gd λh=>nh h,pk,mv,gd λh=>fl h,gd λh=>fl h,gd λh=>Dh h,gd λh=>JH h 1 1 false,gd λh=>jC h,gd λh=>nh h,pk,mv,gd λh=>fl h,gd λh=>fl h,gd λh=>Dh h,gd λh=>JH h 1 1 false,gd λh=>jC h,gd λh=>nh h,pk,trivial⟩ (.e9 (.d8 (.d8 (.d8 (.dD (.k .z)))))) λa w hI=>?_
   refine vB hI (λt3=>?_) (λt3=>?_)
   ·
    refine bg hI 1 [Uc 0 2 _] (.dr .z) ⟨mv,trivial⟩ (.nu .z) λa w hI=>?_
    refine aI ?_
    refine aQ ?_
    refine aF ?_
    refine aF ?_
    refine aQ ?_
    refine aF ?_
    exact cF hI rfl (fE (hq:=cJ (by
     have e:sG L=(m:Int):=uM (by rw[<-Ae]; exact t3) hm.2 (by omega)
     unfold cR pH; rw[if_neg (by rw[t1]; exact Bool.false_ne_true),if_pos (by omega)])))
   ·
    refine aG ?_
    refine bk ?_
    refine af ?_
    refine sq hI 3 [Uc 0 19 _,Uc 1 20 _,Uc 2 3 _] (.k (.t 2 (.k .z))) ⟨mv,bn,mv,trivial⟩ (.jE (.dk .z)) λa w hI=>?_
    refine af ?_
    exact vI (m+1) ⟨by omega,λq hq=>if e:q=m then by rw[e,<-Ae]; exact t3 else hm.2 q (by omega)⟩ hI trivial ⟨gc,gc,trivial⟩ (by omega)
  ·
   refine cI ?_
   refine aJ ?_
   refine aJ ?_
   refine bp ?_
   refine af ?_
   refine az ?_
   have yN:¬sG L>=0:=by
    have e:sG L = -1:=kW λq hq=>hm.2 q (by omega)
    omega
   have hn:∀q,q<L.length->b9 16777216 (av L q):=λq hq=>lP (kX yN q hq)
   refine bg hI 1 [Uc 0 4 _] (.dr .z) ⟨mv,trivial⟩ (.w9 .z) λa w hI=>?_
   refine aK ?_
   refine vK [] [Uz 0 _] (λ(k:Nat)=>[]) (λ(k:Nat)=>[Uz 4 (pI (k:Int))]) (λ(k:Nat)=>k<=L.length/\∀q,q<k->kL L q) (λ(k:Nat)=>L.length-k) (0) ⟨Nat.zero_le _,λ_ h=>absurd h (Nat.not_lt_zero _)⟩ hI trivial ⟨gi,gc,trivial⟩ ?_
   intro k a w hk hI
   refine az ?_
   refine bg hI 4 [Uc 0 51 _,Uc 1 52 _,Uc 2 53 _,Uc 3 54 _] (.kk .z) ⟨mv,mv,ln,bn,trivial⟩ (.e9 (.dk .z)) λa w hI=>?_
   refine kp hI (λt4=>?_) (λt4=>?_)
   ·
    refine aG ?_
    refine af ?_
    refine az ?_
    refine aK ?_
    have hx:mJ L.length k<L.length:=Nat.mod_lt _ (by omega)
    refine bg hI 6 [Uc 0 57 _,Uc 1 58 _,Uc 2 59 _,Uc 3 60 _,Uc 4 61 _,Uc 5 5 _] (.dr .z) ⟨mv,bn,mv,ln,R5,mv,trivial⟩ (.e9 (.dD (.k .z))) λa w hI=>?_
    refine bg hI 1 [Uc 0 6 _] (.dr .z) ⟨mv,trivial⟩ (.au .z) λa w hI=>?_
    refine aK ?_
    refine vK [] [Uz 0 _,Uz 4 _,Uz 5 _] (λ(i:Nat)=>[]) (λ(i:Nat)=>[Uz 6 (pI (i:Int))]) (λ(i:Nat)=>i<=L.length/\∀q,q<i->q≠k->q≠mJ L.length k->0<cz (av L k) (av L (mJ L.length k)) (av L q)) (λ(i:Nat)=>L.length-i) (0) ⟨Nat.zero_le _,λ_ h=>absurd h (Nat.not_lt_zero _)⟩ hI trivial ⟨gi,gi,gi,gc,trivial⟩ ?_
    intro i a w hi hI
    refine az ?_
    refine bg hI 4 [Uc 0 62 _,Uc 1 63 _,Uc 2 64 _,Uc 3 65 _] (.au .z) ⟨mv,mv,ln,bn,trivial⟩ (.au (.eM .z)) λa w hI=>?_
    refine kp hI (λt5=>?_) (λt5=>?_)
    ·
     refine aG ?_
     refine af ?_
     refine az ?_
     refine aK ?_
     refine Nl hI [0,0,3,7,15,15,63,127,255,511,511,2047,4095,511,511,25087,57855,511,511,393727,918015,2097151,4194303,8388607] [Uc 0 68 _,Uc 1 69 _,Uc 2 70 _,Uc 3 71 _,Uc 4 72 _,Uc 5 73 _,Uc 6 74 _,Uc 7 75 _,Uc 8 76 _,Uc 9 77 _,Uc 10 78 _,Uc 11 79 _,Uc 12 80 _,Uc 13 81 _,Uc 14 82 _,Uc 15 83 _,Uc 16 84 _,Uc 17 85 _,Uc 18 86 _,Uc 19 87 _,Uc 20 88 _,Uc 21 89 _,Uc 22 90 _,Uc 23 91 _] (.au (.k .z)) ⟨mv,mv,bn,mv,gd λh=>fl h,gd λh=>fl h,gd λh=>nh h,pk,mv,gd λh=>fl h,gd λh=>fl h,gd λh=>Dh h,gd λh=>jC h,gd λh=>fl h,gd λh=>fl h,gd λh=>Dh h,gd λh=>jC h,gd λh=>fl h,gd λh=>fl h,gd λh=>Dh h,gd λh=>jC h,gd λh=>yI h EK (hφ:=⟨hn _ (by omega),hn _ hx,hn _ (by omega)⟩),gd λh=>nh h,pk,trivial⟩ (.au (.d8 (.d8 (.d8 (.k .z))))) λa w hI=>?_
     refine vB hI (λt6=>?_) (λt6=>?_)
     ·
      refine bg hI 1 [Uc 0 2 _] (.au (.k .z)) ⟨mv,trivial⟩ (.au (.dk .z)) λa w hI=>?_
      refine aI ?_
      refine aQ ?_
      refine aF ?_
      refine aF ?_
      refine aQ ?_
      refine aQ ?_
      refine aF ?_
      refine aF ?_
      refine aQ ?_
      refine aF ?_
      exact cF hI rfl (fE (hq:=cJ (by
        have hno:¬ ∀k,k<L.length->kL L k:=λhall=>by
         have h1:=hall k (by omega) i (by omega)
         simp only[Bool.and_eq_true,decide_eq_true_eq]at t6
         exact t6.2 (nQ.2 (h1 (by omega) (by omega)))
        unfold cR pH; rw[if_neg (by rw[t1]; exact Bool.false_ne_true),if_neg yN,if_neg hno])))
     ·
      refine aG ?_
      refine bk ?_
      refine af ?_
      refine sq hI 3 [Uc 0 66 _,Uc 1 67 _,Uc 2 6 _] (.dr (.t 2 (.k .z))) ⟨mv,bn,mv,trivial⟩ (.fc (.eM .z)) λa w hI=>?_
      refine af ?_
      have hst:i≠k->i≠mJ L.length k->0<cz (av L k) (av L (mJ L.length k)) (av L i):=λh1 h2=>by
       simp only[Bool.and_eq_false_iff,decide_eq_false_iff_not,Decidable.not_not]at t6
       refine nQ.1 ?_
       omega
      exact vI (i+1) ⟨by omega,λq hq h1 h2=>if e:q=i then by rw[e]at h1 h2 ⊢; exact hst h1 h2 else hi.2 q (by omega) h1 h2⟩ hI trivial ⟨gc,gc,gc,gc,trivial⟩ (by omega)
    ·
     refine cI ?_
     refine aJ ?_
     refine aJ ?_
     refine bp ?_
     refine bk ?_
     refine af ?_
     have yN:¬sG L>=0:=by
      have e:sG L = -1:=kW λq hq=>hm.2 q (by omega)
      omega
     have hn:∀q,q<L.length->b9 16777216 (av L q):=λq hq=>lP (kX yN q hq)
     refine sq hI 3 [Uc 0 55 _,Uc 1 56 _,Uc 2 4 _] (.k (.t 2 (.dr .z))) ⟨mv,bn,mv,trivial⟩ (.jE (.eM .z)) λa w hI=>?_
     refine af ?_
     exact vI (k+1) ⟨by omega,λq hq=>if e:q=k then by rw[e]; exactλj hj=>hi.2 j (by omega)else hk.2 q (by omega)⟩ hI trivial ⟨gc,gc,trivial⟩ (by omega)
   ·
    refine cI ?_
    refine aJ ?_
    refine aJ ?_
    refine bp ?_
    refine af ?_
    refine bg hI 1 [Uc 0 2 _] (.dr .z) ⟨mv,trivial⟩ (.eM .z) λa w hI=>?_
    refine aI ?_
    exact cF hI rfl (fE (hq:=cJ (by
     have hall:∀k,k<L.length->kL L k:=λq hq=>hk.2 q (by omega)
     unfold cR pH; rw[if_neg (by rw[t1]; exact Bool.false_ne_true),if_neg yN,if_pos hall])))
theorem GN {d:Int} (h:L.length<=1000):K1 Tryz.prog 11 (ko L d) (pI (eO L d)):=by
 intro M w0 v0 hM hv0
 refine sU (N:=18) Tryz.func11 rfl rfl rfl hM hv0 λa hI=>?_
 refine bJ hI 2 [⟨1,1,some 0,none,.ptr,31,2,true,pv _,[]⟩] [] [Uc 1 2 _] .z (.k .z) ⟨bo,mv,trivial⟩ (.k .z) (.dk .z) λa w hI=>?_
 refine az ?_
 refine bJ hI 4 [] [⟨some 0,4,1,0,True⟩] [Uc 1 5 _,Uc 2 6 _,Uc 3 3 _] (.k .z) (.k .z) ⟨fa,ld,sE EJ,mv,trivial⟩ (.k .z) (.w9 .z) λa w hI=>?_
 refine bJ hI 2 [] [] [Uc 0 7 _,Uc 1 8 _] (.k .z) (.kk .z) ⟨mv,bn,trivial⟩ (.k .z) (.nu .z) λa w hI=>?_
 refine kp hI (λt1=>?_) (λt1=>?_)
 ·
  refine bJ hI 2 [] [] [Uc 0 9 _,Uc 1 2 _] (.k .z) (.t 1 (.kk .z)) ⟨mv,mv,trivial⟩ (.k .z) (.dD (.k .z)) λa w hI=>?_
  refine aI ?_
  refine aF ?_
  exact cF hI rfl (fE (hq:=cJ (by unfold eO; rw[if_pos t1])))
 ·
  refine aG ?_
  refine af ?_
  refine az ?_
  refine bJ hI 8 [] [⟨some 0,10,1,1,True⟩,⟨some 4,14,1,1,_⟩] [Uc 1 11 _,Uc 2 12 _,Uc 3 13 _,Uc 5 15 _,Uc 6 16 _,Uc 7 17 _] (.k .z) (.dr .z) ⟨fa,ld,bn,mv,gd λh=>FT h,gd λh=>jC h,gd λh=>nh h,pk,trivial⟩ (.d .z) (.jE (.dD (.k .z))) λa w hI=>?_
  refine vB hI (λt2=>?_) (λt2=>?_)
  ·
   refine bg hI 1 [Uc 0 2 _] (.t 0 (.k .z)) ⟨mv,trivial⟩ (.n5 .z) λa w hI=>?_
   refine aI ?_
   refine aF ?_
   exact cF hI rfl (fE (hq:=cJ (by unfold eO; rw[if_neg t1,if_pos t2])))
  ·
   refine aG ?_
   refine af ?_
   refine bg hI 1 [Uc 0 2 _] (.t 0 (.k .z)) ⟨mv,trivial⟩ (.n5 .z) λa w hI=>?_
   refine aI ?_
   exact cF hI rfl (fE (hq:=cJ (by unfold eO; rw[if_neg t1,if_neg (by rw[t2]; exact Bool.false_ne_true)])))
theorem G3 (e g:Pt):(e.1-g.1)*(e.1-g.1)+(e.2-g.2)*(e.2-g.2)=IZ e g:=by
 unfold IZ
 rw[<-Int.neg_sub g.1 e.1,<-Int.neg_sub g.2 e.2,Int.neg_mul_neg,Int.neg_mul_neg]
theorem Nf {e g:Pt} (h:b9 16777216 e/\b9 16777216 g):K2 Tryz.prog 58 (dS e) (dS g) (pI (IZ e g)):=by
 intro M w0 v0 v1 hM hv0 ir
 obtain⟨⟨a1,a2,a3,a4⟩,b1,b2,b3,b4⟩:=h
 have m1:=fe 33554432 (p:=e.1-g.1) (q:=e.1-g.1) (by omega) (by omega) (by omega) (by omega)
 have m2:=fe 33554432 (p:=e.2-g.2) (q:=e.2-g.2) (by omega) (by omega) (by omega) (by omega)
 refine vF (N:=28) Tryz.func58 rfl rfl rfl hM hv0 ir λa hI=>?_
 refine bJ hI 3 [⟨2,2,some 0,none,.ptr,26,2,true,pv _,[]⟩,⟨3,3,some 1,none,.ptr,26,2,true,pv _,[]⟩] [] [Uc 2 4 _] .z (.kk .z) ⟨bo,bo,mv,trivial⟩ (.k (.k .z)) (.n5 .z) λa w hI=>?_
 refine bJ hI 24 [] [⟨some 0,5,2,0,True⟩,⟨some 2,7,3,0,True⟩,⟨some 5,10,2,0,True⟩,⟨some 7,12,3,0,True⟩,⟨some 11,16,2,1,True⟩,⟨some 13,18,3,1,True⟩,⟨some 16,21,2,1,True⟩,⟨some 18,23,3,1,True⟩] [Uc 1 6 _,Uc 3 8 _,Uc 4 9 _,Uc 6 11 _,Uc 8 13 _,Uc 9 14 _,Uc 10 15 _,Uc 12 17 _,Uc 14 19 _,Uc 15 20 _,Uc 17 22 _,Uc 19 24 _,Uc 20 25 _,Uc 21 26 _,Uc 22 27 _,Uc 23 4 _] (.k (.k .z)) (.t 23 .z) ⟨fa,ld,fa,ld,bn,fa,ld,fa,ld,bn,bn,fa,ld,fa,ld,bn,fa,ld,fa,ld,bn,bn,bn,mv,trivial⟩ (.d (.d .z)) (.d8 (.d8 (.k .z))) λa w hI=>?_
 refine aI ?_
 exact cF hI rfl (fE (hq:=cJ (G3 e g)))
theorem u9 {O:List Pt} {f:Int} (h:L.length<=1000/\O.length<=1000/\(∀q,q<L.length->b9 16777216 (av L q))/\(∀q,q<O.length->b9 16777216 (av O q)) /\ -4194304<=f/\f<=4194304):K3 Tryz.prog 27 (fT L) (fT O) (pI f) (pB (rY L O f)):=by
 intro M w0 v0 v1 v2 hM hv0 ir hv2
 have hL:=h.1
 have hO:=h.2.1
 have Mt:=h.2.2.1
 have BA:=h.2.2.2.1
 have hf:=h.2.2.2.2
 refine zJ (N:=92) Tryz.func27 rfl rfl rfl hM hv0 ir hv2 λa hI=>?_
 refine bg hI 1 [Uc 0 6 _] (.dr .z) ⟨mv,trivial⟩ (.au .z) λa w hI=>?_
 refine bJ hI 4 [⟨7,7,some 2,none,.ptr,61,3,true,pv _,[(3,pv _)]⟩] [] [Uc 0 13 _,Uc 1 14 _] .z (.au .z) ⟨mv,FF DX,tJ [.f],mQ,trivial⟩ (.s .o .z) (.nu (.dd .z)) λa w hI=>?_
 refine az ?_
 refine bJ hI 1 [] [] [Uc 0 8 _] (.k .z) (.dr .z) ⟨mv,trivial⟩ (.k .z) (.au .z) λa w hI=>?_
 refine aK ?_
 refine vK [Vz 7 7 61 3 true _] [Uz 0 _,Uz 1 _] (λ(k:Nat)=>[]) (λ(k:Nat)=>[Uz 8 (pI (k:Int))]) (λ(k:Nat)=>k<=O.length/\∀q,q<k->∀i,i<L.length->jZ O L f q i) (λ(k:Nat)=>O.length-k) (0) ⟨Nat.zero_le _,λ_ h=>absurd h (Nat.not_lt_zero _)⟩ hI ⟨vi,trivial⟩ ⟨gi,gi,gc,trivial⟩ ?_
 intro k a w hk hI
 refine az ?_
 refine bJ hI 4 [] [] [Uc 0 15 _,Uc 1 16 _,Uc 2 17 _,Uc 3 18 _] (.k .z) (.dr .z) ⟨mv,mv,ln,bn,trivial⟩ (.k .z) (.fc (.n5 .z)) λa w hI=>?_
 refine kp hI (λt1=>?_) (λt1=>?_)
 ·
  refine aG ?_
  refine af ?_
  refine az ?_
  refine aK ?_
  have hx:mJ O.length k<O.length:=Nat.mod_lt _ (by omega)
  obtain⟨a1,a2,a3,a4⟩:=BA k (by omega)
  obtain⟨b1,b2,b3,b4⟩:=BA _ hx
  have hsq:=I0 (BA k (by omega)) (BA _ hx)
  refine Fb hI [0,0,3,7,0,0,32,0,128,480,1008,2032,0,0,12303,32767] [⟨9,9,some 12,none,.ptr,26,2,true,pv _,[(14,pv _)]⟩,⟨10,10,some 13,none,.ptr,26,2,true,pv _,[(15,pv _)]⟩] [] [Uc 0 21 _,Uc 1 22 _,Uc 2 23 _,Uc 3 24 _,Uc 4 25 _,Uc 5 26 _,Uc 6 27 _,Uc 7 28 _,Uc 8 29 _,Uc 9 30 _,Uc 10 31 _,Uc 11 32 _] (.k .z) (.au .z) ⟨mv,mv,ix,ld,mv,mv,bn,mv,ln,R5,ix,ld,tJ [.i,.i],tJ [.i,.i],mQ,mQ,trivial⟩ (.k (.s .o (.s .o .z))) (.fc (.d8 (.dD .z))) λa w hI=>?_
  refine bJ hI 1 [] [] [Uc 0 11 _] (.k (.k (.k .z))) (.dr .z) ⟨mv,trivial⟩ (.k (.k (.k .z))) (.au .z) λa w hI=>?_
  refine aK ?_
  refine vK [Vz 7 7 61 3 true _,Vz 9 9 26 2 true _,Vz 10 10 26 2 true _] [Uz 0 _,Uz 1 _,Uz 8 _] (λ(i:Nat)=>[]) (λ(i:Nat)=>[Uz 11 (pI (i:Int))]) (λ(i:Nat)=>i<=L.length/\∀q,q<i->jZ O L f k q) (λ(i:Nat)=>L.length-i) (0) ⟨Nat.zero_le _,λ_ h=>absurd h (Nat.not_lt_zero _)⟩ hI ⟨vi,vi,vi,trivial⟩ ⟨gi,gi,gi,gc,trivial⟩ ?_
  intro i a w hi hI
  refine az ?_
  refine bJ hI 4 [] [] [Uc 0 33 _,Uc 1 34 _,Uc 2 35 _,Uc 3 36 _] (.k (.k (.k .z))) (.au .z) ⟨mv,mv,ln,bn,trivial⟩ (.k (.k (.k .z))) (.au (.eM .z)) λa w hI=>?_
  refine kp hI (λt2=>?_) (λt2=>?_)
  ·
   refine aG ?_
   refine af ?_
   refine az ?_
   refine aK ?_
   obtain⟨c1,c2,c3,c4⟩:=Mt i (by omega)
   have m1:=fe 33554432 (p:=(av O (mJ O.length k)).1-(av O k).1) (q:=(av L i).2-(av O k).2) (by omega) (by omega) (by omega) (by omega)
   have m2:=fe 33554432 (p:=(av O (mJ O.length k)).2-(av O k).2) (q:=(av L i).1-(av O k).1) (by omega) (by omega) (by omega) (by omega)
   refine Fb hI [0,1,0,4,15,0,0,96,224,480,0,1024,4064,8191,0,16384,0,65536,245760,0,0,1572864,3670016,7864320,0,16777216,66584576,134201344,268435455,536870911,0,2147483647] [⟨12,12,some 30,none,.ptr,61,3,true,pv _,[(31,pv _)]⟩] [⟨some 0,39,10,0,True⟩,⟨some 2,41,9,0,True⟩,⟨some 10,49,9,1,True⟩,⟨some 14,53,10,1,True⟩,⟨some 16,55,9,1,True⟩,⟨some 24,63,9,0,True⟩] [Uc 1 40 _,Uc 3 42 _,Uc 4 43 _,Uc 5 44 _,Uc 6 45 _,Uc 7 46 _,Uc 8 47 _,Uc 9 48 _,Uc 11 50 _,Uc 12 51 _,Uc 13 52 _,Uc 15 54 _,Uc 17 56 _,Uc 18 57 _,Uc 19 58 _,Uc 20 59 _,Uc 21 60 _,Uc 22 61 _,Uc 23 62 _,Uc 25 64 _,Uc 26 65 _,Uc 27 66 _,Uc 28 67 _,Uc 29 68 _] (.k (.k (.k .z))) (.au (.k .z)) ⟨fa,ld,fa,ld,bn,mv,mv,ix,fP 1 1 false,ld,fa,ld,bn,bn,fa,ld,fa,ld,bn,mv,mv,ix,fP 0 1 false,ld,fa,ld,bn,bn,bn,FF DX,tJ [.f],mQ,trivial⟩ (.k (.k (.k (.s .o .z)))) (.au (.d8 (.d8 (.d8 (.d .z))))) λa w hI=>?_
   refine Fb hI [0,0,0,0,12,28,63,127,255,511,511,2047,511,511,16383,511,511,131071,262143,524287,1048575,2097151,4194303] [] [] [Uc 0 69 _,Uc 1 70 _,Uc 2 71 _,Uc 3 72 _,Uc 4 73 _,Uc 5 74 _,Uc 6 75 _,Uc 7 76 _,Uc 8 77 _,Uc 9 78 _,Uc 10 79 _,Uc 11 80 _,Uc 12 81 _,Uc 13 82 _,Uc 14 83 _,Uc 15 84 _,Uc 16 85 _,Uc 17 86 _,Uc 18 87 _,Uc 19 88 _,Uc 20 89 _,Uc 21 90 _,Uc 22 91 _] (.k (.k (.k (.k .z)))) (.au .z) ⟨ld,ld,mv,mv,ix,ld,FE EK (hφ:=⟨BA _ (by omega),BA _ hx,Mt _ (by omega)⟩),bn,mv,gd λh=>jC h,gd λh=>jC h,gd λh=>FQ h DY,gd λh=>jC h,gd λh=>jC h,gd λh=>FQ h DY,gd λh=>jC h,gd λh=>jC h,gd λh=>JF h Nf (hφ:=⟨BA _ (by omega),BA _ hx⟩),gd λh=>JG h DX,gd λh=>FQ h DY,gd λh=>FQ h MV,gd λh=>nh h,pk,trivial⟩ (.k (.k (.k (.d .z)))) (.au (.d8 (.d8 (.dD (.n5 .z))))) λa w hI=>?_
   refine vB hI (λt3=>?_) (λt3=>?_)
   ·
    refine bJ hI 1 [] [] [Uc 0 6 _] (.k (.k (.k .z))) (.au (.k .z)) ⟨mv,trivial⟩ (.k (.k (.k .z))) (.au (.dk .z)) λa w hI=>?_
    refine aI ?_
    refine aQ ?_
    refine aF ?_
    refine aF ?_
    refine aQ ?_
    refine aQ ?_
    refine aF ?_
    refine aF ?_
    refine aQ ?_
    refine aF ?_
    exact cF hI rfl (fE (hq:=ew (by
        have hno:¬ ∀k,k<O.length->∀i,i<L.length->jZ O L f k i:=λhall=>by
         have h1:=hall k (by omega) i (by omega)
         have h2:=h1.2
         unfold FC at h2
         simp only[Bool.or_eq_true,decide_eq_true_eq]at t3 h2
         rcases t3 with t3|t3
         ·exact t3 (nQ.2 h1.1)
         ·exact absurd h2 (Int.not_le.2 t3)
        unfold rY; rw[decide_eq_false hno])))
   ·
    refine aG ?_
    refine bk ?_
    refine af ?_
    refine yc hI 3 [] [] [Uc 0 37 _,Uc 1 38 _,Uc 2 11 _] (.k (.k (.k .z))) (.dr (.t 2 (.k .z))) ⟨mv,bn,mv,trivial⟩ (.k (.k (.k .z))) (.fc (.eM .z)) λa w hI=>?_
    refine af ?_
    have hst:jZ O L f k i:=by
     simp only[Bool.or_eq_false_iff,decide_eq_false_iff_not,Decidable.not_not]at t3
     exact⟨nQ.1 t3.1,by unfold FC; exact decide_eq_true (Int.not_lt.1 t3.2)⟩
    exact vI (i+1) ⟨by omega,λq hq=>if e:q=i then by rw[e]; exact hst else hi.2 q (by omega)⟩ hI ⟨vc,vc,vc,trivial⟩ ⟨gc,gc,gc,gc,trivial⟩ (by omega)
  ·
   refine cI ?_
   refine aJ ?_
   refine aJ ?_
   refine bp ?_
   refine bk ?_
   refine af ?_
   refine yc hI 3 [] [] [Uc 0 19 _,Uc 1 20 _,Uc 2 8 _] (.k (.k (.k .z))) (.kk (.t 2 (.kk .z))) ⟨mv,bn,mv,trivial⟩ (.k (.d (.d .z))) (.e9 (.eM .z)) λa w hI=>?_
   refine af ?_
   exact vI (k+1) ⟨by omega,λq hq=>if e:q=k then by rw[e]; exactλj hj=>hi.2 j (by omega)else hk.2 q (by omega)⟩ hI ⟨vc,trivial⟩ ⟨gc,gc,gc,trivial⟩ (by omega)
 ·
  refine cI ?_
  refine aJ ?_
  refine aJ ?_
  refine bp ?_
  refine af ?_
  refine bJ hI 1 [] [] [Uc 0 6 _] (.k .z) (.au .z) ⟨mv,trivial⟩ (.d .z) (.dD (.k .z)) λa w hI=>?_
  refine aI ?_
  exact cF hI rfl (fE (hq:=ew (by unfold rY; rw[decide_eq_true λq hq=>hk.2 q (by omega)])))
end Wx
