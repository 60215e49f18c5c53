import Derived.Test.YtadigiledciihaaGreatJRA38
namespace Wx
set_option maxRecDepth 100000
set_option maxHeartbeats 1000000
open Go Go.RowKit Go.Proofs
set_option linter.unusedVariables false
attribute [local irreducible] OpOk
def fg (a b p:Pt):Int:=if aA a b p<0 then -1 else if aA a b p>0 then 1 else 0
variable {a b p:Pt}
theorem Af:fg a b p=1↔0<aA a b p:=by
 unfold fg
 by_cases h:aA a b p<0
 ·rw[if_pos h]; omega
 ·rw[if_neg h]
  by_cases h2:aA a b p>0
  ·rw[if_pos h2]; omega
  ·rw[if_neg h2]; omega
def OJ (p:Pt):Bool:=((decide (p.1 < -1048576)||decide (p.1>1048576))||decide (p.2 < -1048576))||decide (p.2>1048576)
theorem CB (p:Pt):OJ p=wH p:=by
 unfold OJ wH DS
 rw[Bool.or_assoc]
theorem tP {c:Pt} (h:bu 16777216 a/\bu 16777216 b/\bu 16777216 c):K3 Tryz.prog 57 (dB a) (dB b) (dB c) (pI (fg a b c)):=by
 intro M w0 v0 v1 v2 hM hv0 fW hv2
 obtain⟨⟨a1,a2,a3,a4⟩,⟨b1,b2,b3,b4⟩,c1,c2,c3,c4⟩:=h
 have m1:=dL 33554432 (p:=b.1-a.1) (q:=c.2-a.2) (by omega) (by omega) (by omega) (by omega)
 have m2:=dL 33554432 (p:=b.2-a.2) (q:=c.1-a.1) (by omega) (by omega) (by omega) (by omega)
 refine xP (N:=35) Tryz.func57 rfl rfl rfl hM hv0 fW hv2 λa hI=>?_
 refine bB hI 4 [⟨3,3,some 0,none,.ptr,26,2,true,pv _,[]⟩,⟨4,4,some 1,none,.ptr,26,2,true,pv _,[]⟩,⟨5,5,some 2,none,.ptr,26,2,true,pv _,[]⟩] [] [Uc 3 6 _] .z (.cQ .z) ⟨bo,bo,bo,mv,trivial⟩ (.k (.k (.k .z))) (.eY .z) λa w hI=>?_
 refine bB hI 24 [] [⟨some 0,8,4,0,True⟩,⟨some 2,10,3,0,True⟩,⟨some 5,13,5,1,True⟩,⟨some 7,15,3,1,True⟩,⟨some 11,19,4,1,True⟩,⟨some 13,21,3,1,True⟩,⟨some 16,24,5,0,True⟩,⟨some 18,26,3,0,True⟩] [Uc 1 9 _,Uc 3 11 _,Uc 4 12 _,Uc 6 14 _,Uc 8 16 _,Uc 9 17 _,Uc 10 18 _,Uc 12 20 _,Uc 14 22 _,Uc 15 23 _,Uc 17 25 _,Uc 19 27 _,Uc 20 28 _,Uc 21 29 _,Uc 22 30 _,Uc 23 7 _] (.k (.k (.k .z))) (.k .z) ⟨fa,ld,fa,ld,bn,fa,ld,fa,ld,bn,bn,fa,ld,fa,ld,bn,fa,ld,fa,ld,bn,bn,bn,mv,trivial⟩ (.d (.d (.d .z))) (.fZ (.d8 (.bX (.k .z)))) λa w hI=>?_
 refine aq ?_
 refine aZ hI 2 [Uc 0 31 _,Uc 1 32 _] (.kk .z) ⟨mv,bn,trivial⟩ (.nM .z) λa w hI=>?_
 refine jK hI (λt1=>?_) (λt1=>?_)
 ·
  refine aZ hI 1 [Uc 0 6 _] (.t 0 (.kk .z)) ⟨mv,trivial⟩ (.Rw .z) λa w hI=>?_
  refine aF ?_
  refine aB ?_
  exact bL hI rfl (fh (hq:=dr (by unfold fg aA; rw[if_pos t1])))
 ·
  refine aG ?_
  refine af ?_
  refine aq ?_
  refine aZ hI 2 [Uc 0 33 _,Uc 1 34 _] (.cQ .z) ⟨mv,bn,trivial⟩ (.fZ (.k .z)) λa w hI=>?_
  refine jK hI (λt2=>?_) (λt2=>?_)
  ·
   refine aZ hI 1 [Uc 0 6 _] (.t 0 (.k .z)) ⟨mv,trivial⟩ (.nk .z) λa w hI=>?_
   refine aF ?_
   refine aB ?_
   exact bL hI rfl (fh (hq:=dr (by unfold fg aA; rw[if_neg t1,if_pos t2])))
  ·
   refine aG ?_
   refine af ?_
   refine aZ hI 1 [Uc 0 6 _] (.t 0 (.k .z)) ⟨mv,trivial⟩ (.nk .z) λa w hI=>?_
   refine aF ?_
   exact bL hI rfl (fh (hq:=dr (by unfold fg aA; rw[if_neg t1,if_neg t2])))
variable {L:List Pt}
theorem Nx (h:L.length<=1000):K1 Tryz.prog 26 (gw L) (pI (eM L)):=by
 intro M w0 v0 hM hv0
 refine uc (N:=92) Tryz.func26 rfl rfl rfl hM hv0 λa hI=>?_
 refine aZ hI 1 [Uc 0 2 _] (.k .z) ⟨mv,trivial⟩ (.kk .z) λa w hI=>?_
 refine aq ?_
 refine aZ hI 8 [Uc 0 7 _,Uc 1 8 _,Uc 2 9 _,Uc 3 10 _,Uc 4 11 _,Uc 5 12 _,Uc 6 13 _,Uc 7 14 _] (.kk .z) ⟨mv,ln,bn,mv,gd λh=>fQ h,gd λh=>RK h,gd λh=>lB h,pk,trivial⟩ (.eu (.bX (.dk .z))) λa w hI=>?_
 refine tY hI (λt1=>?_) (λt1=>?_)
 ·
  refine aZ hI 1 [Uc 0 2 _] (.k (.t 0 (.k .z))) ⟨mv,trivial⟩ (.uy .z) λa w hI=>?_
  refine aF ?_
  refine aB ?_
  exact bL hI rfl (fh (hq:=dr (by unfold eM oK; rw[if_pos t1])))
 ·
  refine aG ?_
  refine af ?_
  refine aq ?_
  refine aZ hI 1 [Uc 0 3 _] (.cQ .z) ⟨mv,trivial⟩ (.nM .z) λa w hI=>?_
  refine aK ?_
  refine xN [] [Uz 0 _] (λ(m:Nat)=>[]) (λ(m:Nat)=>[Uz 3 (pI (m:Int))]) (λ(m:Nat)=>m<=L.length/\∀q,q<m->wH (aj L q)=false) (λ(m:Nat)=>L.length-m) (0) ⟨Nat.zero_le _,λ_ h=>absurd h (Nat.not_lt_zero _)⟩ hI trivial ⟨gi,gc,trivial⟩ ?_
  intro m a w hm hI
  refine aq ?_
  refine aZ hI 4 [Uc 0 15 _,Uc 1 16 _,Uc 2 17 _,Uc 3 18 _] (.kk .z) ⟨mv,mv,ln,bn,trivial⟩ (.eu (.dk .z)) λa w hI=>?_
  refine jK hI (λt2=>?_) (λt2=>?_)
  ·
   refine aG ?_
   refine af ?_
   refine aq ?_
   refine aK ?_
   refine aZ hI 30 [Uc 0 21 _,Uc 1 22 _,Uc 2 23 _,Uc 3 24 _,Uc 4 25 _,Uc 5 26 _,Uc 6 27 _,Uc 7 28 _,Uc 8 29 _,Uc 9 30 _,Uc 10 31 _,Uc 11 32 _,Uc 12 33 _,Uc 13 34 _,Uc 14 35 _,Uc 15 36 _,Uc 16 37 _,Uc 17 38 _,Uc 18 39 _,Uc 19 40 _,Uc 20 41 _,Uc 21 42 _,Uc 22 43 _,Uc 23 44 _,Uc 24 45 _,Uc 25 46 _,Uc 26 47 _,Uc 27 48 _,Uc 28 49 _,Uc 29 50 _] (.cQ .z) ⟨mv,mv,ix,fP 0 1 false,ld,bn,mv,gd λh=>fQ h,gd λh=>fQ h,gd λh=>yQ h,gd λh=>Fo h 0 1 false,gd λh=>dw h,gd λh=>lB h,pk,mv,gd λh=>fQ h,gd λh=>fQ h,gd λh=>yQ h,gd λh=>Fo h 1 1 false,gd λh=>dw h,gd λh=>lB h,pk,mv,gd λh=>fQ h,gd λh=>fQ h,gd λh=>yQ h,gd λh=>Fo h 1 1 false,gd λh=>dw h,gd λh=>lB h,pk,trivial⟩ (.eu (.d8 (.d8 (.d8 (.bX (.k .z)))))) λa w hI=>?_
   refine tY hI (λt3=>?_) (λt3=>?_)
   ·
    refine aZ hI 1 [Uc 0 2 _] (.cQ .z) ⟨mv,trivial⟩ (.nM .z) λa w hI=>?_
    refine aF ?_
    refine aN ?_
    refine aB ?_
    refine aB ?_
    refine aN ?_
    refine aB ?_
    exact bL hI rfl (fh (hq:=dr (by
     have e:sC L=(m:Int):=wY (by rw[<-CB]; exact t3) hm.2 (by omega)
     unfold eM oK; rw[if_neg (by rw[t1]; exact Bool.false_ne_true),if_pos (by omega)])))
   ·
    refine aG ?_
    refine bf ?_
    refine af ?_
    refine qR hI 3 [Uc 0 19 _,Uc 1 20 _,Uc 2 3 _] (.k (.t 2 (.k .z))) ⟨mv,bn,mv,trivial⟩ (.fZ (.dk .z)) λa w hI=>?_
    refine af ?_
    exact wZ (m+1) ⟨by omega,λq hq=>if e:q=m then by rw[e,<-CB]; exact t3 else hm.2 q (by omega)⟩ hI trivial ⟨gc,gc,trivial⟩ (by omega)
  ·
   refine cL ?_
   refine aM ?_
   refine aM ?_
   refine bp ?_
   refine af ?_
   refine aq ?_
   have Bb:¬sC L>=0:=by
    have e:sC L = -1:=mg λq hq=>hm.2 q (by omega)
    omega
   have hn:∀q,q<L.length->bu 16777216 (aj L q):=λq hq=>mQ (jS Bb q hq)
   refine aZ hI 1 [Uc 0 4 _] (.cQ .z) ⟨mv,trivial⟩ (.uy .z) λa w hI=>?_
   refine aK ?_
   refine xN [] [Uz 0 _] (λ(k:Nat)=>[]) (λ(k:Nat)=>[Uz 4 (pI (k:Int))]) (λ(k:Nat)=>k<=L.length/\∀q,q<k->jz L q) (λ(k:Nat)=>L.length-k) (0) ⟨Nat.zero_le _,λ_ h=>absurd h (Nat.not_lt_zero _)⟩ hI trivial ⟨gi,gc,trivial⟩ ?_
   intro k a w hk hI
   refine aq ?_
   refine aZ hI 4 [Uc 0 51 _,Uc 1 52 _,Uc 2 53 _,Uc 3 54 _] (.kk .z) ⟨mv,mv,ln,bn,trivial⟩ (.eu (.dk .z)) λa w hI=>?_
   refine jK hI (λt4=>?_) (λt4=>?_)
   ·
    refine aG ?_
    refine af ?_
    refine aq ?_
    refine aK ?_
    have hx:gp L.length k<L.length:=Nat.mod_lt _ (by omega)
    refine aZ hI 6 [Uc 0 57 _,Uc 1 58 _,Uc 2 59 _,Uc 3 60 _,Uc 4 61 _,Uc 5 5 _] (.cQ .z) ⟨mv,bn,mv,ln,QM,mv,trivial⟩ (.eu (.bX (.k .z))) λa w hI=>?_
    refine aZ hI 1 [Uc 0 6 _] (.cQ .z) ⟨mv,trivial⟩ (.au .z) λa w hI=>?_
    refine aK ?_
    refine xN [] [Uz 0 _,Uz 4 _,Uz 5 _] (λ(i:Nat)=>[]) (λ(i:Nat)=>[Uz 6 (pI (i:Int))]) (λ(i:Nat)=>i<=L.length/\∀q,q<i->q≠k->q≠gp L.length k->0<aA (aj L k) (aj L (gp L.length k)) (aj L q)) (λ(i:Nat)=>L.length-i) (0) ⟨Nat.zero_le _,λ_ h=>absurd h (Nat.not_lt_zero _)⟩ hI trivial ⟨gi,gi,gi,gc,trivial⟩ ?_
    intro i a w hi hI
    refine aq ?_
    refine aZ hI 4 [Uc 0 62 _,Uc 1 63 _,Uc 2 64 _,Uc 3 65 _] (.au .z) ⟨mv,mv,ln,bn,trivial⟩ (.au (.eY .z)) λa w hI=>?_
    refine jK hI (λt5=>?_) (λt5=>?_)
    ·
     refine aG ?_
     refine af ?_
     refine aq ?_
     refine aK ?_
     refine Qm hI [0,0,3,7,15,15,63,127,255,511,511,2047,4095,511,511,25087,57855,511,511,393727,918015,2097151,4194303,8388607] [Uc 0 68 _,Uc 1 69 _,Uc 2 70 _,Uc 3 71 _,Uc 4 72 _,Uc 5 73 _,Uc 6 74 _,Uc 7 75 _,Uc 8 76 _,Uc 9 77 _,Uc 10 78 _,Uc 11 79 _,Uc 12 80 _,Uc 13 81 _,Uc 14 82 _,Uc 15 83 _,Uc 16 84 _,Uc 17 85 _,Uc 18 86 _,Uc 19 87 _,Uc 20 88 _,Uc 21 89 _,Uc 22 90 _,Uc 23 91 _] (.au (.k .z)) ⟨mv,mv,bn,mv,gd λh=>fQ h,gd λh=>fQ h,gd λh=>lB h,pk,mv,gd λh=>fQ h,gd λh=>fQ h,gd λh=>yQ h,gd λh=>dw h,gd λh=>fQ h,gd λh=>fQ h,gd λh=>yQ h,gd λh=>dw h,gd λh=>fQ h,gd λh=>fQ h,gd λh=>yQ h,gd λh=>dw h,gd λh=>oA h tP (hφ:=⟨hn _ (by omega),hn _ hx,hn _ (by omega)⟩),gd λh=>lB h,pk,trivial⟩ (.au (.d8 (.d8 (.d8 (.k .z))))) λa w hI=>?_
     refine tY hI (λt6=>?_) (λt6=>?_)
     ·
      refine aZ hI 1 [Uc 0 2 _] (.au (.k .z)) ⟨mv,trivial⟩ (.au (.dk .z)) λa w hI=>?_
      refine aF ?_
      refine aN ?_
      refine aB ?_
      refine aB ?_
      refine aN ?_
      refine aN ?_
      refine aB ?_
      refine aB ?_
      refine aN ?_
      refine aB ?_
      exact bL hI rfl (fh (hq:=dr (by
        have hno:¬ ∀k,k<L.length->jz L k:=λhall=>by
         have h1:=hall k (by omega) i (by omega)
         simp only[Bool.and_eq_true,decide_eq_true_eq]at t6
         exact t6.2 (Af.2 (h1 (by omega) (by omega)))
        unfold eM oK; rw[if_neg (by rw[t1]; exact Bool.false_ne_true),if_neg Bb,if_neg hno])))
     ·
      refine aG ?_
      refine bf ?_
      refine af ?_
      refine qR hI 3 [Uc 0 66 _,Uc 1 67 _,Uc 2 6 _] (.cQ (.t 2 (.k .z))) ⟨mv,bn,mv,trivial⟩ (.eG (.eY .z)) λa w hI=>?_
      refine af ?_
      have hst:i≠k->i≠gp L.length k->0<aA (aj L k) (aj L (gp L.length k)) (aj L i):=λh1 h2=>by
       simp only[Bool.and_eq_false_iff,decide_eq_false_iff_not,Decidable.not_not]at t6
       refine Af.1 ?_
       omega
      exact wZ (i+1) ⟨by omega,λq hq h1 h2=>if e:q=i then by rw[e]at h1 h2 ⊢; exact hst h1 h2 else hi.2 q (by omega) h1 h2⟩ hI trivial ⟨gc,gc,gc,gc,trivial⟩ (by omega)
    ·
     refine cL ?_
     refine aM ?_
     refine aM ?_
     refine bp ?_
     refine bf ?_
     refine af ?_
     have Bb:¬sC L>=0:=by
      have e:sC L = -1:=mg λq hq=>hm.2 q (by omega)
      omega
     have hn:∀q,q<L.length->bu 16777216 (aj L q):=λq hq=>mQ (jS Bb q hq)
     refine qR hI 3 [Uc 0 55 _,Uc 1 56 _,Uc 2 4 _] (.k (.t 2 (.cQ .z))) ⟨mv,bn,mv,trivial⟩ (.fZ (.eY .z)) λa w hI=>?_
     refine af ?_
     exact wZ (k+1) ⟨by omega,λq hq=>if e:q=k then by rw[e]; exactλj hj=>hi.2 j (by omega)else hk.2 q (by omega)⟩ hI trivial ⟨gc,gc,trivial⟩ (by omega)
   ·
    refine cL ?_
    refine aM ?_
    refine aM ?_
    refine bp ?_
    refine af ?_
    refine aZ hI 1 [Uc 0 2 _] (.cQ .z) ⟨mv,trivial⟩ (.eY .z) λa w hI=>?_
    refine aF ?_
    exact bL hI rfl (fh (hq:=dr (by
     have hall:∀k,k<L.length->jz L k:=λq hq=>hk.2 q (by omega)
     unfold eM oK; rw[if_neg (by rw[t1]; exact Bool.false_ne_true),if_neg Bb,if_pos hall])))
theorem Dg {d:Int} (h:L.length<=1000):K1 Tryz.prog 11 (ko L d) (pI (ct L d)):=by
 intro M w0 v0 hM hv0
 refine uc (N:=18) Tryz.func11 rfl rfl rfl hM hv0 λa hI=>?_
 refine bB hI 2 [⟨1,1,some 0,none,.ptr,31,2,true,pv _,[]⟩] [] [Uc 1 2 _] .z (.k .z) ⟨bo,mv,trivial⟩ (.k .z) (.dk .z) λa w hI=>?_
 refine aq ?_
 refine bB hI 4 [] [⟨some 0,4,1,0,True⟩] [Uc 1 5 _,Uc 2 6 _,Uc 3 3 _] (.k .z) (.k .z) ⟨fa,ld,um Nx,mv,trivial⟩ (.k .z) (.uy .z) λa w hI=>?_
 refine bB hI 2 [] [] [Uc 0 7 _,Uc 1 8 _] (.k .z) (.kk .z) ⟨mv,bn,trivial⟩ (.k .z) (.nM .z) λa w hI=>?_
 refine jK hI (λt1=>?_) (λt1=>?_)
 ·
  refine bB hI 2 [] [] [Uc 0 9 _,Uc 1 2 _] (.k .z) (.t 1 (.kk .z)) ⟨mv,mv,trivial⟩ (.k .z) (.bX (.k .z)) λa w hI=>?_
  refine aF ?_
  refine aB ?_
  exact bL hI rfl (fh (hq:=dr (by unfold ct; rw[if_pos t1])))
 ·
  refine aG ?_
  refine af ?_
  refine aq ?_
  refine bB hI 8 [] [⟨some 0,10,1,1,True⟩,⟨some 4,14,1,1,_⟩] [Uc 1 11 _,Uc 2 12 _,Uc 3 13 _,Uc 5 15 _,Uc 6 16 _,Uc 7 17 _] (.k .z) (.cQ .z) ⟨fa,ld,bn,mv,gd λh=>uu h,gd λh=>dw h,gd λh=>lB h,pk,trivial⟩ (.d .z) (.fZ (.bX (.k .z))) λa w hI=>?_
  refine tY hI (λt2=>?_) (λt2=>?_)
  ·
   refine aZ hI 1 [Uc 0 2 _] (.t 0 (.k .z)) ⟨mv,trivial⟩ (.nk .z) λa w hI=>?_
   refine aF ?_
   refine aB ?_
   exact bL hI rfl (fh (hq:=dr (by unfold ct; rw[if_neg t1,if_pos t2])))
  ·
   refine aG ?_
   refine af ?_
   refine aZ hI 1 [Uc 0 2 _] (.t 0 (.k .z)) ⟨mv,trivial⟩ (.nk .z) λa w hI=>?_
   refine aF ?_
   exact bL hI rfl (fh (hq:=dr (by unfold ct; rw[if_neg t1,if_neg (by rw[t2]; exact Bool.false_ne_true)])))
theorem Kk (e g:Pt):(e.1-g.1)*(e.1-g.1)+(e.2-g.2)*(e.2-g.2)=eP e g:=by
 unfold eP
 rw[<-Int.neg_sub g.1 e.1,<-Int.neg_sub g.2 e.2,Int.neg_mul_neg,Int.neg_mul_neg]
theorem Dh {e g:Pt} (h:bu 16777216 e/\bu 16777216 g):K2 Tryz.prog 58 (dB e) (dB g) (pI (eP e g)):=by
 intro M w0 v0 v1 hM hv0 fW
 obtain⟨⟨a1,a2,a3,a4⟩,b1,b2,b3,b4⟩:=h
 have m1:=dL 33554432 (p:=e.1-g.1) (q:=e.1-g.1) (by omega) (by omega) (by omega) (by omega)
 have m2:=dL 33554432 (p:=e.2-g.2) (q:=e.2-g.2) (by omega) (by omega) (by omega) (by omega)
 refine ud (N:=28) Tryz.func58 rfl rfl rfl hM hv0 fW λa hI=>?_
 refine bB hI 3 [⟨2,2,some 0,none,.ptr,26,2,true,pv _,[]⟩,⟨3,3,some 1,none,.ptr,26,2,true,pv _,[]⟩] [] [Uc 2 4 _] .z (.kk .z) ⟨bo,bo,mv,trivial⟩ (.k (.k .z)) (.nk .z) λa w hI=>?_
 refine bB hI 24 [] [⟨some 0,5,2,0,True⟩,⟨some 2,7,3,0,True⟩,⟨some 5,10,2,0,True⟩,⟨some 7,12,3,0,True⟩,⟨some 11,16,2,1,True⟩,⟨some 13,18,3,1,True⟩,⟨some 16,21,2,1,True⟩,⟨some 18,23,3,1,True⟩] [Uc 1 6 _,Uc 3 8 _,Uc 4 9 _,Uc 6 11 _,Uc 8 13 _,Uc 9 14 _,Uc 10 15 _,Uc 12 17 _,Uc 14 19 _,Uc 15 20 _,Uc 17 22 _,Uc 19 24 _,Uc 20 25 _,Uc 21 26 _,Uc 22 27 _,Uc 23 4 _] (.k (.k .z)) (.t 23 .z) ⟨fa,ld,fa,ld,bn,fa,ld,fa,ld,bn,bn,fa,ld,fa,ld,bn,fa,ld,fa,ld,bn,bn,bn,mv,trivial⟩ (.d (.d .z)) (.d8 (.d8 (.k .z))) λa w hI=>?_
 refine aF ?_
 exact bL hI rfl (fh (hq:=dr (Kk e g)))
abbrev Jx (L:List Pt) (x y:Rat) (k:Nat):Prop:=¬gJ ((((aj L (gp L.length k)).1-(aj L k).1:Int):Rat)*(y-(((aj L k).2:Int):Rat))) ((((aj L (gp L.length k)).2-(aj L k).2:Int):Rat)*(x-(((aj L k).1:Int):Rat)))<0
def hasB (L:List Pt) (x y:Rat):Bool:=decide (∀k,k<L.length->Jx L x y k)
theorem Qh {x y:Rat} {j k:Nat} (h:L.length<=1000/\(∀q,q<L.length->bu 16777216 (aj L q))/\j<=1000/\k<=1000):K3 Tryz.prog 33 (gw L) (pN j x) (pN k y) (pB (hasB L x y)):=by
 intro M w0 v0 v1 v2 hM hv0 fW hv2
 have hn:=h.2.1
 have hL:=h.1
 have sJ:=h.2.2
 clear h
 refine xP (N:=58) Tryz.func33 rfl rfl rfl hM hv0 fW hv2 λa hI=>?_
 refine bB hI 3 [⟨4,4,some 0,none,.ptr,61,3,true,pv _,[]⟩,⟨5,5,some 1,none,.ptr,61,3,true,pv _,[]⟩] [] [Uc 2 6 _] .z (.cQ .z) ⟨bo,bo,mv,trivial⟩ (.k (.k .z)) (.uy .z) λa w hI=>?_
 refine aq ?_
 refine bB hI 1 [] [] [Uc 0 7 _] (.k (.k .z)) (.kk .z) ⟨mv,trivial⟩ (.k (.k .z)) (.cQ .z) λa w hI=>?_
 refine aK ?_
 refine xN [Vz 4 4 61 3 true _,Vz 5 5 61 3 true _] [Uz 0 _] (λ(m:Nat)=>[]) (λ(m:Nat)=>[Uz 7 (pI (m:Int))]) (λ(m:Nat)=>m<=L.length/\∀q,q<m->Jx L x y q) (λ(m:Nat)=>L.length-m) (0) ⟨Nat.zero_le _,λ_ h=>absurd h (Nat.not_lt_zero _)⟩ hI ⟨vi,vi,trivial⟩ ⟨gi,gc,trivial⟩ ?_
 intro m a w hm hI
 refine aq ?_
 refine bB hI 4 [] [] [Uc 0 12 _,Uc 1 13 _,Uc 2 14 _,Uc 3 15 _] (.k (.k .z)) (.kk .z) ⟨mv,mv,ln,bn,trivial⟩ (.k (.k .z)) (.eu (.dk .z)) λa w hI=>?_
 refine jK hI (λt1=>?_) (λt1=>?_)
 ·
  refine aG ?_
  refine af ?_
  refine aq ?_
  refine aK ?_
  have hx:gp L.length m<L.length:=Nat.mod_lt _ (by omega)
  obtain⟨a1,a2,a3,a4⟩:=hn m (by omega)
  obtain⟨b1,b2,b3,b4⟩:=hn _ hx
  refine xV hI [0,0,3,7,0,0,32,0,128,480,1008,2032,0,0,12303,32767] [⟨8,8,some 12,none,.ptr,26,2,true,pv _,[(14,pv _)]⟩,⟨9,9,some 13,none,.ptr,26,2,true,pv _,[(15,pv _)]⟩] [] [Uc 0 18 _,Uc 1 19 _,Uc 2 20 _,Uc 3 21 _,Uc 4 22 _,Uc 5 23 _,Uc 6 24 _,Uc 7 25 _,Uc 8 26 _,Uc 9 27 _,Uc 10 28 _,Uc 11 29 _] (.k (.k .z)) (.cQ .z) ⟨mv,mv,ix,ld,mv,mv,bn,mv,ln,QM,ix,ld,oM [.i,.i],oM [.i,.i],ju,ju,trivial⟩ (.k (.k (.s .o (.s .o .z)))) (.eu (.d8 (.Jf .z))) λa w hI=>?_
  refine xV hI [0,1,0,4,15,31,0,0,128,447,1023,2047,0,8191] [⟨10,10,some 12,none,.ptr,61,3,true,pv _,[(13,pv _)]⟩] [⟨some 0,30,9,0,True⟩,⟨some 2,32,8,0,True⟩,⟨some 7,37,8,1,True⟩] [Uc 1 31 _,Uc 3 33 _,Uc 4 34 _,Uc 5 35 _,Uc 6 36 _,Uc 8 38 _,Uc 9 39 _,Uc 10 40 _,Uc 11 41 _] (.k (.k (.k (.k .z)))) (.kk .z) ⟨fa,ld,fa,ld,bn,uP lp,ld,fa,ld,uP lp,xS Le,xS CQ,oM [.f],ju,trivial⟩ (.k (.k (.k (.k (.s .o .z))))) (.eu (.bX (.Jf .z))) λa w hI=>?_
  refine xV hI [0,1,0,4,15,31,0,0,128,447,1023,2047,0,8191] [⟨11,11,some 12,none,.ptr,61,3,true,pv _,[(13,pv _)]⟩] [⟨some 0,42,9,1,True⟩,⟨some 2,44,8,1,True⟩,⟨some 7,49,8,0,True⟩] [Uc 1 43 _,Uc 3 45 _,Uc 4 46 _,Uc 5 47 _,Uc 6 48 _,Uc 8 50 _,Uc 9 51 _,Uc 10 52 _,Uc 11 53 _] (.k (.k (.k (.k (.k .z))))) (.kk .z) ⟨fa,ld,fa,ld,bn,uP lp,ld,fa,ld,uP lp,xS Le,xS CQ,oM [.f],ju,trivial⟩ (.k (.k (.d (.d (.k (.s .o .z)))))) (.eu (.bX (.Jf .z))) λa w hI=>?_
  refine bB hI 4 [] [] [Uc 0 54 _,Uc 1 55 _,Uc 2 56 _,Uc 3 57 _] (.k (.k (.k (.k .z)))) (.kk .z) ⟨ld,ld,xS GO,bn,trivial⟩ (.k (.k (.d (.d .z)))) (.eu (.dk .z)) λa w hI=>?_
  refine jK hI (λt2=>?_) (λt2=>?_)
  ·
   refine bB hI 1 [] [] [Uc 0 6 _] (.k (.k .z)) (.cQ .z) ⟨mv,trivial⟩ (.k (.k .z)) (.nM .z) λa w hI=>?_
   refine aF ?_
   refine aN ?_
   refine aB ?_
   refine aB ?_
   refine aN ?_
   refine aB ?_
   exact bL hI rfl (fh (hq:=cT (by unfold hasB; rw[decide_eq_false λhall=>hall m (by omega) t2])))
  ·
   refine aG ?_
   refine bf ?_
   refine af ?_
   refine Ao hI 3 [] [] [Uc 0 16 _,Uc 1 17 _,Uc 2 7 _] (.k (.k .z)) (.k (.t 2 (.k .z))) ⟨mv,bn,mv,trivial⟩ (.k (.k .z)) (.fZ (.dk .z)) λa w hI=>?_
   refine af ?_
   exact wZ (m+1) ⟨by omega,λq hq=>if e:q=m then by rw[e]; exact t2 else hm.2 q (by omega)⟩ hI ⟨vc,vc,trivial⟩ ⟨gc,gc,trivial⟩ (by omega)
 ·
  refine cL ?_
  refine aM ?_
  refine aM ?_
  refine bp ?_
  refine af ?_
  refine bB hI 1 [] [] [Uc 0 6 _] (.k (.k .z)) (.cQ .z) ⟨mv,trivial⟩ (.d (.d .z)) (.eY .z) λa w hI=>?_
  refine aF ?_
  exact bL hI rfl (fh (hq:=cT (by unfold hasB; rw[decide_eq_true λq hq=>hm.2 q (by omega)])))
theorem Ab (h:L.length<=1000/\(∀q,q<L.length->bu 16777216 (aj L q))/\bu 4611686018427387904 p):K2 Tryz.prog 14 (gw L) (dB p) (pB (hasB L (p.1:Rat) (p.2:Rat))):=by
 intro M w0 v0 v1 hM hv0 fW
 have hp:=h.2.2
 unfold bu at hp
 refine ud (N:=13) Tryz.func14 rfl rfl rfl hM hv0 fW λa hI=>?_
 refine bB hI 2 [⟨3,3,some 0,none,.ptr,26,2,true,pv _,[]⟩] [] [Uc 1 4 _] .z (.kk .z) ⟨bo,mv,trivial⟩ (.k .z) (.UH .z) λa w hI=>?_
 refine xV hI [0,0,2,6,0,16,62,127,255] [] [⟨some 1,6,3,0,True⟩,⟨some 4,9,3,1,True⟩] [Uc 0 5 _,Uc 2 7 _,Uc 3 8 _,Uc 5 10 _,Uc 6 11 _,Uc 7 12 _,Uc 8 4 _] (.k .z) (.k (.t 8 .z)) ⟨mv,fa,ld,uP lp,fa,ld,uP lp,AL Qh (hφ:=⟨h.1,h.2.1,by decide,by decide⟩),mv,trivial⟩ (.d .z) (.d8 (.k .z)) λa w hI=>?_
 refine aF ?_
 exact bL hI rfl fh
end Wx
