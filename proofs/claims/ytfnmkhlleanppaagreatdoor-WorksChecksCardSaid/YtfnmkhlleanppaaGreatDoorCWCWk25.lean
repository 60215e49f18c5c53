import Derived.Test.YtfnmkhlleanppaaGreatDoorCWCWk23
import Derived.Test.YtfnmkhlleanppaaGreatDoorJWC40
namespace Wx
set_option maxRecDepth 100000
open Go Go.RowKit Go.Proofs
set_option linter.unusedVariables false
attribute [local irreducible] OpOk
theorem ud {s:ByteArray} (h:s.size<=1000000) {k:Nat} (hk:k<(cV s).length):((cV s).getD k ⟨#[]⟩).size<=1000000:=by
 cases hl:bt s
 ·rw[iW hl]at hk; exact absurd hk (Nat.not_lt_zero _)
 ·rw[dR hl]at hk ⊢
  exact Nat.le_trans (gX (iH hk)) h
variable {t:ByteArray}
theorem E9 (h:(!okF t||decide ((aL t:Int)<3))=true):¬(okF t=true/\3<=aL t):=by
 rintro⟨h1,h2⟩
 rw[h1,decide_eq_false (by omega)]at h
 cases h
theorem BR (h:(!okF t||decide ((aL t:Int)<3))=false):okF t=true/\3<=aL t:=by
 simp only[Bool.or_eq_false_iff,Bool.not_eq_false',decide_eq_false_iff_not]at h
 exact⟨h.1,by omega⟩
theorem uI (t:ByteArray) (q:Nat):qB t (q+1)=qd (cZ t (q+1)):=if_neg (Nat.succ_ne_zero q)
theorem E2 (s:ByteArray):0<=qd s:=by
 unfold qd
 cases h:C9 s
 ·exact Int.le_refl _
 ·have hn:=(of_decide_eq_true h).2.1
  rw[if_pos rfl,uK hn]
  have k:=of_decide_eq_true (jT▸hn)
  exact(qg (Nat.le_refl _) λj hj=>k.2.2 j hj).1
theorem E1 (t:ByteArray) (q:Nat):0<=qB t q:=by
 unfold qB
 split
 ·exact Int.le_refl _
 ·exact E2 _
variable {w:ByteArray} {a z:Int}
theorem HR (h:((!bJ w||decide (Au w<=a))||decide (z>200))=true):¬(bJ w=true/\a<dW w/\z<=200):=by
 rintro⟨h1,h2,h3⟩
 unfold Au at h
 rw[h1,if_pos rfl,decide_eq_false (by omega),decide_eq_false (by omega)]at h
 cases h
theorem E6 (h:((!bJ w||decide (Au w<=a))||decide (z>200))=false):bJ w=true/\a<dW w/\z<=200/\Au w=dW w:=by
 simp only[Bool.or_eq_false_iff,Bool.not_eq_false',decide_eq_false_iff_not]at h
 have e:Au w=dW w:=if_pos h.1.1
 exact⟨h.1.1,by omega,by omega,e⟩
variable {n:Nat} {r:ByteArray}
theorem HJ (h:(decide ((n:Int)≠12)||decide (r≠lM))=true):¬(n=12/\r=lM):=by
 rintro⟨h1,h2⟩
 rw[decide_eq_false (by omega),decide_eq_false (λk=>k h2)]at h
 cases h
theorem ES (h:(decide ((n:Int)≠12)||decide (r≠lM))=false):n=12/\r=lM:=by
 simp only[Bool.or_eq_false_iff,decide_eq_false_iff_not,Decidable.not_not]at h
 exact⟨by omega,h.2⟩
variable {L:ByteArray}
theorem Hr (h:dx kN (L.extract 4 12)=true) {k:Nat} (h4:4<=k) (hk:k<12) (hL:L.size=12):kN (bz L k)=true:=by
 have hz:(L.extract 4 12).size=8:=by rw[ByteArray.size_extract]; omega
 have:=mq h (k:=k-4) (by omega)
 rwa [cJ (by omega),show 4+(k-4)=k by omega]at this
theorem Es (hL:L.size=12) (h:∀k,4<=k->k<12->kN (bz L k)=true):dx kN (L.extract 4 12)=true:=by
 have hz:(L.extract 4 12).size=8:=by rw[ByteArray.size_extract]; omega
 unfold dx
 simp only[Bool.and_eq_true,decide_eq_true_eq]
 refine⟨λk hk=>?_,λe=>by rw[e]at hz; cases hz⟩
 rw[cJ hk]
 exact h _ (by omega) (by omega)
theorem A7 {nm HO:ByteArray} {st st':Int} {s:Value} (h1:nm=HO) (h2:st=st'):∀w v,pS [⟨false,1,pT nm⟩,⟨false,1,pI st⟩,⟨false,1,aG s⟩] w v->aG (lI HO st' s) w v:=by
 subst h1 h2
 exact tc
set_option maxHeartbeats 4000000 in
theorem Cb (hz:t.size<=2000):K1 Tryz.prog 17 (pT t) (dF (BZ t) (pI (eu t))):=by
 intro M w0 v0 hM hv0
 have FZ:t.size<=1000000:=by omega
 have hl:∀q,(cZ t q).size<=1000000:=λq=>Nat.le_trans (yQ t q) FZ
 have hw:∀q k,k<(cV (cZ t q)).length->((cV (cZ t q)).getD k ⟨#[]⟩).size<=1000000:=λq k hk=>ud (hl q) hk
 have lp:=lO t
 have JI:(t.extract 0 (dK t (aL t-1))).size<=1000000:=by rw[ByteArray.size_extract]; omega
 have hsm:0<=lK 0 (t.extract 0 (dK t (aL t-1)))/\lK 0 (t.extract 0 (dK t (aL t-1)))<4294967296:=⟨(lY _).1,by have:=(lY (t.extract 0 (dK t (aL t-1)))).2; omega⟩
 refine fR (N:=202) Tryz.func17 rfl rfl rfl hM hv0 λa hI=>?_
 refine bO hI 2 [⟨2,2,some 0,none,.ptr,42,3,true,pv _,[]⟩] [] [Uc 1 3 _] .z (.k .z) ⟨F2 [.s,.i,.n],mv,trivial⟩ (.k .z) (.kk .z) λa w hI=>?_
 refine bO hI 7 [] [] [Uc 0 17 _,Uc 1 18 _,Uc 2 16 _,Uc 3 19 _,Uc 4 20 _,Uc 5 4 _,Uc 6 5 _] (.k .z) (.kk .z) ⟨mv,nH (Cc (t:=t)) (hφ:=FZ),mv,ext,ext,mv,mv,trivial⟩ (.k .z) (.bK (.cf (.k .z))) λa w hI=>?_
 refine ah ?_
 refine bO hI 7 [] [] [Uc 0 21 _,Uc 1 22 _,Uc 2 23 _,Uc 3 24 _,Uc 4 25 _,Uc 5 26 _,Uc 6 27 _] (.k .z) (.af .z) ⟨mv,nt,mv,gd λh=>cy h,gd λh=>KX h,gd λh=>fS h,pk,trivial⟩ (.k .z) (.bj (.bp (.eC .z))) λa w hI=>?_
 refine nX hI (λt1=>?_) (λt1=>?_)
 ·
  have hE:eu t=2:=jF (jO λk=>E9 t1 k.1)
  refine bO hI 3 [] [] [Uc 0 28 _,Uc 2 3 _] (.u none [(1,pv _)] .z) (.k (.t 2 (.kk .z))) ⟨bd [.o .s,.o .i,.o .n] [],tW,mv,trivial⟩ (.s .o .z) (.pP (.dk .z)) λa w hI=>?_
  refine av ?_
  refine aj ?_
  exact fe hI rfl (vh (hq:=fF (by rw[hE]; decide))) (cm (hq:=bh hE.symm))
 ·
  have hok:=BR t1
  have hc3:=hok.2
  have Mu:=hl (aL t-1)
  refine ak ?_
  refine ae ?_
  refine bO hI 5 [] [] [Uc 0 29 _,Uc 1 30 _,Uc 2 31 _,Uc 3 32 _,Uc 4 6 _] (.k .z) (.af .z) ⟨mv,az 0 hs (.const _) rfl (pt rfl) (by omega) (by kernel_rfl) (by kernel_rfl),ax hs (pt rfl) (by kernel_rfl) (aE _),nH (uT (s:=cZ t 0)) (hφ:=hl _),mv,trivial⟩ (.k .z) (.bj (.bp (.k .z))) λa w hI=>?_
  refine ah ?_
  refine bO hI 37 [] [] [Uc 0 33 _,Uc 1 34 _,Uc 2 35 _,Uc 3 36 _,Uc 4 37 _,Uc 5 38 _,Uc 6 39 _,Uc 7 40 _,Uc 8 41 _,Uc 9 42 _,Uc 10 43 _,Uc 11 44 _,Uc 12 45 _,Uc 13 46 _,Uc 14 47 _,Uc 15 48 _,Uc 16 49 _,Uc 17 50 _,Uc 18 51 _,Uc 19 52 _,Uc 20 53 _,Uc 21 54 _,Uc 22 55 _,Uc 23 56 _,Uc 24 57 _,Uc 25 58 _,Uc 26 59 _,Uc 27 60 _,Uc 28 61 _,Uc 29 62 _,Uc 30 63 _,Uc 31 64 _,Uc 32 65 _,Uc 33 66 _,Uc 34 67 _,Uc 35 68 _,Uc 36 69 _] (.k .z) (.af .z) ⟨mv,ln,bn,mv,gd λh=>cy h,gd λh=>az 0 hg (.const _) rfl (pg h rfl) (by have:=of_decide_eq_false h; omega) (by kernel_rfl) (by kernel_rfl),gd λh=>ax hg (pg h rfl) (by kernel_rfl) (aE _),gd λh=>D5 h,pk,mv,gd λh=>cy h,gd λh=>az 1 hg (.const _) rfl (pg h rfl) (by simp only[Bool.or_eq_false_iff,decide_eq_false_iff_not,Decidable.not_not]at h; omega) (by kernel_rfl) (by kernel_rfl),gd λh=>ax hg (pg h rfl) (by kernel_rfl) (aE _),gd λh=>AW h FE (hφ:=hw 0 1 (by simp only[Bool.or_eq_false_iff,decide_eq_false_iff_not,Decidable.not_not]at h; omega)),gd λh=>CN h,pk,mv,gd λh=>cy h,gd λh=>az 2 hg (.const _) rfl (pg h rfl) (by simp only[Bool.or_eq_false_iff,decide_eq_false_iff_not,Decidable.not_not]at h; omega) (by kernel_rfl) (by kernel_rfl),gd λh=>ax hg (pg h rfl) (by kernel_rfl) (aE _),gd λh=>gF (h:=hg) (hp:=pg h rfl),gd λh=>fS h,pk,mv,gd λh=>cy h,gd λh=>az 2 hg (.const _) rfl (pg h rfl) (by simp only[Bool.or_eq_false_iff,decide_eq_false_iff_not,Decidable.not_not]at h; omega) (by kernel_rfl) (by kernel_rfl),gd λh=>ax hg (pg h rfl) (by kernel_rfl) (aE _),gd λh=>lJ 0 (h:=hg) (hy:=.const _) (hk:=(by simp only[Bool.or_eq_false_iff,decide_eq_false_iff_not,Decidable.not_not]at h; omega)) (hp:=pg h rfl),gd λh=>fS h,pk,mv,gd λh=>cy h,gd λh=>az 2 hg (.const _) rfl (pg h rfl) (by simp only[Bool.or_eq_false_iff,decide_eq_false_iff_not,Decidable.not_not]at h; omega) (by kernel_rfl) (by kernel_rfl),gd λh=>ax hg (pg h rfl) (by kernel_rfl) (aE _),gd λh=>lJ 0 (h:=hg) (hy:=.const _) (hk:=(by simp only[Bool.or_eq_false_iff,decide_eq_false_iff_not,Decidable.not_not]at h; omega)) (hp:=pg h rfl),gd λh=>fS h,pk,trivial⟩ (.k .z) (.af (.d8 (.d8 (.d8 (.d8 (.bp (.k .z))))))) λa w hI=>?_
  refine nX hI (λt2=>?_) (λt2=>?_)
  ·
   have hE:eu t=2:=jF (jO λk=>by have e:=k.2.1; rw[<-mE,CQ t2]at e; cases e)
   refine bO hI 3 [] [] [Uc 0 70 _,Uc 2 3 _] (.u none [(1,pv _)] .z) (.k (.t 2 (.aU .z))) ⟨bd [.o .s,.o .i,.o .n] [],tW,mv,trivial⟩ (.s .o .z) (.mI (.eC .z)) λa w hI=>?_
   refine av ?_
   refine aj ?_
   exact fe hI rfl (vh (hq:=fF (by rw[hE]; decide))) (cm (hq:=bh hE.symm))
  ·
   have hd:xV (cZ t 0)=true:=by rw[<-mE]; exact pE t2
   have Lj:cV (cZ t 0)=ay (cZ t 0):=vK (pE t2)
   obtain⟨h1,h2,h3,h4,h5,h6⟩:=of_decide_eq_true (pE t2)
   have hN:(cV (cZ t 0)).getD 1 ⟨#[]⟩=vI (cZ t 0):=by unfold vI; rw[if_pos hd,Lj]
   have hS:bz ((cV (cZ t 0)).getD 2 ⟨#[]⟩) 0-48=Ap (cZ t 0):=by unfold Ap; rw[if_pos hd,Lj]
   have hl0:=hl 0
   have h9:((cZ t 0).size:Int)+1=((dK t (0+1):Nat):Int):=by
    rw[mN]
    show _=((0+(cZ t 0).size+1:Nat):Int)
    omega
   refine ak ?_
   refine ae ?_
   refine xd hI [0,1,3,0,8,24,56,120,248,511,0,2047] [⟨7,7,some 10,none,.ptr,42,3,true,pv _,[(11,pv _)]⟩] [] [Uc 0 71 _,Uc 1 72 _,Uc 2 73 _,Uc 3 74 _,Uc 4 75 _,Uc 5 76 _,Uc 6 77 _,Uc 7 78 _,Uc 8 79 _,Uc 9 80 _] (.k .z) (.af (.k .z)) ⟨mv,az 1 hs (.const _) rfl (pt rfl) (by omega) (by kernel_rfl) (by kernel_rfl),ax hs (pt rfl) (by kernel_rfl) (aE _),mv,az 2 hs (.const _) rfl (pt rfl) (by omega) (by kernel_rfl) (by kernel_rfl),ax hs (pt rfl) (by kernel_rfl) (aE _),lJ 0,Kw,DU (hm:=by omega),bd [.o .s,.o .i,.o .n] [(0,_),(1,_),(2,_)],F2 [.s,.i,.n],tW,trivial⟩ (.k (.s .o .z)) (.bj (.d8 (.Gr .z))) λa w hI=>?_
   have hI:=C6 (id:=300) (sz:=1) (ag:=false) (E:=9) (λk=>pT (cZ t (k+1))) hI (by kernel_rfl)
   dsimp only[List.append,HAppend.hAppend,Append.append]at hI
   obtain⟨g,hI⟩:=vg hI 1 rfl
   dsimp only[List.set]at hI
   refine bO hI 1 [] [] [Uc 0 8 _] (.k (.k (.k .z))) (.af .z) ⟨mv,trivial⟩ (.k (.k (.k .z))) (.af (.k .z)) λa w hI=>?_
   refine bO hI 6 [] [] [Uc 0 81 _,Uc 1 82 _,Uc 2 83 _,Uc 3 84 _,Uc 4 85 _,Uc 5 9 _] (.k (.k (.k .z))) (.af (.k .z)) ⟨mv,az 0 hs (.const _) rfl (pt rfl) (by omega) (by kernel_rfl) (by kernel_rfl),ax hs (pt rfl) (by kernel_rfl) (aE _),gF,bn,mv,trivial⟩ (.k (.k (.k .z))) (.af (.gE (.eC .z))) λa w hI=>?_
   refine ah ?_
   refine bO hI 1 [] [] [Uc 0 10 _] (.k (.k (.k .z))) (.af (.kk .z)) ⟨mv,trivial⟩ (.k (.k (.k .z))) (.af (.aU .z)) λa w hI=>?_
   refine aD ?_
   refine qz [Vz 2 2 42 3 true _] [Uz 7 _,Uz 0 _,Uz 4 _] (λ(x:Nat×Value)=>[fk 7 g 3 (aG (lI (vI (cZ t 0)) (Ap (cZ t 0)) x.2)),(mD 300 1 x.1 false 9 (λk=>pT (cZ t (k+1))) x.2)]) (λ(x:Nat×Value)=>[Uz 10 (pI ((x.1+1:Nat):Int)),Uz 8 (pI (qB t x.1)),Uz 9 (pI ((dK t (x.1+1):Nat):Int))]) (λ(x:Nat×Value)=>x.1<=aL t-2/\∀q,q<x.1->qB t q<qB t (q+1)) (λ(x:Nat×Value)=>aL t-2-x.1) ((0,.slice none 0 0)) ⟨Nat.zero_le _,λ_ h=>absurd h (Nat.not_lt_zero _)⟩ hI ⟨vi,vO (A7 hN hS),F7,trivial⟩ ⟨gi,gi,gi,gC (bh (by rfl)),gC (bh (by rfl)),gC (bh h9),trivial⟩ ?_
   intro x a w hp hI
   have hpos:=E1 t x.1
   have tf:=hl (x.1+1)
   refine ah ?_
   refine bO hI 5 [] [] [Uc 0 86 _,Uc 1 87 _,Uc 2 88 _,Uc 3 89 _,Uc 4 90 _] (.k (.k (.k .z))) (.af (.kk .z)) ⟨mv,mv,ln,bn,bn,trivial⟩ (.k (.k (.k .z))) (.af (.bK (.eC .z))) λa w hI=>?_
   refine jv hI (λt3=>?_) (λt3=>?_)
   ·
    refine ak ?_
    refine ae ?_
    refine ah ?_
    refine aD ?_
    refine bO hI 6 [] [] [Uc 0 93 _,Uc 1 94 _,Uc 2 95 _,Uc 3 96 _,Uc 4 97 _,Uc 5 11 _] (.k (.k (.k .z))) (.af (.aU .z)) ⟨mv,mv,az (x.1+1) hs hs (by omega) (pt rfl) (by omega) (by kernel_rfl) (by kernel_rfl),ax hs (pt rfl) (by kernel_rfl) (aE _),nH (uT (s:=cZ t (x.1+1))) (hφ:=hl _),mv,trivial⟩ (.k (.k (.k .z))) (.af (.bK (.bp (.k .z)))) λa w hI=>?_
    refine ah ?_
    refine bO hI 3 [] [] [Uc 0 98 _,Uc 1 99 _,Uc 2 100 _] (.k (.k (.k .z))) (.af (.aU .z)) ⟨mv,ln,bn,trivial⟩ (.k (.k (.k .z))) (.af (.bj (.dk .z))) λa w hI=>?_
    refine jv hI (λt4=>?_) (λt4=>?_)
    ·
     have hE:eu t=2:=jF (jO λk=>by
      have h1:=of_decide_eq_true k.2.2.2 x.1 (by omega)
      rw[uI]at h1
      have:=(tD hpos).1 h1
      omega)
     refine bO hI 3 [] [] [Uc 0 101 _,Uc 2 3 _] (.u none [(1,pv _)] (.k (.k .z))) (.k8 .z) ⟨bd [.o .s,.o .i,.o .n] [],tW,mv,trivial⟩ (.s .o (.k (.k .z))) (.af (.bj (.dk .z))) λa w hI=>?_
     refine av ?_
     refine aj ?_
     refine aS ?_
     refine aj ?_
     refine aj ?_
     refine aS ?_
     refine aj ?_
     exact fe hI rfl (vh (hq:=fF (by rw[hE]; decide))) (cm (hq:=bh hE.symm))
    ·
     have Li:=hw (x.1+1) 0 (by omega)
     refine ak ?_
     refine ae ?_
     refine bO hI 9 [] [] [Uc 0 103 _,Uc 1 104 _,Uc 2 105 _,Uc 3 106 _,Uc 4 102 _,Uc 5 107 _,Uc 6 108 _,Uc 7 12 _,Uc 8 13 _] (.k (.k (.k .z))) (.k8 .z) ⟨mv,az 0 hs (.const _) rfl (pt rfl) (by omega) (by kernel_rfl) (by kernel_rfl),ax hs (pt rfl) (by kernel_rfl) (aE _),nH zL (hφ:=hw _ 0 (by omega)),mv,ext,ext,mv,mv,trivial⟩ (.k (.k (.k .z))) (.af (.bj (.bp (.cf (.k .z))))) λa w hI=>?_
     refine ah ?_
     refine xd hI [0,1,3,7,7,31,63,127,255,255,1023,2047,4095,255,8447,24831,57599,131071,262143,524287,1048575] [] [] [Uc 0 109 _,Uc 1 110 _,Uc 2 111 _,Uc 3 112 _,Uc 4 113 _,Uc 5 114 _,Uc 6 115 _,Uc 7 116 _,Uc 8 117 _,Uc 9 118 _,Uc 10 119 _,Uc 11 120 _,Uc 12 121 _,Uc 13 122 _,Uc 14 123 _,Uc 15 124 _,Uc 16 125 _,Uc 17 126 _,Uc 18 127 _,Uc 19 128 _,Uc 20 129 _] (.k (.k (.k .z))) (.k8 (.k .z)) ⟨mv,nt,mv,gd λh=>cy h,gd λh=>cy h,gd λh=>fS h,pk,mv,gd λh=>cy h,gd λh=>cy h,gd λh=>az (x.1+1) hg hg rfl (pg h rfl) (by omega) (by kernel_rfl) (by kernel_rfl),gd λh=>ax hg (pg h rfl) (by kernel_rfl) (aE _),gd λh=>gF (h:=hg) (hp:=pg h rfl),gd λh=>cy h,gd λh=>az 0 hg (.const _) rfl (pg h rfl) (by omega) (by kernel_rfl) (by kernel_rfl),gd λh=>ax hg (pg h rfl) (by kernel_rfl) (aE _),gd λh=>gF (h:=hg) (hp:=pg h rfl),gd λh=>fS h,gd λh=>fS h,gd λh=>fS h,pk,trivial⟩ (.k (.k (.k .z))) (.af (.vD (.d8 (.d8 (.bp (.dk .z)))))) λa w hI=>?_
     refine nX hI (λt5=>?_) (λt5=>?_)
     ·
      have hE:eu t=2:=jF (jO λk=>by
       have h1:=of_decide_eq_true k.2.2.2 x.1 (by omega)
       rw[uI]at h1
       exact HR t5 ((tD hpos).1 h1).2)
      refine bO hI 3 [] [] [Uc 0 130 _,Uc 2 3 _] (.u none [(1,pv _)] (.k (.k .z))) (.af (.aU .z)) ⟨bd [.o .s,.o .i,.o .n] [],tW,mv,trivial⟩ (.s .o (.k (.k .z))) (.af (.bK (.k .z))) λa w hI=>?_
      refine av ?_
      refine aj ?_
      refine aS ?_
      refine aj ?_
      refine aj ?_
      refine aS ?_
      refine aj ?_
      exact fe hI rfl (vh (hq:=fF (by rw[hE]; decide))) (cm (hq:=bh hE.symm))
     ·
      have IQ:=E6 t5
      have hgt:qB t x.1<qd (cZ t (x.1+1)):=(tD hpos).2 ⟨by omega,IQ.1,IQ.2.1,IQ.2.2.1⟩
      have hval:=E3 hpos hgt
      have hOx:=Nat.le_trans (rN (t:=t) (show x.1+1<=aL t by omega)) (qa t)
      have k8:Au ((cV (cZ t (x.1+1))).getD 0 ⟨#[]⟩)=qB t (x.1+1):=by rw[IQ.2.2.2,hval,uI]
      have k9:((dK t (x.1+1):Nat):Int)+((cZ t (x.1+1)).size:Int)+1=((dK t (x.1+1+1):Nat):Int):=by rw[mN t (x.1+1)]; omega
      have MW:((x.1+1:Nat):Int)+1=((x.1+1+1:Nat):Int):=by omega
      refine ak ?_
      refine ae ?_
      refine bO hI 2 [] [] [Uc 0 131 _,Uc 1 8 _] (.k (.k (.k .z))) (.af (.aU .z)) ⟨mv,mv,trivial⟩ (.k (.k (.k .z))) (.af (.gE (.k .z))) λa w hI=>?_
      refine bO hI 9 [] [] [Uc 0 132 _,Uc 1 133 _,Uc 2 134 _,Uc 3 135 _,Uc 4 136 _,Uc 5 137 _,Uc 6 138 _,Uc 7 139 _,Uc 8 9 _] (.k (.k (.k .z))) (.af (.t 8 (.k .z))) ⟨mv,mv,mv,az (x.1+1) hs hs (by omega) (pt rfl) (by omega) (by kernel_rfl) (by kernel_rfl),ax hs (pt rfl) (by kernel_rfl) (aE _),gF,bn,bn,mv,trivial⟩ (.k (.k (.k .z))) (.af (.lG (.bp (.eC .z)))) λa w hI=>?_
      refine KJ hI [0,1,0,0,12,28,60,127,255,511] 7 [] [] [Uc 0 140 _,Uc 1 141 _,Uc 2 142 _,Uc 3 143 _,Uc 4 144 _,Uc 5 145 _,Uc 6 146 _] (.k (.k (.k .z))) (.af (.kk .z)) ⟨fE 2,C4 7,mv,mv,az (x.1+1) hs hs (by omega) (pt rfl) (by omega) (by kernel_rfl) (by kernel_rfl),ax hs (pt rfl) (by kernel_rfl) (aE _),vq 9,trivial⟩ (.k (.k (.k .z))) (.af (.bS (.bp (.k .z)))) (⟨_,CC (n0:=2) (λk=>pT (cZ t (k+1))) (oX (λ_ _ h=>h)) (hagg:=λ_=>rfl),⟨_,lQ λs' hs'=>bF [] [] [Uc 0 148 _] (.k (.k (.k .z))) (.k8 (.k .z)) (fE 2) (.k (.k (.k .z))) (.af (.bj (.dk .z))),⟨_,lQ λs' hs'=>bF [] [] [] (.k (.u none [(0,_)] (.k .z))) (.k8 .z) (Dv 7 hs') (.k (.s .o (.k .z))) (.qV (.bj .z)),rfl⟩⟩⟩) λa w hI=>?_
      obtain⟨s',hs',hI⟩:=hI
      refine bk ?_
      refine ae ?_
      refine sG hI 3 [] [] [Uc 0 91 _,Uc 1 92 _,Uc 2 10 _] (.k (.k (.k .z))) (.aU (.t 2 (.kk .z))) ⟨mv,bn,mv,trivial⟩ (.k (.k (.k .z))) (.bj (.bK (.k .z))) λa w hI=>?_
      refine ae ?_
      have hstep:x.1+1<=aL t-2/\∀q,q<x.1+1->qB t q<qB t (q+1):=⟨by omega,λq hq=>if e:q=x.1 then by rw[e,uI]; exact hgt else hp.2 q (by omega)⟩
      exact nQ ((x.1+1,s')) hstep hI ⟨vc,vO,F7,trivial⟩ ⟨gc,gc,gc,gC (bh MW),gC (bh k8),gC (bh k9),trivial⟩ (by show aL t-2-(x.1+1)<aL t-2-x.1; omega)
   ·
    have yl:uS t=true:=decide_eq_true λq hq=>hp.2 q (by omega)
    have hx1:x.1+1=aL t-1:=by omega
    rw[hx1]at hI
    refine cj ?_
    refine aC ?_
    refine aC ?_
    refine bf ?_
    refine ae ?_
    refine bO hI 7 [] [] [Uc 0 149 _,Uc 1 150 _,Uc 2 151 _,Uc 3 152 _,Uc 4 153 _,Uc 5 154 _,Uc 6 14 _] (.k (.k (.k .z))) (.af (.aU .z)) ⟨mv,mv,ln,bn,az (aL t-1) hs hs (by omega) (pt rfl) (by omega) (by kernel_rfl) (by kernel_rfl),ax hs (pt rfl) (by kernel_rfl) (aE _),mv,trivial⟩ (.k (.k (.k .z))) (.bK (.lG (.bp (.dk .z)))) λa w hI=>?_
    refine ah ?_
    refine bO hI 8 [] [] [Uc 0 155 _,Uc 1 156 _,Uc 2 157 _,Uc 3 158 _,Uc 4 159 _,Uc 5 160 _,Uc 6 161 _,Uc 7 162 _] (.k (.k (.k .z))) (.af .z) ⟨mv,gF,bn,mv,gd λh=>cy h,gd λh=>Cg 4 (h:=hg) (hy:=.const _) (hk:=by have:=of_decide_eq_false h; omega) (hp:=pg h rfl),gd λh=>D5 h,pk,trivial⟩ (.k (.k (.k .z))) (.af (.bp (.cf .z))) λa w hI=>?_
    refine nX hI (λt6=>?_) (λt6=>?_)
    ·
     have hE:eu t=2:=jF (jO λk=>by
      obtain⟨e1,e2,_⟩:=of_decide_eq_true k.2.2.1
      exact HJ t6 ⟨e1,e2⟩)
     refine bO hI 3 [] [] [Uc 0 163 _,Uc 2 3 _] (.u none [(1,pv _)] (.k (.k .z))) (.af (.k .z)) ⟨bd [.o .s,.o .i,.o .n] [],tW,mv,trivial⟩ (.s .o (.k (.k .z))) (.af (.eC .z)) λa w hI=>?_
     refine av ?_
     refine aj ?_
     exact fe hI rfl (vh (hq:=fF (by rw[hE]; decide))) (cm (hq:=bh hE.symm))
    ·
     have hls:=ES t6
     have h12:=hls.1
     refine ak ?_
     refine ae ?_
     refine ah ?_
     refine bO hI 1 [] [] [Uc 0 15 _] (.k (.k (.k .z))) (.af (.k .z)) ⟨mv,trivial⟩ (.k (.k (.k .z))) (.af (.dk .z)) λa w hI=>?_
     refine aD ?_
     refine qz [Vz 2 2 42 3 true _,fk 7 g 3 _,mD 300 1 _ false 9 (λk=>pT (cZ t (k+1))) _] [Uz 7 _,Uz 0 _,Uz 9 _,Uz 14 _] (λ(y:Nat)=>[]) (λ(y:Nat)=>[Uz 15 (pI (y:Int))]) (λ(y:Nat)=>4<=y/\y<=12/\∀k,4<=k->k<y->kN (bz (cZ t (aL t-1)) k)=true) (λ(y:Nat)=>12-y) (4) ⟨Nat.le_refl _,by omega,λ_ h h'=>absurd h' (Nat.not_lt.2 h)⟩ hI ⟨vi,vO,F7,trivial⟩ ⟨gi,gi,gi,gi,gC (bh (by rfl)),trivial⟩ ?_
     intro y a w hy hI
     refine ah ?_
     refine bO hI 2 [] [] [Uc 0 164 _,Uc 1 165 _] (.k (.k (.k .z))) (.af (.k .z)) ⟨mv,bn,trivial⟩ (.k (.k (.k .z))) (.af (.nP .z)) λa w hI=>?_
     refine jv hI (λt7=>?_) (λt7=>?_)
     ·
      refine ak ?_
      refine ae ?_
      refine ah ?_
      refine aD ?_
      refine bO hI 23 [] [] [Uc 0 168 _,Uc 1 169 _,Uc 2 170 _,Uc 3 171 _,Uc 4 172 _,Uc 5 173 _,Uc 6 174 _,Uc 7 175 _,Uc 8 176 _,Uc 9 177 _,Uc 10 178 _,Uc 11 179 _,Uc 12 180 _,Uc 13 181 _,Uc 14 182 _,Uc 15 183 _,Uc 16 184 _,Uc 17 185 _,Uc 18 186 _,Uc 19 187 _,Uc 20 188 _,Uc 21 189 _,Uc 22 190 _] (.k (.k (.k .z))) (.af (.kk .z)) ⟨mv,mv,lJ y,bn,mv,gd λh=>cy h,gd λh=>cy h,gd λh=>lJ y (h:=hg) (hy:=hg) (hp:=pg h rfl),gd λh=>fS h,pk,mv,gd λh=>cy h,gd λh=>cy h,gd λh=>lJ y (h:=hg) (hy:=hg) (hp:=pg h rfl),gd λh=>fS h,gd λh=>cy h,sK λh=>cy h,sK λh=>cy h,sK λh=>lJ y (h:=hg) (hy:=hg) (hp:=pg h rfl),sK λh=>fS h,gd λh=>GO h,pk,nt,trivial⟩ (.k (.k (.k .z))) (.af (.gE (.d8 (.d8 (.bp (.k .z)))))) λa w hI=>?_
      refine nX hI (λt8=>?_) (λt8=>?_)
      ·
       have hst:kN (bz (cZ t (aL t-1)) y)=false:=by
        have KF:(!kN (bz (cZ t (aL t-1)) y))=true:=t8
        simpa using KF
       have hE:eu t=2:=jF (jO λk=>by
        obtain⟨_,_,e3⟩:=of_decide_eq_true k.2.2.1
        rw[Hr e3 hy.1 (by omega) h12]at hst
        cases hst)
       refine bO hI 3 [] [] [Uc 0 191 _,Uc 2 3 _] (.u none [(1,pv _)] (.k (.k .z))) (.af (.kk .z)) ⟨bd [.o .s,.o .i,.o .n] [],tW,mv,trivial⟩ (.s .o (.k (.k .z))) (.af (.gS .z)) λa w hI=>?_
       refine av ?_
       refine aS ?_
       refine aj ?_
       refine aj ?_
       refine aS ?_
       refine aj ?_
       exact fe hI rfl (vh (hq:=fF (by rw[hE]; decide))) (cm (hq:=bh hE.symm))
      ·
       have hst:kN (bz (cZ t (aL t-1)) y)=true:=by
        have KF:(!kN (bz (cZ t (aL t-1)) y))=false:=t8
        simpa using KF
       refine ak ?_
       refine bk ?_
       refine ae ?_
       refine sG hI 3 [] [] [Uc 0 166 _,Uc 1 167 _,Uc 2 15 _] (.k (.k (.k .z))) (.af (.t 2 (.k .z))) ⟨mv,bn,mv,trivial⟩ (.k (.k (.k .z))) (.af (.bp (.k .z))) λa w hI=>?_
       refine ae ?_
       exact nQ (y+1) ⟨by omega,by omega,λk h4 hk=>if e:k=y then by rw[e]; exact hst else hy.2.2 k h4 (by omega)⟩ hI ⟨vc,vO,F7,trivial⟩ ⟨gc,gc,gc,gc,gc,trivial⟩ (by omega)
     ·
      have hl2:tv (cZ t (aL t-1))=true:=decide_eq_true ⟨h12,hls.2,Es h12 λk h4 hk=>hy.2.2 k h4 (by omega)⟩
      have GY:D1 t=true:=decide_eq_true ⟨hok,hd,hl2,yl⟩
      have Mb:dK t (aL t-1)<=t.size:=Nat.le_trans (rN (t:=t) (show aL t-1<=aL t by omega)) (qa t)
      refine cj ?_
      refine aC ?_
      refine aC ?_
      refine bf ?_
      refine ae ?_
      refine ah ?_
      refine xd hI [0,1,0,0,12,28,60,127] [] [] [Uc 0 192 _,Uc 1 193 _,Uc 2 194 _,Uc 3 195 _,Uc 4 196 _,Uc 5 197 _,Uc 6 198 _,Uc 7 199 _] (.k (.k (.k .z))) (.af (.kk .z)) ⟨mv,FJ 4 (hy:=.const _),mv,mv,Cg (dK t (aL t-1)),mz (Ii (h:=0) (s:=(t.extract 0 (dK t (aL t-1))))) (hφ:=JI),nH (Ij (m:=lK 0 (t.extract 0 (dK t (aL t-1))))) (hφ:=hsm),bU,trivial⟩ (.k (.k (.k .z))) (.gE (.d8 (.dk .z))) λa w hI=>?_
      refine jv hI (λt9=>?_) (λt9=>?_)
      ·
       have hE:eu t=102:=um GY (decide_eq_false λe=>t9 (by rw[h12]; exact e.symm))
       refine bO hI 3 [] [] [Uc 0 200 _,Uc 2 3 _] (.u none [(1,pv _)] (.k (.k .z))) (.kk .z) ⟨bd [.o .s,.o .i,.o .n] [],tW,mv,trivial⟩ (.s .o (.k (.k .z))) (.gS .z) λa w hI=>?_
       refine av ?_
       refine aj ?_
       exact fe hI rfl (vh (hq:=fF (by rw[hE]; decide))) (cm (hq:=bh hE.symm))
      ·
       have hE:eu t=0:=CE GY (decide_eq_true (by rw[<-Decidable.not_not.1 t9,h12]))
       refine ak ?_
       refine ae ?_
       refine ju hI 3 0 [] [] [] (.k (.k (.k .z))) (.kk .z) trivial (.k (.k (.k .z))) (.kd .z) (⟨_,sw (bF [] [] [Uc 0 201 _] (.k (.k (.k .z))) (.k .z) (yJ 7) (.k (.k (.k .z))) (.dk .z)) 2 201 pJ,⟨_,bF [] [] [] (.u none [(0,pv _)] (.k .z)) (.kk .z) (fj rfl rfl hs rfl rfl (bV (by kernel_rfl)) jM (by kernel_rfl)) (.s .o (.k .z)) (.dd .z),⟨_,bF [] [] [Uc 0 3 _] (.k (.k .z)) .z (mv) (.k (.k .z)) (.k .z),rfl⟩⟩⟩) λa w hI=>?_
       refine av ?_
       exact fe hI rfl (vh (hq:=uw hE (by omega))) (cm (hq:=bh hE.symm))
end Wx
