import Derived.Test.YtfnmkhlleanppaaGreatDoorJWC38
import Derived.Test.YtfnmkhlleanppaaGreatDoorCWCWk23
import Derived.Test.YtfnmkhlleanppaaGreatDoorJWC40
namespace Wx
set_option maxRecDepth 100000
open Go Go.RowKit Go.Proofs
set_option linter.unusedVariables false
attribute [local irreducible] OpOk
section
variable {P:Program} {ops:Array Oper} {ms:List Nat} {c:bQ} {V:List Vr} {A:List Al} {G:List aN} {i d:Nat} {x y z:Operand} {ty t u:TypeId} {pos:String} {aft:Array Edge} {m n:Int}
theorem Kz {T:TypeId} {sz n:Nat} {ag:Bool} {f:Nat->Pred} {m1 m2:Int} (lo hi:Nat) (h:Has ms G i x (aI sz ag n f):=by exact hs) (hy:Has ms G i y (pI m1):=by exact hs) (hz:Has ms G i z (pI m2):=by exact hs) (hp:Post G i (aI sz ag (hi-lo) λk=>f (k+lo)):=by exact pt rfl) (e1:m1=(lo:Int):=by omega) (e2:m2=(hi:Int):=by omega) (hlo:lo<hi:=by omega) (hhi:hi<=n:=by omega) (ht:Il P T sz=true:=by kernel_rfl):OpOk P ops ms c V A G i ⟨some d,.slice T x (some y) (some z) none,ty,pos,aft,none⟩:=by
 subst e1 e2
 obtain⟨E,hE⟩:=tP ht
 exact KA lo hi h hy hz (by omega) hhi hE (hp.down (iN λk _ w v e=>by rw[Nat.add_comm k lo]; exact e))
end
variable {h p q:Bool} {n:Nat}
theorem GL (e:(((!h||!p)||decide ((n:Int)≠8))||!q)=true):¬(h=true/\p=true/\n=8/\q=true):=by
 rintro⟨rfl,rfl,rfl,rfl⟩
 cases e
theorem D2 (e:(((!h||!p)||decide ((n:Int)≠8))||!q)=false):h=true/\p=true/\n=8/\q=true:=by
 simp only[Bool.or_eq_false_iff,Bool.not_eq_false',decide_eq_false_iff_not,Decidable.not_not]at e
 exact⟨e.1.1.1,e.1.1.2,by omega,e.2⟩
variable {t:ByteArray}
theorem HV (h:(!sy t||decide ((aL t:Int)<3))=true):¬(okF t=true/\3<=aL t):=by
 rintro⟨h1,h2⟩
 rw[zP (by omega),h1,decide_eq_false (by omega)]at h
 cases h
theorem E8 (h:(!sy t||decide ((aL t:Int)<3))=false):okF t=true/\3<=aL t:=by
 simp only[Bool.or_eq_false_iff,Bool.not_eq_false',decide_eq_false_iff_not]at h
 have h3:3<=aL t:=by omega
 exact⟨by rw[<-zP (by omega)]; exact h.1,h3⟩
theorem yZ (t:ByteArray) (q:Nat):qB t (q+1)=qd (cZ t (q+1)):=if_neg (Nat.succ_ne_zero q)
theorem BQ (h:okF t=true/\3<=aL t):dK t (aL t-1)+(cZ t (aL t-1)).size+1=t.size:=by
 have h1:=of_decide_eq_true h.1
 have h2:=mN t (aL t-1)
 rw[show aL t-1+1=aL t by omega]at h2
 omega
set_option maxHeartbeats 4000000 in
theorem Bp (hz:t.size<=2000):J1 Tryz.prog 16 (pT t) (dF (BZ t) (pI (eu t))):=by
 intro M w0 v0 hM hG hv0
 have hG:=dP hG
 have FZ:t.size<=1000000:=by omega
 have hl:∀q,(cZ t q).size<=1000000:=λq=>Nat.le_trans (yQ t q) FZ
 have lp:=lO t
 have Mh:=Nat.le_trans (Gq (cZ t (aL t-1))) (hl _)
 have JI:(t.extract 0 (dK t (aL t-1))).size<=1000000:=by rw[ByteArray.size_extract]; omega
 have hsm:0<=lK 0 (t.extract 0 (dK t (aL t-1)))/\lK 0 (t.extract 0 (dK t (aL t-1)))<4294967296:=⟨(lY _).1,by have:=(lY (t.extract 0 (dK t (aL t-1)))).2; omega⟩
 refine fR (N:=105) Tryz.func16 rfl rfl rfl hM hv0 λa hI=>?_
 refine bO hI 2 [⟨2,2,some 0,none,.ptr,39,3,true,pv _,[]⟩] [] [Uc 1 3 _] .z (.k .z) ⟨F2 [.s,.i,.n],mv,trivial⟩ (.k .z) (.kk .z) λa w hI=>?_
 refine ju hI 4 0 [] [] [] (.k .z) (.kk .z) trivial (.k .z) (.kk .z) (⟨_,bF [] [] [Uc 0 16 _] (.k .z) (.kk .z) (mv) (.k .z) (.aU .z),⟨_,λa w h=>wN pn (eH _) (λ_ _=>by kernel_rfl) h (λβ hI=>by rw[show(#[.tmp 16]:Array Operand).map a.eval=#[a.eval (.tmp 16)] by simp,uc hI (v:=.string t) rfl]; exact Bz w) (by kernel_rfl) (by kernel_rfl) (by kernel_rfl),⟨_,lQ λu hu=>λa w h=>nr (n0:=0) (p:=B3 t) hG (λ_ _=>by kernel_rfl) h rfl (λβ M' hI hM kL hu hG=>by rw[show(#[.tmp 17]:Array Operand).map a.eval=#[a.eval (.tmp 17)] by simp,uc hI (v:=pn u) rfl]; exact vU FZ hM kL hu hG) (by kernel_rfl) (by kernel_rfl) (by kernel_rfl) (by kernel_rfl) (by kernel_rfl) (by kernel_rfl) (by kernel_rfl),⟨_,lQ λu hu=>bF [] [] [Uc 0 4 _] (.k (.k .z)) (.af (.k .z)) (mv) (.k (.k .z)) (.AO (.dk .z)),rfl⟩⟩⟩⟩) λa w hI=>?_
 obtain⟨u,hu,hI⟩:=hI
 dsimp only[List.set]at hI
 refine ah ?_
 refine bO hI 8 [] [] [Uc 0 19 _,Uc 1 20 _,Uc 2 21 _,Uc 3 22 _,Uc 4 23 _,Uc 5 24 _,Uc 6 25 _,Uc 7 26 _] (.k (.k .z)) (.aU .z) ⟨mv,mz yy (hφ:=FZ),nt,mv,gd λh=>cy h,gd λh=>KX h,gd λh=>fS h,pk,trivial⟩ (.k (.k .z)) (.bj (.bp (.eC .z))) λa w hI=>?_
 refine nX hI (λt1=>?_) (λt1=>?_)
 ·
  have hE:eu t=2:=jF (jO λk=>HV t1 k.1)
  refine bO hI 3 [] [] [Uc 0 27 _,Uc 2 3 _] (.k (.u none [(1,pv _)] .z)) (.k (.t 2 (.kk .z))) ⟨bd [.o .s,.o .i,.o .n] [],tW,mv,trivial⟩ (.k (.s .o .z)) (.pP (.dk .z)) λa w hI=>?_
  refine av ?_
  refine aj ?_
  exact fe hI rfl (vh (hq:=fF (by rw[hE]; decide))) (cm (hq:=bh hE.symm))
 ·
  have hok:=E8 t1
  have hc3:=hok.2
  have Mb:=BQ hok
  have Mu:=hl (aL t-1)
  refine ak ?_
  refine ae ?_
  refine bO hI 11 [] [] [Uc 0 29 _,Uc 1 30 _,Uc 2 31 _,Uc 3 32 _,Uc 4 28 _,Uc 5 33 _,Uc 6 34 _,Uc 7 35 _,Uc 8 5 _,Uc 9 6 _,Uc 10 7 _] (.k (.k .z)) (.af .z) ⟨mv,az 0 hs (.const _) rfl (pt rfl) (by omega) (by kernel_rfl) (by kernel_rfl),ax hs (pt rfl) (by kernel_rfl) (aE _),Ai hG (vZ (s:=cZ t 0)) (hφ:=hl 0),mv,ext,ext,ext,mv,mv,mv,trivial⟩ (.k (.k .z)) (.bj (.d8 (.aU .z))) λa w hI=>?_
  refine bO hI 7 [] [] [Uc 0 36 _,Uc 1 37 _,Uc 2 38 _,Uc 3 39 _,Uc 4 40 _,Uc 5 41 _,Uc 6 8 _] (.k (.k .z)) (.af (.kk .z)) ⟨mv,mv,ln,bn,az (aL t-1) hs hs (by omega) (pt rfl) (by omega) (by kernel_rfl) (by kernel_rfl),ax hs (pt rfl) (by kernel_rfl) (aE _),mv,trivial⟩ (.k (.k .z)) (.af (.bK (.bp (.k .z)))) λa w hI=>?_
  refine bO hI 7 [] [] [Uc 0 43 _,Uc 1 44 _,Uc 2 42 _,Uc 3 45 _,Uc 4 46 _,Uc 5 9 _,Uc 6 10 _] (.k (.k .z)) (.af (.aU .z)) ⟨mv,mz yw (hφ:=hl _),mv,ext,ext,mv,mv,trivial⟩ (.k (.k .z)) (.af (.bj (.bp (.kk .z)))) λa w hI=>?_
  refine ah ?_
  refine bO hI 16 [] [] [Uc 0 47 _,Uc 1 48 _,Uc 2 49 _,Uc 3 50 _,Uc 4 51 _,Uc 5 52 _,Uc 6 53 _,Uc 7 54 _,Uc 8 55 _,Uc 9 56 _,Uc 10 57 _,Uc 11 58 _,Uc 12 59 _,Uc 13 60 _,Uc 14 61 _,Uc 15 62 _] (.k (.k .z)) (.k8 (.k .z)) ⟨mv,nt,mv,gd λh=>cy h,gd λh=>CN h,pk,mv,gd λh=>cy h,gd λh=>gF (h:=hg) (hp:=pg h rfl),gd λh=>fS h,pk,mv,gd λh=>cy h,gd λh=>ri h (uD (φ:=kN)) (c2:=kU λ_ _=>EH trivial) (hφ:=Mh),gd λh=>CN h,pk,trivial⟩ (.k (.k .z)) (.af (.mI (.d8 (.d8 (.k .z))))) λa w hI=>?_
  refine nX hI (λt2=>?_) (λt2=>?_)
  ·
   have hE:eu t=2:=jF (jO λk=>GL t2 ⟨k.2.1,(mO.1 k.2.2.1).1,(mO.1 k.2.2.1).2.1,(mO.1 k.2.2.1).2.2⟩)
   refine bO hI 3 [] [] [Uc 0 63 _,Uc 2 3 _] (.k (.u none [(1,pv _)] .z)) (.k (.t 2 (.af (.kk .z)))) ⟨bd [.o .s,.o .i,.o .n] [],tW,mv,trivial⟩ (.k (.s .o .z)) (.mI (.bj (.dk .z))) λa w hI=>?_
   refine av ?_
   refine aj ?_
   exact fe hI rfl (vh (hq:=fF (by rw[hE]; decide))) (cm (hq:=bh hE.symm))
  ·
   have hq:=D2 t2
   have hl2:tv (cZ t (aL t-1))=true:=mO.2 ⟨hq.2.1,hq.2.2.1,hq.2.2.2⟩
   refine ak ?_
   refine ae ?_
   refine bO hI 5 [⟨11,11,some 3,none,.ptr,39,3,true,pv _,[(4,pv _)]⟩] [] [Uc 0 64 _,Uc 1 65 _,Uc 2 66 _] (.k (.k .z)) (.k8 .z) ⟨mv,mv,bd [.o .s,.o .i,.o .n] [(0,_),(1,_)],F2 [.s,.i,.n],tW,trivial⟩ (.k (.k (.s .o .z))) (.bj (.po (.Gr .z))) λa w hI=>?_
   have hI:=C6 (id:=200) (sz:=1) (ag:=false) (E:=9) (λk=>pT (cZ t (k+1))) hI (by kernel_rfl)
   dsimp only[List.append,HAppend.hAppend,Append.append]at hI
   obtain⟨g,hI⟩:=vg hI 2 rfl
   dsimp only[List.set]at hI
   refine bO hI 1 [] [] [Uc 0 12 _] (.k (.k (.k (.k .z)))) (.af (.kk .z)) ⟨mv,trivial⟩ (.k (.k (.k (.k .z)))) (.af (.aU .z)) λa w hI=>?_
   refine ah ?_
   refine bO hI 7 [] [] [Uc 0 67 _,Uc 1 68 _,Uc 2 69 _,Uc 3 70 _,Uc 4 71 _,Uc 5 72 _,Uc 6 73 _] (.k (.k (.k (.k .z)))) (.af (.aU .z)) ⟨mv,mv,ln,bn,Kz 1 (aL t-1),ln,mv,trivial⟩ (.k (.k (.k (.k .z)))) (.bj (.bj (.cf (.kk .z)))) λa w hI=>?_
   refine aD ?_
   refine qz [cr 17 17 _,Vz 2 2 39 3 true _] [Uz 11 _,Uz 0 _,Uz 8 _,Uz 9 _,Uz 71 _,Uz 72 _] (λ(x:Nat×Value)=>[fk 11 g 3 (aG (lI (vI (cZ t 0)) (Ap (cZ t 0)) x.2)),(mD 200 1 x.1 false 9 (λk=>pT (cZ t (k+1))) x.2)]) (λ(x:Nat×Value)=>[Uz 73 (pI (x.1:Int)),Uz 12 (pI (qB t x.1))]) (λ(x:Nat×Value)=>x.1<=aL t-2/\∀q,q<x.1->qB t q<qB t (q+1)) (λ(x:Nat×Value)=>aL t-2-x.1) ((0,.slice none 0 0)) ⟨Nat.zero_le _,λ_ h=>absurd h (Nat.not_lt_zero _)⟩ hI ⟨vA,vi,vO (tc),F7,trivial⟩ ⟨gi,gi,gi,gi,gi,gi,gc,gC (bh (by rfl)),trivial⟩ ?_
   intro x a w hp hI
   refine bO hI 1 [] [] [Uc 0 74 _] (.k (.k (.k (.k .z)))) (.k8 .z) ⟨bn,trivial⟩ (.k (.k (.k (.k .z)))) (.k8 (.k .z)) λa w hI=>?_
   refine ah ?_
   refine jv hI (λt3=>?_) (λt3=>?_)
   ·
    refine ak ?_
    refine ae ?_
    refine ah ?_
    refine aD ?_
    refine bO hI 3 [] [] [Uc 0 75 _,Uc 1 76 _,Uc 2 14 _] (.k (.k (.k (.k .z)))) (.k8 (.k .z)) ⟨az x.1 hs hs rfl (pt rfl) (by omega) (by kernel_rfl) (by kernel_rfl),ax hs (pt rfl) (by kernel_rfl) (aE _),mv,trivial⟩ (.k (.k (.k (.k .z)))) (.k8 (.cf .z)) λa w hI=>?_
    refine bO hI 3 [] [] [Uc 0 77 _,Uc 1 78 _,Uc 2 15 _] (.k (.k (.k (.k .z)))) (.k8 (.k .z)) ⟨mv,Ai hG (tu (s:=cZ t (x.1+1))) (hφ:=hl _),mv,trivial⟩ (.k (.k (.k (.k .z)))) (.k8 (.gS .z)) λa w hI=>?_
    refine ah ?_
    refine bO hI 3 [] [] [Uc 0 79 _,Uc 1 80 _,Uc 2 81 _] (.k (.k (.k (.k .z)))) (.k8 (.kk .z)) ⟨mv,mv,bn,trivial⟩ (.k (.k (.k (.k .z)))) (.af (.bj (.bK (.k .z)))) λa w hI=>?_
    refine jv hI (λt4=>?_) (λt4=>?_)
    ·
     have hE:eu t=2:=jF (jO λk=>by
      have h1:=of_decide_eq_true k.2.2.2 x.1 (by omega)
      rw[yZ]at h1
      omega)
     refine bO hI 3 [] [] [Uc 0 82 _,Uc 2 3 _] (.k (.u none [(1,pv _)] (.k (.k .z)))) (.k8 (.kk .z)) ⟨bd [.o .s,.o .i,.o .n] [],tW,mv,trivial⟩ (.k (.s .o (.k (.k .z)))) (.k8 (.gS .z)) λa w hI=>?_
     refine av ?_
     refine aj ?_
     refine aS ?_
     refine aj ?_
     refine aj ?_
     refine aS ?_
     refine aj ?_
     exact fe hI rfl (vh (hq:=fF (by rw[hE]; decide))) (cm (hq:=bh hE.symm))
    ·
     refine ak ?_
     refine ae ?_
     refine bO hI 2 [] [] [Uc 0 83 _,Uc 1 12 _] (.k (.k (.k (.k .z)))) (.k8 (.kk .z)) ⟨mv,mv,trivial⟩ (.k (.k (.k (.k .z)))) (.k8 (.cf .z)) λa w hI=>?_
     refine KM hI 7 4 [] [] [Uc 0 84 _,Uc 1 85 _,Uc 2 86 _,Uc 3 87 _] (.k (.k (.k (.k .z)))) (.k8 (.k .z)) ⟨fE 2,C4 11,mv,vq 9,trivial⟩ (.k (.k (.k (.k .z)))) (.af (.bj (.pP (.k .z)))) (⟨_,CC (n0:=3) (λk=>pT (cZ t (k+1))) (oX (λ_ _ h=>h)) (hagg:=λ_=>rfl),⟨_,lQ λs' hs'=>bF [] [] [Uc 0 89 _] (.k (.k (.k (.k .z)))) (.k8 (.aU .z)) (fE 2) (.k (.k (.k (.k .z)))) (.k8 (.gS .z)),⟨_,lQ λs' hs'=>bF [] [] [] (.k (.k (.u none [(0,_)] (.k .z)))) (.k8 (.kk .z)) (Dv 11 hs') (.k (.k (.s .o (.k .z)))) (.qV (.af (.kd .z))),rfl⟩⟩⟩) λa w hI=>?_
     obtain⟨s',hs',hI⟩:=hI
     refine bk ?_
     refine ae ?_
     refine sG hI 2 [] [] [Uc 0 90 _,Uc 1 73 _] (.k (.k (.k (.k .z)))) (.af (.kk (.t 1 (.k .z)))) ⟨bn,mv,trivial⟩ (.k (.k (.k (.k .z)))) (.af (.bS (.dk .z))) λa w hI=>?_
     refine ae ?_
     have hstep:x.1+1<=aL t-2/\∀q,q<x.1+1->qB t q<qB t (q+1):=⟨by omega,λq hq=>if e:q=x.1 then by rw[e,yZ]; omega else hp.2 q (by omega)⟩
     exact nQ ((x.1+1,s')) hstep hI ⟨vA,vc,vO,F7,trivial⟩ ⟨gc,gc,gc,gc,gc,gc,gc,gC (bh (yZ t x.1).symm),trivial⟩ (by show aL t-2-(x.1+1)<aL t-2-x.1; omega)
   ·
    have yl:uS t=true:=decide_eq_true λq hq=>hp.2 q (by omega)
    have GY:D1 t=true:=decide_eq_true ⟨hok,hq.1,hl2,yl⟩
    refine cj ?_
    refine aC ?_
    refine aC ?_
    refine bf ?_
    refine ae ?_
    refine ah ?_
    refine bO hI 12 [] [] [Uc 0 91 _,Uc 1 92 _,Uc 2 93 _,Uc 3 94 _,Uc 4 95 _,Uc 5 96 _,Uc 6 97 _,Uc 7 98 _,Uc 8 99 _,Uc 9 100 _,Uc 10 101 _,Uc 11 102 _] (.k (.k (.k (.k .z)))) (.k8 (.k .z)) ⟨mv,mv,gF,mv,gF,bn,bn,Cg (dK t (aL t-1)),mz (yA (h:=0) (s:=t.extract 0 (dK t (aL t-1)))) (hφ:=JI),Ai hG (EI (m:=lK 0 (t.extract 0 (dK t (aL t-1))))) (hφ:=hsm),mv,bU,trivial⟩ (.k (.k (.k (.k .z)))) (.gE (.d8 (.d8 (.k .z)))) λa w hI=>?_
    refine jv hI (λt5=>?_) (λt5=>?_)
    ·
     have hE:eu t=102:=um GY (decide_eq_false λe=>t5 (by rw[xy hl2]; exact e))
     refine bO hI 3 [] [] [Uc 0 103 _,Uc 2 3 _] (.k (.u none [(1,pv _)] (.k (.k .z)))) (.kk .z) ⟨bd [.o .s,.o .i,.o .n] [],tW,mv,trivial⟩ (.k (.s .o (.k (.k .z)))) (.gS .z) λa w hI=>?_
     refine av ?_
     refine aj ?_
     exact fe hI rfl (vh (hq:=fF (by rw[hE]; decide))) (cm (hq:=bh hE.symm))
    ·
     have hE:eu t=0:=CE GY (decide_eq_true (by rw[<-xy hl2]; exact Decidable.not_not.1 t5))
     refine ak ?_
     refine ae ?_
     refine ju hI 3 0 [] [] [] (.k (.k (.k (.k .z)))) (.kk .z) trivial (.k (.k (.k (.k .z)))) (.kd .z) (⟨_,sw (bF [] [] [Uc 0 104 _] (.k (.k (.k (.k .z)))) (.k .z) (yJ 11) (.k (.k (.k (.k .z)))) (.dk .z)) 3 104 pJ,⟨_,bF [] [] [] (.k (.u none [(0,pv _)] (.k .z))) (.kk .z) (fj rfl rfl hs rfl rfl (bV (by kernel_rfl)) jM (by kernel_rfl)) (.k (.s .o (.k .z))) (.dd .z),⟨_,bF [] [] [Uc 0 3 _] (.k (.k (.k .z))) .z (mv) (.k (.k (.k .z))) (.k .z),rfl⟩⟩⟩) λa w hI=>?_
     refine av ?_
     exact fe hI rfl (vh (hq:=uw hE (by omega))) (cm (hq:=bh hE.symm))
end Wx
