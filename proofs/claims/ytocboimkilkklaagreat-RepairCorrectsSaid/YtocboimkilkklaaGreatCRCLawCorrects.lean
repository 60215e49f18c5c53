import Derived.Test.YtocboimkilkklaaGreatCRCRep15
namespace Wx
set_option maxRecDepth 100000
set_option maxHeartbeats 1000000
open Go Go.RowKit Go.Proofs
set_option linter.unusedVariables false
attribute [local irreducible] OpOk
def vW (D:List (Int×Int)):List Rat:=[Hr (D.getD 0 z2),Hr (D.getD 1 z2)]
theorem Aa (D:List (Int×Int)):Fits 6 true (pV aD 64 (vW D)):=jE (λ_=>lB) rfl
theorem wP (D:List (Int×Int)):Fits 6 true (pV aS 64 (vW D)):=jE (λ_=>pD) rfl
theorem zX {D:List (Int×Int)} (h:D.length=2):Fits 4 true (Vs D):=jZ (Ms pC D) (by rw[Nf,h])
theorem Mk {x:Rat} {j k:Nat} (h:j<=100000000):∀w v1 v2,pR j x w v1->pN k x w v2->Calls Tryz.prog 10 #[v1,v2] w (ew (pB true) w):=λw v1 v2 h1 h2=>ND h1.1 h rfl w v1 v2 h1.2 h2.2
theorem NR {e:Int} {b:Bool} (hk:e=0->b=true) (t:(((decide (e≠e)||!true)||!true)||(decide (e=0)&&!b))=true):False:=by
 by_cases he:e=0
 ·rw[hk he]at t; simp at t
 ·simp[he]at t
variable {L:List (List (Int×Int))}
theorem Pk (hn:L.length<=1000) (h:∀k,k<L.length->(L.getD k []).length=2/\∀q,Gt ((L.getD k []).getD q z2)):Kc L.length λi=>vW (L.getD i []) where
 len:=hn
 el:=λ_ _=>rfl
 bd i hi:=by
  have k:=(h i hi).2
  exact⟨xR (k 0).1 (k 0).2.1 (k 0).2.2,xR (k 1).1 (k 1).2.1 (k 1).2.2⟩
theorem Ck {x y:Int×Int} (h:Gt x/\Gt y/\∀k,k<L.length->(L.getD k []).length=2/\∀q,Gt ((L.getD k []).getD q z2)):K3 Tryz.prog 3 (bR 4 true L.length λk=>Vs (L.getD k [])) (O3 x) (O3 y) (pB true):=by
 intro M w0 v0 v1 v2 hM hv0 iK hv2
 have hL:=h.2.2
 refine L9 (N:=127) Tryz.func3 rfl rfl rfl hM hv0 iK hv2 λa hI=>?_
 refine bZ hI 3 [⟨4,4,some 0,none,.ptr,24,2,true,pv _,[]⟩,⟨5,5,some 1,none,.ptr,24,2,true,pv _,[]⟩] [] [Uc 2 6 _] .z (.dF .z) ⟨bo,bo,mv,trivial⟩ (.k (.k .z)) (.Cj .z) λa w hI=>?_
 refine aC ?_
 refine bZ hI 3 [] [] [Uc 0 20 _,Uc 1 21 _,Uc 2 22 _] (.k (.k .z)) (.kk .z) ⟨mv,ln,bn,trivial⟩ (.k (.k .z)) (.eT (.k .z)) λa w hI=>?_
 refine nX hI (λt1=>?_) (λt1=>?_)
 ·
  refine bZ hI 2 [] [] [Uc 0 23 _,Uc 1 6 _] (.k (.k .z)) (.k (.t 1 (.k .z))) ⟨Si tZ,mv,trivial⟩ (.k (.k .z)) (.jy (.k .z)) λa w hI=>?_
  refine aV ?_
  refine aO ?_
  exact dD hI rfl mb
 ·
  have hn:L.length<=20:=by omega
  have b0:=Pk (show L.length<=1000 by omega) hL
  refine aM ?_
  refine af ?_
  refine bZ hI 1 [⟨7,7,some 0,none,.grow (0) 6,35,3,true,pv dG,[]⟩] [] [Uc 0 7 _] (.k (.k .z)) (.dF .z) ⟨Xg (f:=λk=>pV aD 64 (vW (L.getD k []))),trivial⟩ (.k (.k (.k .z))) (.mP .z) λa w hI=>?_
  refine bZ hI 1 [⟨8,8,some 0,none,.grow (0) 6,41,3,true,pv dG,[]⟩] [] [Uc 0 8 _] (.k (.k (.k .z))) (.dF .z) ⟨Xg (f:=λk=>pV aS 64 (vW (L.getD k []))),trivial⟩ (.k (.k (.k (.k .z)))) (.aA .z) λa w hI=>?_
  refine aC ?_
  refine bZ hI 3 [] [] [Uc 0 24 _,Uc 1 25 _,Uc 2 26 _] (.k (.k (.k (.k .z)))) (.aA .z) ⟨mv,ln,mv,trivial⟩ (.k (.k (.k (.k .z)))) (.EZ (.dF .z)) λa w hI=>?_
  refine aT ?_
  refine C5 [Vz 4 4 24 2 true _,Vz 5 5 24 2 true _] [Uz 6 _,Uz 24 _,Uz 25 _] (λ(i:Nat)=>[Gz 7 7 i 6 35,Gz 8 8 i 6 41]) (λ(i:Nat)=>[Uz 26 (pI (i:Int)),Uz 7 (bR 6 true i λk=>pV aD 64 (vW (L.getD k []))),Uz 8 (bR 6 true i λk=>pV aS 64 (vW (L.getD k [])))]) (λ(i:Nat)=>i<=L.length) (λ(i:Nat)=>L.length-i) (0) (Nat.zero_le _) hI ⟨vi,vi,vG,vG,trivial⟩ ⟨gi,gi,gi,gc,gc,gc,trivial⟩ ?_
  intro i a w hp hI
  refine bZ hI 1 [] [] [Uc 0 27 _] (.k (.k (.k (.k .z)))) (.aA (.kk .z)) ⟨bn,trivial⟩ (.k (.k (.k (.k .z)))) (.aA (.dF .z)) λa w hI=>?_
  refine aC ?_
  refine nX hI (λt2=>?_) (λt2=>?_)
  ·
   have hl:=hL i (by omega)
   refine aM ?_
   refine af ?_
   refine aC ?_
   refine aT ?_
   refine bZ hI 4 [⟨10,10,some 2,none,.ptr,28,4,true,pv _,[(3,pv _)]⟩] [] [Uc 0 28 _,Uc 1 29 _] (.k (.k (.k (.k .z)))) (.aA (.dF .z)) ⟨ix,iU hs (pt rfl) (by kernel_rfl) (zX hl.1),me [.i,.i,.i,.i],pW rfl rfl hs rfl rfl (cV (by kernel_rfl)) (zX hl.1) (by kernel_rfl),trivial⟩ (.k (.k (.k (.k (.s .o .z))))) (.aA (.eT (.d .z))) λa w hI=>?_
   have hI:=JL hI 4 rfl (by kernel_rfl)
   dsimp only[List.eraseIdx]at hI
   refine VP hI [0,0,2,6,0,16,62,126,254,511,1023] 10 [⟨30,30,some 0,some 9,.grow (i) 6,35,3,true,pv dG,[]⟩,⟨39,39,some 9,none,.grow (i+1) 6,35,3,true,pv dG,[]⟩] [] [Uc 0 30 _,Uc 1 31 _,Uc 2 32 _,Uc 3 33 _,Uc 4 34 _,Uc 5 35 _,Uc 6 36 _,Uc 7 37 _,Uc 8 38 _,Uc 9 39 _] (.k (.k (.u (some 0) [] (.k .z)))) (.aA (.dF .z)) ⟨Xf,Sy 2 0 z2,iU hs (pt rfl) (by kernel_rfl) (pC _),su Ke (hφ:=hl.2 _),Sy 2 1 z2,iU hs (pt rfl) (by kernel_rfl) (pC _),su Ke (hφ:=hl.2 _),bd [.o .r,.o .r] [(0,_),(1,_)],Wj 35 6 (List.replicate 2 .r) (Aa (L.getD i [])) (h1:=(hs).imp (mc.pV (mc.c (Nat.le_refl _) (mc.c (Nat.le_refl _) mc.z)))),Wh (F:=(λD=>pV aD 64 (vW D))) L [] Aa (m:=i) (n:=1) (e:=λ_=>L.getD i []) (he:=JD),trivial⟩ (.k (.k (.d (.k (.d (.k .z)))))) (.aA (.K6 (.d8 (.k .z)))) (⟨_,Xk [⟨7,7,some 0,none,.grow (i+1) 6,35,3,true,pv dG,[]⟩] [] [Uc 0 7 _] (.k (.k (.k (.u (some 0) [] .z)))) (.aA (.dF .z)) (Ts) (.k (.k (.k (.d (.k .z))))) (.aA (.mP .z)),rfl⟩) λa w hI=>?_
   refine Xp hI [0,0,2,6,0,16,62,126,254,511,1023] 10 [⟨40,40,some 0,some 9,.grow (i) 6,41,3,true,pv dG,[]⟩,⟨49,49,some 9,none,.grow (i+1) 6,41,3,true,pv dG,[]⟩] [] [Uc 0 40 _,Uc 1 41 _,Uc 2 42 _,Uc 3 43 _,Uc 4 44 _,Uc 5 45 _,Uc 6 46 _,Uc 7 47 _,Uc 8 48 _,Uc 9 49 _] (.k (.k (.u (some 0) [] (.k .z)))) (.aA (.dF .z)) ⟨Xf,Sy 2 0 z2,iU hs (pt rfl) (by kernel_rfl) (pC _),su IL (hφ:=hl.2 _),Sy 2 1 z2,iU hs (pt rfl) (by kernel_rfl) (pC _),su IL (hφ:=hl.2 _),bd [.o .f,.o .f] [(0,_),(1,_)],Wj 41 6 (List.replicate 2 .f) (wP (L.getD i [])) (h1:=(hs).imp (mc.pV (mc.c (Nat.le_refl _) (mc.c (Nat.le_refl _) mc.z)))),Wh (F:=(λD=>pV aS 64 (vW D))) L [] wP (m:=i) (n:=1) (e:=λ_=>L.getD i []) (he:=JD),trivial⟩ (.k (.k (.d (.k (.d (.k .z)))))) (.EZ (.K6 (.d8 (.k .z)))) (⟨_,Xk [⟨8,8,some 0,none,.grow (i+1) 6,41,3,true,pv dG,[]⟩] [] [Uc 0 8 _] (.k (.k (.k (.u (some 0) [] .z)))) (.aA (.kk .z)) (Ts) (.k (.k (.k (.d (.k .z))))) (.aA (.Zk .z)),rfl⟩) λa w hI=>?_
   refine bz ?_
   refine af ?_
   refine ve hI 2 [] [] [Uc 0 50 _,Uc 1 26 _] (.k (.k (.k (.k .z)))) (.dF (.t 1 (.kk .z))) ⟨bn,mv,trivial⟩ (.k (.k (.k (.k .z)))) (.iE (.mP .z)) λa w hI=>?_
   refine af ?_
   exact AE (i+1) (by omega) hI ⟨vc,vc,vG,vG,trivial⟩ ⟨gc,gc,gc,gc,gc,gc,trivial⟩ (by omega)
  ·
   obtain rfl:i=L.length:=by omega
   refine eJ ?_
   refine aL ?_
   refine aL ?_
   refine bM ?_
   refine af ?_
   refine bZ hI 11 [⟨11,11,some 6,none,.ptr,32,3,true,pv _,[(8,pv _)]⟩,⟨12,12,some 7,none,.ptr,43,6,true,pv _,[(9,pv _)]⟩] [] [Uc 0 52 _,Uc 1 53 _,Uc 2 51 _,Uc 3 54 _,Uc 4 55 _,Uc 5 56 _,Uc 10 13 _] (.k (.k (.k (.k .z)))) (.aA (.dF .z)) ⟨mv,Dq (Fp (n:=L.length) (ms:=(λi=>vW (L.getD i [])))) (hφ:=b0),mv,ext,ext,ext,me [.r],me [.r,.r],gD,pW rfl rfl hs rfl rfl (cV (by kernel_rfl)) (jE (λ_=>lB) (by rw[xX])) (by kernel_rfl),mv,trivial⟩ (.k (.k (.d (.k (.s .o (.s .o .z)))))) (.jy (.KA (.dO (.dk .z)))) λa w hI=>?_
   refine bZ hI 11 [⟨14,14,some 6,none,.ptr,38,3,true,pv _,[(8,pv _)]⟩,⟨15,15,some 7,none,.ptr,48,6,true,pv _,[(9,pv _)]⟩] [] [Uc 0 58 _,Uc 1 59 _,Uc 2 57 _,Uc 3 60 _,Uc 4 61 _,Uc 5 62 _,Uc 10 16 _] (.k (.k (.k (.k (.k .z))))) (.dF .z) ⟨mv,Dq (Gb (n:=L.length) (ms:=(λi=>vW (L.getD i [])))) (hφ:=b0),mv,ext,ext,ext,me [.f],me [.f,.f],gD,pW rfl rfl hs rfl rfl (cV (by kernel_rfl)) (jE (λ_=>pD) (by rw[xX])) (by kernel_rfl),mv,trivial⟩ (.k (.k (.d (.k (.k (.s .o (.s .o .z))))))) (.K6 (.dO (.dk .z))) λa w hI=>?_
   refine aC ?_
   refine bZ hI 25 [] [] [Uc 0 63 _,Uc 1 64 _,Uc 2 65 _,Uc 3 66 _,Uc 4 67 _,Uc 5 68 _,Uc 6 69 _,Uc 7 70 _,Uc 8 71 _,Uc 9 72 _,Uc 10 73 _,Uc 11 74 _,Uc 12 75 _,Uc 13 76 _,Uc 14 77 _,Uc 15 78 _,Uc 16 79 _,Uc 17 80 _,Uc 18 81 _,Uc 19 82 _,Uc 20 83 _,Uc 21 84 _,Uc 22 85 _,Uc 23 86 _,Uc 24 87 _] (.k (.k (.k (.k (.k (.k .z)))))) (.dF .z) ⟨mv,mv,bn,mv,gd λh=>rj h,gd λh=>rj h,gd λh=>Qs h Mk,gd λh=>Su h,pk,mv,gd λh=>rj h,gd λh=>rj h,gd λh=>KG h (Fj (x:=(vD L.length (λi=>vW (L.getD i []))).getD 0 0) (y:=(vD L.length (λi=>vW (L.getD i []))).getD 1 0)) (c1:=jM (xY _ _) (Nat.le_refl _)) (c2:=jM (xY _ _) (Nat.le_refl _)),gd λh=>Su h,pk,mv,gd λh=>yn h,gd λh=>Ad h,gd λh=>yn h,Sq λh=>rj h,Sq λh=>rj h,Sq λh=>KG h (Rz (a1:=(vD L.length (λi=>vW (L.getD i []))).getD 0 0) (a2:=(vD L.length (λi=>vW (L.getD i []))).getD 1 0)) (c1:=jM (xY _ _) (Nat.le_refl _)),Sq λh=>Su h,gd λh=>X2 h,pk,trivial⟩ (.k (.k (.d (.d (.d (.d .z)))))) (.jy (.d8 (.d8 (.dO (.iB .z))))) λa w hI=>?_
   refine Ez hI (λt3=>?_) (λt3=>?_)
   ·exfalso; have hk:=λhe=>NQ (n:=L.length) (ms:=(λi=>vW (L.getD i []))) he rfl; generalize (decide ((vD L.length (λi=>vW (L.getD i []))).getD 0 0<=Gr L.length (λi=>vW (L.getD i [])))&&decide (Gr L.length (λi=>vW (L.getD i []))<=(vD L.length (λi=>vW (L.getD i []))).getD 1 0))=b at t3 hk; generalize wE L.length (λi=>vW (L.getD i []))=e at t3 hk; exact NR hk t3
   refine aM ?_
   refine af ?_
   refine EB hI [0,1,0,7,15,31,63,63,0,383,1023] [⟨17,17,some 8,none,.ptr,32,3,true,pv _,[(9,pv _)]⟩] [] [Uc 0 89 _,Uc 1 90 _,Uc 2 91 _,Uc 3 92 _,Uc 4 93 _,Uc 5 88 _,Uc 6 94 _,Uc 7 95 _,Uc 10 13 _] (.k (.k .z)) (.kk .z) ⟨ld,su Ke (hφ:=h.1),ld,su Ke (hφ:=h.2.1),zg K9,mv,ext,ext,me [.r],gD,mv,trivial⟩ (.k (.k (.s .o .z))) (.jy (.dO (.ya .z))) λa w hI=>?_
   refine aC ?_
   refine bZ hI 4 [] [] [Uc 0 96 _,Uc 1 97 _,Uc 2 98 _,Uc 3 99 _] (.k (.k (.k .z))) (.kk .z) ⟨ld,su IL (hφ:=h.1),su Cp,bn,trivial⟩ (.k (.k (.k .z))) (.eT (.dk .z)) λa w hI=>?_
   refine nX hI (λt4=>?_) (λt4=>?_)
   ·
    refine bZ hI 10 [] [] [Uc 0 100 _,Uc 1 101 _,Uc 2 102 _,Uc 3 103 _,Uc 4 104 _,Uc 5 105 _,Uc 6 106 _,Uc 7 107 _,Uc 8 108 _,Uc 9 6 _] (.k (.k (.k .z))) (.t 9 (.kk .z)) ⟨mv,bn,mv,gd λh=>rj h,gd λh=>Ht h GN,pk,mv,gd λh=>Qq h tZ,pk,mv,trivial⟩ (.k (.k (.k .z))) (.KA (.d8 (.k .z))) λa w hI=>?_
    refine aV ?_
    refine aO ?_
    exact dD hI rfl (mb (hq:=jK (by rw[<-(Ki t4 (y:=Hr y)).1,<-(Ki t4 (y:=Hr y)).2]; simp)))
   ·
    refine aM ?_
    refine af ?_
    refine EB hI [0,1,0,7,15,31,63,63,0,383,1023] [⟨18,18,some 8,none,.ptr,38,3,true,pv _,[(9,pv _)]⟩] [] [Uc 0 110 _,Uc 1 111 _,Uc 2 112 _,Uc 3 113 _,Uc 4 114 _,Uc 5 109 _,Uc 6 115 _,Uc 7 116 _,Uc 10 19 _] (.k (.k (.k .z))) (.dF .z) ⟨ld,su IL (hφ:=h.2.1),ld,su IL (hφ:=h.1),By MV,mv,ext,ext,me [.f],gD,mv,trivial⟩ (.d (.d (.k (.s .o .z)))) (.eT (.d8 .z)) λa w hI=>?_
    refine bZ hI 11 [] [] [Uc 0 117 _,Uc 1 118 _,Uc 2 119 _,Uc 3 120 _,Uc 4 121 _,Uc 5 122 _,Uc 6 123 _,Uc 7 124 _,Uc 8 125 _,Uc 9 126 _,Uc 10 6 _] (.k (.k .z)) (.t 10 (.k .z)) ⟨mv,bn,mv,gd λh=>rj h,gd λh=>rj h,gd λh=>Qs h (Mk (x:=Pw (Hr x) (Hr y))) (c2:=lX (Kh t4).1 (Nat.le_refl _)),pk,mv,gd λh=>Qq h tZ,pk,mv,trivial⟩ (.d (.d .z)) (.d8 (.dO (.k .z))) λa w hI=>?_
    refine aV ?_
    exact dD hI rfl (mb (hq:=jK (by rw[<-(Kh t4 (y:=Hr y)).2]; simp)))
end Wx
