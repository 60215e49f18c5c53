import Derived.Test.YtadigiledciihaaGreatJRB46
namespace Wx
set_option maxRecDepth 100000
set_option maxHeartbeats 1000000
open Go Go.RowKit Go.Proofs
set_option linter.unusedVariables false
attribute [local irreducible] OpOk
def qu (D:List (Int×Int)):List Rat:=[LO (D.getD 0 z2),LO (D.getD 1 z2),LO (D.getD 2 z2)]
theorem yu (D:List (Int×Int)):Fits 9 true (pV bg 64 (qu D)):=ej (λ_=>eO) rfl
theorem uM (D:List (Int×Int)):Fits 9 true (pV bW 64 (qu D)):=ej (λ_=>nU) rfl
theorem yw {D:List (Int×Int)} (h:D.length=3):Fits 6 true (Qi D):=lz (J9 jZ D) (by rw[KW,h])
theorem G4 {L:List (List (Int×Int))} {i:Nat}:∀k,k<1->(λ_:Nat=>L.getD i []) k=L.getD (i+k) []:=λk hk=>by rw[show k=0 by omega]; rfl
section
variable {α:Type} {F:α->Pred} {l:List α} {P:Program} {ops:Array Oper} {ms:List Nat} {c:dg} {V:List Vr} {A:List Al} {G:List aX} {i d:Nat} {x y:Operand} {ty:TypeId} {pos:String} {aI:Array Edge}
theorem Nn {T:TypeId} {sz N:Nat} (n q:Nat) (d0:α) (h:Has ms G i x (dP N true (pG sz F l)):=by exact hs) (Kn:l.length=n:=by omega) (hy:Has ms G i y (pI (q:Int)):=by exact(Wx.hs).imp (dD (by omega))) (hq:q<n:=by omega) (hp:Post G i (dP sz true (F (l.getD q d0))):=by exact pt rfl) (hsz:N=n*sz:=by exact rfl) (ht:Lj P T n sz=true:=by kernel_rfl) (hA:(A.all λq=>q.tag != some i)=true:=by kernel_rfl):
  OpOk P ops ms c V A G i ⟨some d,.indexAddr T x y,ty,pos,aI,none⟩:=
 hI' (l:=l) (o:=0) n q d0 (h:=by rw[show(l.drop 0).take n=l from List.take_of_length_le (Nat.le_of_eq Kn)]; exact h) (hy:=hy) (hq:=hq) (hl:=by omega) (hp:=by rw[Nat.zero_add]; exact hp) (hsz:=hsz) (ht:=ht) (hA:=hA)
end
theorem FV {L:List (List (Int×Int))} (h:L.length<=1000000/\∀k,k<L.length->(L.getD k []).length=3/\∀q,Fh ((L.getD k []).getD q z2)):K1 Tryz.prog 20 (bk 6 true L.length λk=>Qi (L.getD k [])) (ew (bk 9 true L.length λk=>pV bg 64 (qu (L.getD k []))) (bk 9 true L.length λk=>pV bW 64 (qu (L.getD k [])))):=by
 intro M w0 v0 hM hv0
 refine xA (N:=43) Tryz.func20 rfl rfl rfl hM hv0 λa hI=>?_
 refine cK hI 2 [Uc 0 2 _,Uc 1 3 _] (.k .z) ⟨mv,mv,trivial⟩ (.eH .z) λa w hI=>?_
 refine bN hI 1 [⟨4,4,some 0,none,.grow (0) 9,56,3,true,pv dZ,[]⟩] [] [Uc 0 4 _] .z (.eH .z) ⟨Uo (f:=λk=>pV bg 64 (qu (L.getD k []))),trivial⟩ (.k .z) (.aB .z) λa w hI=>?_
 refine bN hI 1 [⟨5,5,some 0,none,.grow (0) 9,63,3,true,pv dZ,[]⟩] [] [Uc 0 5 _] (.k .z) (.aB .z) ⟨Uo (f:=λk=>pV bW 64 (qu (L.getD k []))),trivial⟩ (.k (.k .z)) (.aB (.k .z)) λa w hI=>?_
 refine ax ?_
 refine bN hI 3 [] [] [Uc 0 8 _,Uc 1 9 _,Uc 2 10 _] (.k (.k .z)) (.aB (.k .z)) ⟨mv,ln,mv,trivial⟩ (.k (.k .z)) (.Df (.aB .z)) λa w hI=>?_
 refine aN ?_
 refine BF [] [Uz 2 _,Uz 3 _,Uz 8 _,Uz 9 _] (λ(i:Nat)=>[Gz 4 4 i 9 56,Gz 5 5 i 9 63]) (λ(i:Nat)=>[Uz 10 (pI (i:Int)),Uz 4 (bk 9 true i λk=>pV bg 64 (qu (L.getD k []))),Uz 5 (bk 9 true i λk=>pV bW 64 (qu (L.getD k [])))]) (λ(i:Nat)=>i<=L.length) (λ(i:Nat)=>L.length-i) (0) (Nat.zero_le _) hI ⟨vG,vG,trivial⟩ ⟨gi,gi,gi,gi,gc,gc,gc,trivial⟩ ?_
 intro i a w hp hI
 refine bN hI 1 [] [] [Uc 0 11 _] (.k (.k .z)) (.aB (.eH .z)) ⟨bn,trivial⟩ (.k (.k .z)) (.k8 .z) λa w hI=>?_
 refine ax ?_
 refine mJ hI (λt1=>?_) (λt1=>?_)
 ·
  have hl:=h.2 i (by omega)
  refine aF ?_
  refine ai ?_
  refine ax ?_
  refine aN ?_
  refine bN hI 4 [⟨7,7,some 2,none,.ptr,87,6,true,pv _,[(3,pv _)]⟩] [] [Uc 0 12 _,Uc 1 13 _] (.k (.k .z)) (.k8 .z) ⟨ix,fH hs (pt rfl) (by kernel_rfl) (yw hl.1),qw [.i,.i,.i,.i,.i,.i],iQ rfl rfl hs rfl rfl (bO (by kernel_rfl)) (yw hl.1) (by kernel_rfl),trivial⟩ (.k (.k (.s .o .z))) (.aB (.fE (.dd .z))) λa w hI=>?_
  have hI:=Hg hI 2 rfl (by kernel_rfl)
  dsimp only[List.eraseIdx]at hI
  refine Ta hI [0,0,2,6,0,16,62,0,128,510,1022,2046,4095,8191] 13 [⟨14,14,some 0,some 12,.grow (i) 9,56,3,true,pv dZ,[]⟩,⟨26,26,some 12,none,.grow (i+1) 9,56,3,true,pv dZ,[]⟩] [] [Uc 0 14 _,Uc 1 15 _,Uc 2 16 _,Uc 3 17 _,Uc 4 18 _,Uc 5 19 _,Uc 6 20 _,Uc 7 21 _,Uc 8 22 _,Uc 9 23 _,Uc 10 24 _,Uc 11 25 _,Uc 12 26 _] (.u (some 0) [] (.k .z)) (.k8 .z) ⟨Un,Nn 3 0 z2,fH hs (pt rfl) (by kernel_rfl) (jZ _),wq Lg (hφ:=hl.2 _),Nn 3 1 z2,fH hs (pt rfl) (by kernel_rfl) (jZ _),wq Lg (hφ:=hl.2 _),Nn 3 2 z2,fH hs (pt rfl) (by kernel_rfl) (jZ _),wq Lg (hφ:=hl.2 _),bd [.o .r,.o .r,.o .r] [(0,_),(1,_),(2,_)],Tw 56 9 (List.replicate 3 .r) (yu (L.getD i [])) (h1:=(hs).imp (dW.pV (dW.c (Nat.le_refl _) (dW.c (Nat.le_refl _) (dW.c (Nat.le_refl _) dW.z))))),Tv (F:=(λD=>pV bg 64 (qu D))) L [] yu (m:=i) (n:=1) (e:=λ_=>L.getD i []) (he:=G4),trivial⟩ (.d (.k (.d (.k .z)))) (.aB (.qL (.d8 (.cU (.k .z))))) (⟨_,Uq [⟨4,4,some 0,none,.grow (i+1) 9,56,3,true,pv dZ,[]⟩] [] [Uc 0 4 _] (.k (.u (some 0) [] .z)) (.k8 .z) (QN) (.k (.d (.k .z))) (.aB (.fE (.k .z))),rfl⟩) λa w hI=>?_
  refine Ux hI [0,0,2,6,0,16,62,0,128,510,1022,2046,4095,8191] 13 [⟨27,27,some 0,some 12,.grow (i) 9,63,3,true,pv dZ,[]⟩,⟨39,39,some 12,none,.grow (i+1) 9,63,3,true,pv dZ,[]⟩] [] [Uc 0 27 _,Uc 1 28 _,Uc 2 29 _,Uc 3 30 _,Uc 4 31 _,Uc 5 32 _,Uc 6 33 _,Uc 7 34 _,Uc 8 35 _,Uc 9 36 _,Uc 10 37 _,Uc 11 38 _,Uc 12 39 _] (.u (some 0) [] (.k .z)) (.k8 .z) ⟨Un,Nn 3 0 z2,fH hs (pt rfl) (by kernel_rfl) (jZ _),wq My (hφ:=hl.2 _),Nn 3 1 z2,fH hs (pt rfl) (by kernel_rfl) (jZ _),wq My (hφ:=hl.2 _),Nn 3 2 z2,fH hs (pt rfl) (by kernel_rfl) (jZ _),wq My (hφ:=hl.2 _),bd [.o .f,.o .f,.o .f] [(0,_),(1,_),(2,_)],Tw 63 9 (List.replicate 3 .f) (uM (L.getD i [])) (h1:=(hs).imp (dW.pV (dW.c (Nat.le_refl _) (dW.c (Nat.le_refl _) (dW.c (Nat.le_refl _) dW.z))))),Tv (F:=(λD=>pV bW 64 (qu D))) L [] uM (m:=i) (n:=1) (e:=λ_=>L.getD i []) (he:=G4),trivial⟩ (.d (.k (.d (.k .z)))) (.Df (.qL (.d8 (.cU (.k .z))))) (⟨_,Uq [⟨5,5,some 0,none,.grow (i+1) 9,63,3,true,pv dZ,[]⟩] [] [Uc 0 5 _] (.k (.u (some 0) [] .z)) (.aB (.eH .z)) (QN) (.k (.d (.k .z))) (.aB (.qL .z)),rfl⟩) λa w hI=>?_
  refine bK ?_
  refine ai ?_
  refine BH hI 2 [] [] [Uc 0 40 _,Uc 1 10 _] (.k (.k .z)) (.aB (.t 1 (.kk .z))) ⟨bn,mv,trivial⟩ (.k (.k .z)) (.aB (.Ir (.k .z))) λa w hI=>?_
  refine ai ?_
  exact AO (i+1) (by omega) hI ⟨vG,vG,trivial⟩ ⟨gc,gc,gc,gc,gc,gc,gc,trivial⟩ (by omega)
 ·
  obtain rfl:i=L.length:=by omega
  refine dJ ?_
  refine aM ?_
  refine aM ?_
  refine bI ?_
  refine ai ?_
  refine bN hI 4 [] [] [Uc 0 41 _,Uc 1 42 _,Uc 2 2 _,Uc 3 3 _] (.k (.k .z)) (.t 2 (.t 3 (.aB (.kk .z)))) ⟨mv,mv,mv,mv,trivial⟩ (.d (.d .z)) (.d8 (.ua .z)) λa w hI=>?_
  refine aP ?_
  exact mI hI rfl jP jP
end Wx

namespace Wx
open Go Go.RowKit Go.Proofs
set_option linter.unusedVariables false
section
theorem GZ {q:Rat}:0<=iI q↔0<=q:=by
 rw[JJ]
 unfold Lx
 by_cases h:q<0
 ·rw[if_pos h]
  exact⟨λhh=>absurd hh (by decide),λhh=>absurd (Rat.not_lt.2 hh) (λk=>k h)⟩
 ·rw[if_neg h]
  refine⟨λ_=>Rat.not_lt.1 h,λ_=>?_⟩
  by_cases e:q=0
  ·rw[if_pos e]; decide
  ·rw[if_neg e]; decide
theorem pU (ms:Nat->List Rat) (k:Nat):(aO ms (k+1)).getD 0 0=(aO ms k).getD 0 0+(ms k).getD 0 0/\(aO ms (k+1)).getD 1 0=(aO ms k).getD 1 0+(ms k).getD 0 0*(ms k).getD 1 0/\(aO ms (k+1)).getD 2 0=(aO ms k).getD 2 0+(ms k).getD 0 0*(ms k).getD 2 0:=⟨rfl,rfl,rfl⟩
theorem tP (ms:Nat->List Rat) (k:Nat):∀m,(aO ms (k+m)).getD 0 0=(aO ms k).getD 0 0+(aO (λi=>ms (k+i)) m).getD 0 0/\(aO ms (k+m)).getD 1 0=(aO ms k).getD 1 0+(aO (λi=>ms (k+i)) m).getD 1 0/\(aO ms (k+m)).getD 2 0=(aO ms k).getD 2 0+(aO (λi=>ms (k+i)) m).getD 2 0
 |0=>⟨(Rat.add_zero _).symm,(Rat.add_zero _).symm,(Rat.add_zero _).symm⟩
 |m+1=>by
  obtain⟨h0,h1,h2⟩:=tP ms k m
  obtain⟨a0,a1,a2⟩:=pU ms (k+m)
  obtain⟨b0,b1,b2⟩:=pU (λi=>ms (k+i)) m
  rw[<-Nat.add_assoc,a0,a1,a2,b0,b1,b2,h0,h1,h2]
  exact⟨Rat.add_assoc _ _ _,Rat.add_assoc _ _ _,Rat.add_assoc _ _ _⟩
theorem xu {ms:Nat->List Rat} {n j:Nat} (hj:1<=j) (h:∀i,i<n->∀q,q<3->cN j ((ms i).getD q 0)):∀k,k<=n->∀q,q<3->cN ((j+j+1)*k+1) ((aO ms k).getD q 0)
 |0,_,q,hq=>by
  rw[show(aO ms 0).getD q 0=0 by match q,hq with|0,_=>rfl|1,_=>rfl|2,_=>rfl]
  exact qV.mono (by omega)
 |k+1,hk,q,hq=>by
  have ih:=xu hj h k (by omega)
  have e:(j+j+1)*(k+1)=(j+j+1)*k+(j+j+1):=Nat.mul_succ _ _
  have m0:=h k (by omega)
  match q,hq with
  |0,_=>exact((ih 0 (by decide)).EP (m0 0 (by decide))).mono (by omega)
  |1,_=>exact((ih 1 (by decide)).EP ((m0 0 (by decide)).mul (m0 1 (by decide)))).mono (by omega)
  |2,_=>exact((ih 2 (by decide)).EP ((m0 0 (by decide)).mul (m0 2 (by decide)))).mono (by omega)
variable {n:Nat} {ms:Nat->List Rat}
theorem pc (h:ia n ms=0):(∀i,i<n->0<=(ms i).getD 0 0)/\(aO ms n).getD 0 0≠0:=by
 unfold ia at h
 by_cases h1:(decide ((n:Int)<1)||decide ((n:Int)>64))=true
 ·rw[if_pos h1]at h; exact absurd h (by decide)
 rw[if_neg h1]at h
 by_cases h2:∀i,i<n->0<=iI ((ms i).getD 0 0)
 ·rw[if_pos h2]at h
  refine⟨λi hi=>GZ.1 (h2 i hi),λh3=>?_⟩
  rw[if_pos h3]at h
  exact absurd h (by decide)
 ·rw[if_neg h2]at h; exact absurd h (by decide)
theorem nN (h:ia n ms=0):fA n ms=[(aO ms n).getD 0 0,(aO ms n).getD 1 0/(aO ms n).getD 0 0,(aO ms n).getD 2 0/(aO ms n).getD 0 0]:=(wg h).symm
theorem bD (n:Nat) (ms:Nat->List Rat):(fA n ms).length=3:=by unfold fA; split<;>rfl
variable {j:Nat}
theorem BU (hj:1<=j) (h:∀i,i<n->∀q,q<3->cN j ((ms i).getD q 0)) {J:Nat} (hJ:((j+j+1)*n+1)+((j+j+1)*n+1)<=J):∀q,q<3->cN J ((fA n ms).getD q 0):=λq hq=>by
 have hb:=xu hj h n (Nat.le_refl _)
 unfold fA
 split
 ·match q,hq with
  |0,_=>exact(hb 0 (by decide)).mono (by omega)
  |1,_=>exact((hb 1 (by decide)).quo (hb 0 (by decide))).mono (by omega)
  |2,_=>exact((hb 2 (by decide)).quo (hb 0 (by decide))).mono (by omega)
 ·match q,hq with
  |0,_=>exact qV.mono (by omega)
  |1,_=>exact qV.mono (by omega)
  |2,_=>exact qV.mono (by omega)
theorem xw {ms:Nat->List Rat} {n:Nat} (h:∀i,i<n->0<=(ms i).getD 0 0):∀k,k<=n->0<=(aO ms k).getD 0 0
 |0,_=>Rat.le_refl
 |k+1,hk=>by
  rw[(pU ms k).1]
  exact Rat.add_nonneg (xw h k (by omega)) (h k (by omega))
def Ep (v u:List Rat) (i:Nat):List Rat:=if i=0 then v else u
theorem nQ {a b:Rat} (h:a≠0):a*(b/a)=b:=by
 rw[Rat.div_def,Rat.mul_comm b,<-Rat.mul_assoc,Rat.mul_inv_cancel _ h,Rat.one_mul]
theorem ES {k:Nat} (hk:k<=n) (e:ia n ms=0) (g:ia k ms=0) (h:ia (n-k) (λi=>ms (k+i))=0):
  ia 2 (Ep (fA (n-k) λi=>ms (k+i)) (fA k ms))=0/\fA 2 (Ep (fA (n-k) λi=>ms (k+i)) (fA k ms))=fA n ms:=by
 obtain⟨m,rfl⟩:∃m,n=k+m:=⟨n-k,by omega⟩
 rw[show k+m-k=m by omega]at *
 obtain⟨e1,e2⟩:=pc e
 obtain⟨g1,g2⟩:=pc g
 obtain⟨h1,h2⟩:=pc h
 obtain⟨s0,s1,s2⟩:=tP ms k m
 have a:=nN g
 have b:=nN h
 have n1:=xw g1 k (Nat.le_refl _)
 have n2:=xw h1 m (Nat.le_refl _)
 have f:=nN e
 generalize hT:Ep (fA m λi=>ms (k+i)) (fA k ms)=T
 have t0:T 0=fA m λi=>ms (k+i):=by rw[<-hT]; rfl
 have t1:T 1=fA k ms:=by rw[<-hT]; rfl
 have w0:(aO T 2).getD 0 0=(aO ms (k+m)).getD 0 0:=by
  rw[s0]
  show 0+(T 0).getD 0 0+(T 1).getD 0 0=_
  rw[t0,t1,a,b,Rat.zero_add,Rat.add_comm]
  rfl
 have w1:(aO T 2).getD 1 0=(aO ms (k+m)).getD 1 0:=by
  rw[s1]
  show 0+(T 0).getD 0 0*(T 0).getD 1 0+(T 1).getD 0 0*(T 1).getD 1 0=_
  rw[t0,t1,a,b,Rat.zero_add,Rat.add_comm]
  show(aO ms k).getD 0 0*((aO ms k).getD 1 0/(aO ms k).getD 0 0)+(aO (λi=>ms (k+i)) m).getD 0 0*(_/_)=_
  rw[nQ g2,nQ h2]
 have w2:(aO T 2).getD 2 0=(aO ms (k+m)).getD 2 0:=by
  rw[s2]
  show 0+(T 0).getD 0 0*(T 0).getD 2 0+(T 1).getD 0 0*(T 1).getD 2 0=_
  rw[t0,t1,a,b,Rat.zero_add,Rat.add_comm]
  show(aO ms k).getD 0 0*((aO ms k).getD 2 0/(aO ms k).getD 0 0)+(aO (λi=>ms (k+i)) m).getD 0 0*(_/_)=_
  rw[nQ g2,nQ h2]
 have eT:ia 2 T=0:=ER (by decide) (λi hi=>GZ.2 (by
  match i,hi with
  |0,_=>rw[t0,b]; exact n2
  |1,_=>rw[t1,a]; exact n1)) (by rw[w0]; exact e2)
 exact⟨eT,by rw[nN eT,f,w0,w1,w2]⟩
theorem we {J:Nat} (hn:n<=1000) (hj:1<=j/\j<=1000000) (hJ:J<=1000000) (hl:∀i,i<n->(ms i).length=3) (hb:∀i,i<n->∀q,q<3->cN j ((ms i).getD q 0)) (V5:n<=64->(j+j+1)*n+1<=J) (h1:1<=J):rC n j J ms where
 len:=hn
 bits:=⟨h1,hJ,hj.2⟩
 el:=hl
 bd Ve k q hk hq:=(xu hj.1 hb k hk q hq).mono (Nat.le_trans (Nat.add_le_add_right (Nat.mul_le_mul_left _ hk) 1) (V5 Ve))
end
end Wx

namespace Wx
open Go Go.RowKit
section
variable {P:Program} {c:dg} {V:List Vr} {A:List Al} {G:List aX} {a:Act} {w:World} {o:Oper}{d:Nat} {x:Operand} {ty:TypeId} {pos:String} {aI:Array Edge}{fn:Func}
end
end Wx
