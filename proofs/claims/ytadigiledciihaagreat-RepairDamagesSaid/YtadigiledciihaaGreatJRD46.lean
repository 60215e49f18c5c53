import Derived.Test.YtadigiledciihaaGreatJRD45
namespace Wx
set_option maxRecDepth 100000
set_option maxHeartbeats 1000000
open Go Go.RowKit Go.Proofs
set_option linter.unusedVariables false
attribute [local irreducible] OpOk
def jC (K L:List Pt) (i:Nat):List Pt:=if i=0 then K else L
def mc (K L:List Pt):Nat->List Pt
 |0=>[]
 |1=>K
 |_=>K++L
variable {K L:List Pt} {k:Nat}
theorem wq (h:k<2):(mc K L (k+1)).length=(mc K L k).length+(jC K L k).length:=by
 match k,h with
 |0,_=>show K.length=0+K.length; omega
 |1,_=>show(K++L).length=K.length+L.length; rw[List.length_append]
theorem AA (h:k<=2):(mc K L k).length<=K.length+L.length:=by
 match k,h with
 |0,_=>exact Nat.zero_le _
 |1,_=>exact Nat.le_add_right _ _
 |2,_=>show(K++L).length<=_; rw[List.length_append]; exact Nat.le_refl _
theorem JL (h:k<2):∀i w v,(if i<(mc K L k).length then dS (aq (K++L) i)else dS (aq (jC K L k) (i-(mc K L k).length))) w v->i<(mc K L k).length+(jC K L k).length->dS (aq (K++L) i) w v:=λi w v hp hi=>by
 by_cases h1:i<(mc K L k).length
 ·rw[if_pos h1]at hp; exact hp
 ·rw[if_neg h1]at hp
  have e:aq (K++L) i=aq (jC K L k) (i-(mc K L k).length):=by
   unfold aq
   match k,h with
   |0,_=>
    have hi:i<0+K.length:=hi
    show(K++L).getD i (0,0)=K.getD (i-0) (0,0)
    rw[List.getD_eq_getElem?_getD,List.getD_eq_getElem?_getD,List.getElem?_append_left (by omega),Nat.sub_zero]
   |1,_=>
    have h1:¬i<K.length:=h1
    show(K++L).getD i (0,0)=L.getD (i-K.length) (0,0)
    rw[List.getD_eq_getElem?_getD,List.getD_eq_getElem?_getD,List.getElem?_append_right (by omega)]
  rw[e]
  exact hp
theorem Er (h:0<K.length/\K.length<=400/\0<L.length/\L.length<=400):K1 Tryz.prog 36 (ck 1 false 2 λi=>gB (jC K L i)) (ck 2 true (K++L).length λi=>dS (aq (K++L) i)):=by
 intro M w0 v0 hM hv0
 have hT:∀k,0<(jC K L k).length/\(jC K L k).length<=400:=λk=>by unfold jC; split<;>omega
 refine vK (N:=36) Tryz.func36 rfl rfl rfl hM hv0 λa hI=>?_
 refine bu hI 1 [Uc 0 2 _] (.k .z) ⟨mv,trivial⟩ (.kk .z) λa w hI=>?_
 refine bu hI 1 [Uc 0 3 _] (.kk .z) ⟨mv,trivial⟩ (.dQ .z) λa w hI=>?_
 refine ay ?_
 refine bu hI 3 [Uc 0 9 _,Uc 1 10 _,Uc 2 11 _] (.dQ .z) ⟨mv,ln,mv,trivial⟩ (.aB (.kk .z)) λa w hI=>?_
 refine aI ?_
 refine yz [] [Uz 0 _,Uz 2 _,Uz 9 _,Uz 10 _] (λ(i:Nat)=>[]) (λ(i:Nat)=>[Uz 11 (pI (i:Int)),Uz 3 (pI ((mc K L i).length:Int))]) (λ(i:Nat)=>i<=2) (λ(i:Nat)=>2-i) (0) (Nat.zero_le 2) hI trivial ⟨gi,gi,gi,gi,gc,gc,trivial⟩ ?_
 intro i a w hi hI
 refine bu hI 1 [Uc 0 12 _] (.aB (.kk .z)) ⟨bn,trivial⟩ (.aB (.dQ .z)) λa w hI=>?_
 refine ay ?_
 refine lN hI (λt1=>?_) (λt1=>?_)
 ·
  refine aD ?_
  refine ah ?_
  refine ay ?_
  refine aI ?_
  refine bu hI 3 [Uc 0 13 _,Uc 1 14 _,Uc 2 5 _] (.aB (.dQ .z)) ⟨ix,ld,mv,trivial⟩ (.aB (.eO (.dk .z))) λa w hI=>?_
  have qM:=wq (K:=K) (L:=L) (show i<2 by omega)
  have hcm:=AA (K:=K) (L:=L) (show i<=2 by omega)
  have hT1:=hT i
  refine bu hI 5 [Uc 0 15 _,Uc 1 16 _,Uc 2 17 _,Uc 3 18 _,Uc 4 3 _] (.aB (.k (.t 4 (.k .z)))) ⟨mv,mv,ln,bn,mv,trivial⟩ (.aB (.iv (.ig .z))) λa w hI=>?_
  refine bu hI 2 [Uc 0 19 _,Uc 1 20 _] (.aB (.kk .z)) ⟨mv,bn,trivial⟩ (.aB (.mY .z)) λa w hI=>?_
  refine lN hI (λt2=>?_) (λt2=>?_)
  ·exfalso; omega
  refine aD ?_
  refine bw ?_
  refine ah ?_
  refine ym hI 2 [Uc 0 22 _,Uc 1 11 _] (.aB (.t 1 (.kk .z))) ⟨bn,mv,trivial⟩ (.aB (.LU (.k .z))) λa w hI=>?_
  refine ah ?_
  exact yy (i+1) (by omega) hI trivial ⟨gc,gc,gc,gc,gc,gc,trivial⟩ (by omega)
 ·
  refine cL ?_
  refine aG ?_
  refine aG ?_
  refine bq ?_
  refine ah ?_
  obtain rfl:i=2:=by omega
  have hc0:0<(mc K L 2).length:=by show 0<(K++L).length; rw[List.length_append]; omega
  have pn:(mc K L 2).length<=1000000:=by show(K++L).length<=_; rw[List.length_append]; omega
  refine yl hI 3 1 [] [] [Uc 0 23 _] .z (.aB (.dQ .z)) ⟨mv,trivial⟩ .z (.eO (.ig .z)) (OM (λw=>KC (n:=(mc K L 2).length) ⟨hc0,pn⟩ (λi=>dS (aq (K++L) i)) w) (λ_=>eH _)) λa w hI=>?_
  obtain⟨SV,S0,Tx,hI⟩:=hI
  refine ay ?_
  refine bZ hI 3 [] [] [Uc 0 25 _,Uc 1 26 _,Uc 2 27 _] (.k .z) (.aB .z) ⟨mv,ln,mv,trivial⟩ (.k .z) (.QF (.dQ .z)) λa w hI=>?_
  refine aI ?_
  refine yz [] [Uz 2 _,Uz 25 _,Uz 26 _] (λ(k:Nat×Option Addr×Nat)=>[(kA 24 2 (mc K L k.1).length true 26 (λi=>dS (aq (K++L) i)) (.slice k.2.1 (mc K L k.1).length k.2.2))]) (λ(k:Nat×Option Addr×Nat)=>[Uz 27 (pI (k.1:Int)),Uz 6 (bK (.slice k.2.1 (mc K L k.1).length k.2.2))]) (λ(k:Nat×Option Addr×Nat)=>k.1<=2) (λ(k:Nat×Option Addr×Nat)=>2-k.1) ((0,some ⟨SV,0,none⟩,S0)) (Nat.zero_le 2) hI ⟨Lx,trivial⟩ ⟨gi,gi,gi,gc,gc,trivial⟩ ?_
  intro k a w hk hI
  refine bZ hI 1 [] [] [Uc 0 28 _] (.k .z) (.aB (.k .z)) ⟨bn,trivial⟩ (.k .z) (.aB (.kk .z)) λa w hI=>?_
  refine ay ?_
  refine lN hI (λt3=>?_) (λt3=>?_)
  ·
   refine aD ?_
   refine ah ?_
   refine ay ?_
   refine aI ?_
   refine bZ hI 3 [] [] [Uc 0 29 _,Uc 1 30 _,Uc 2 8 _] (.k .z) (.aB (.kk .z)) ⟨ix,ld,mv,trivial⟩ (.k .z) (.aB (.iv (.k .z))) λa w hI=>?_
   have hk2:k.1<2:=by omega
   have qM:=wq (K:=K) (L:=L) hk2
   have hcm:=AA (K:=K) (L:=L) (show k.1<=2 by omega)
   obtain⟨Mk,hT3⟩:=hT k.1
   refine Oh hI 4 2 [] [] [Uc 0 31 _,Uc 1 32 _] (.k .z) (.aB (.kk .z)) ⟨mv,mv,trivial⟩ (.k .z) (.aB (.sD .z)) (Ir (n0:=0) (λi=>dS (aq (K++L) i)) (JL hk2) Mk (hnf:=λ_=>eH _) (hng:=λ_=>eH _) (hfit:=λ_=>jk _)) λa w hI=>?_
   obtain⟨s',hI⟩:=hI
   dsimp only[List.set]at hI
   obtain⟨X',cap',rfl,hcap⟩:=wS hI 0 rfl
   rw[<-qM]at hI
   refine bw ?_
   refine ah ?_
   refine Dg hI 2 [] [] [Uc 0 34 _,Uc 1 27 _] (.k .z) (.aB (.t 1 (.kk .z))) ⟨bn,mv,trivial⟩ (.k .z) (.aB (.dH (.k .z))) λa w hI=>?_
   refine ah ?_
   exact yy ((k.1+1,X',cap')) (by(show k.1+1<=2); omega) hI ⟨Lx,trivial⟩ ⟨gc,gc,gc,gc,gc,trivial⟩ (by(show 2-(k.1+1)<2-k.1); omega)
  ·
   refine cL ?_
   refine aG ?_
   refine aG ?_
   refine bq ?_
   refine ah ?_
   obtain⟨k,X,cap⟩:=k
   obtain rfl:k=2:=by(have hk':k<=2:=hk); omega
   dsimp only at hI
   have hI:=Fi hI 0 6 rfl (by kernel_rfl)
   dsimp only[List.eraseIdx]at hI
   refine bu hI 2 [Uc 0 35 _,Uc 1 2 _] (.k (.t 1 (.aB (.k .z)))) ⟨mv,mv,trivial⟩ (.d8 (.k .z)) λa w hI=>?_
   refine aM ?_
   exact cN hI rfl iE
noncomputable def qQ (L:List Pt):List Pt:=kD (sL L) (rL L) L.length
theorem GO (h:ua L):K1 Tryz.prog 35 (gB L) (gB (qQ L)):=by
 have k:=KD h
 rw[<-Cj]at k
 exact k
structure Aj (K L:List Pt) (k l:Int):Prop where
 one:fE K k=0
 two:fE L l=0
 Qs:ua (K++L)
 S8:(qQ (K++L)).length<=10
theorem GL {k l:Int} (h:Aj K L k l):K2 Tryz.prog 15 (lM K k) (lM L l) (gC (lM (qQ (K++L)) (iy k l)) (pI 0)):=by
 intro M w0 v0 v1 hM hv0 jP
 have hK:=lE (dO h.one)
 have hL:=lE (dO h.two)
 have hf:=h.S8
 have hE:∀i,fE (jC K L i) (if i=0 then k else l)=0:=λi=>by by_cases e:i=0<;>simp only[jC,e,if_true,if_false]; exact h.one; exact h.two
 have hT:∀i,(jC K L i).length<=1000:=λi=>by unfold jC; split<;>omega
 refine vL (N:=43) Tryz.func15 rfl rfl rfl hM hv0 jP λa hI=>?_
 refine bZ hI 4 [⟨4,4,some 2,none,.ptr,24,2,true,pv _,[]⟩] [] [Uc 0 2 _,Uc 1 3 _,Uc 3 5 _] .z (.kk .z) ⟨Dj 2 true (hf:=eF _ _),Dj 2 true (hf:=eF _ _),xy [.n,.i],mv,trivial⟩ (.k .z) (.sD (.k .z)) λa w hI=>?_
 refine ay ?_
 refine bZ hI 5 [] [] [Uc 0 10 _,Uc 1 11 _,Uc 2 12 _,Uc 3 13 _,Uc 4 14 _] (.k .z) (.dQ .z) ⟨ld,ld,NU (zv:=.agg #[.slice none 0 0,.int .i64 0]) 24 [.slice none 0 0,.int .i64 0] (λi=>lM (jC K L i) (if i=0 then k else l)) (eF K k) (eF L l),ln,mv,trivial⟩ (.k .z) (.iw (.JU .z)) λa w hI=>?_
 refine aI ?_
 refine yz [Vz 4 4 24 2 true _] [Uz 2 _,Uz 3 _,Uz 12 _,Uz 13 _] (λ(i:Nat)=>[]) (λ(i:Nat)=>[Uz 14 (pI (i:Int))]) (λ(i:Nat)=>i<=2) (λ(i:Nat)=>2-i) (0) (Nat.zero_le 2) hI ⟨vi,trivial⟩ ⟨gi,gi,gi,gi,gc,trivial⟩ ?_
 intro i a w hi hI
 refine bZ hI 1 [] [] [Uc 0 15 _] (.k .z) (.aB (.k .z)) ⟨bn,trivial⟩ (.k .z) (.aB (.kk .z)) λa w hI=>?_
 refine ay ?_
 refine lN hI (λt1=>?_) (λt1=>?_)
 ·
  refine aD ?_
  refine ah ?_
  refine ay ?_
  refine aI ?_
  refine bZ hI 4 [⟨7,7,some 2,none,.ptr,24,2,true,pv _,[(3,pv _)]⟩] [] [Uc 0 16 _,Uc 1 17 _] (.k .z) (.aB (.kk .z)) ⟨ix,ld,xy [.n,.i],pz,trivial⟩ (.k (.s .o .z)) (.aB (.iv .z)) λa w hI=>?_
  refine bZ hI 3 [] [] [Uc 0 18 _,Uc 1 19 _,Uc 2 8 _] (.k (.k .z)) (.aB (.k .z)) ⟨ld,BU eW (hφ:=hT i),mv,trivial⟩ (.k (.d .z)) (.aB (.uN .z)) λa w hI=>?_
  refine bZ hI 2 [] [] [Uc 0 20 _,Uc 1 21 _] (.k .z) (.aB (.kk .z)) ⟨mv,bn,trivial⟩ (.k .z) (.aB (.mY .z)) λa w hI=>?_
  refine lN hI (λt2=>?_) (λt2=>?_)
  ·exfalso; exact t2 (hE i)
  refine aD ?_
  refine bw ?_
  refine ah ?_
  refine Dg hI 2 [] [] [Uc 0 24 _,Uc 1 14 _] (.k .z) (.aB (.t 1 (.kk .z))) ⟨bn,mv,trivial⟩ (.k .z) (.aB (.dH (.k .z))) λa w hI=>?_
  refine ah ?_
  exact yy (i+1) (by omega) hI ⟨vc,trivial⟩ ⟨gc,gc,gc,gc,gc,trivial⟩ (by omega)
 ·
  refine cL ?_
  refine aG ?_
  refine aG ?_
  refine bq ?_
  refine ah ?_
  refine bZ hI 8 [] [] [Uc 0 25 _,Uc 1 26 _,Uc 2 27 _,Uc 3 28 _,Uc 4 29 _,Uc 5 30 _,Uc 6 31 _,Uc 7 9 _] (.k .z) (.aB (.kk .z)) ⟨fP 0 1 false,ld,fP 0 1 false,ld,NU (zv:=.slice none 0 0) 22 [.slice none 0 0] (λi=>gB (jC K L i)) kr kr,BU (Er (K:=K) (L:=L)) (hφ:=⟨by omega,by omega,by omega,by omega⟩),BU GO (hφ:=h.Qs),mv,trivial⟩ (.k .z) (.eO (.d8 (.dk .z))) λa w hI=>?_
  refine ay ?_
  refine bZ hI 3 [] [] [Uc 0 32 _,Uc 1 33 _,Uc 2 34 _] (.k .z) (.dQ .z) ⟨mv,ln,bn,trivial⟩ (.k .z) (.iw (.dk .z)) λa w hI=>?_
  refine lN hI (λt3=>?_) (λt3=>?_)
  ·exfalso; omega
  refine aD ?_
  refine ah ?_
  refine bZ hI 9 [] [] [Uc 0 36 _,Uc 1 37 _,Uc 2 38 _,Uc 3 39 _,Uc 4 40 _,Uc 5 41 _,Uc 6 42 _,Uc 8 5 _] (.u none [(7,pv _)] .z) (.aB .z) ⟨mv,fP 1 1 false,ld,fP 1 1 false,ld,Us,bd [.o .n,.o .i] [(0,_),(1,_)],pz,mv,trivial⟩ (.s .o .z) (.d8 (.ig .z)) λa w hI=>?_
  refine aM ?_
  exact yS hI rfl F8 iE
end Wx

namespace Wx
set_option maxRecDepth 100000
set_option maxHeartbeats 1000000
open Go Go.RowKit Go.Proofs
set_option linter.unusedVariables false
attribute [local irreducible] OpOk
variable {K L:List Pt} {f:Int}
theorem GM (h:K.length<=1000/\0<L.length/\Bq K/\Bq L/\Ds K (aq L 0)=true/\0<K.length):K3 Tryz.prog 38 (gB K) (gB L) (pI f) (pB false):=by
 intro M w0 v0 v1 v2 hM hv0 jP hv2
 have hL:=h.2.1
 have hin:=h.2.2.2.2.1
 have hK:=h.2.2.2.2.2
 refine FO (N:=80) Tryz.func38 rfl rfl rfl hM hv0 jP hv2 λa hI=>?_
 refine bZ hI 4 [⟨6,6,some 3,none,.ptr,4,1,false,pv _,[]⟩] [] [Uc 0 3 _,Uc 1 4 _,Uc 2 5 _] .z (.dQ .z) ⟨Dj 1 false,Dj 1 false,Dj 1 false,KG .b,trivial⟩ (.k .z) (.ig (.kk .z)) λa w hI=>?_
 refine ay ?_
 refine F9 hI [0,0,2,6,15,31,63,63,191,447,1023,2047] [] [] [Uc 0 11 _,Uc 1 12 _,Uc 2 13 _,Uc 3 14 _,Uc 4 15 _,Uc 5 16 _,Uc 6 17 _,Uc 7 18 _,Uc 8 19 _,Uc 9 20 _,Uc 10 21 _,Uc 11 22 _] (.k .z) (.dQ .z) ⟨ld,ld,ix,ld,Gg (qW (L:=K) (p:=aq L 0)) (hφ:=⟨h.1,h.2.2.1,h.2.2.2.1 0 hL⟩),mv,gd λh=>mR h,gd λh=>mR h,gd λh=>Gq h,gd λh=>mR h,gd λh=>J3 h (qW (L:=L) (p:=aq K 0)) (hφ:=by rw[hin]at h; cases h),pk,trivial⟩ (.k .z) (.iw (.d8 (.uu .z))) λa w hI=>?_
 refine UM hI (show(Ds K (aq L 0)||Ds L (aq K 0))=true by rw[hin]; rfl) ?_
 refine bZ hI 1 [] [] [] (.u none [(0,pv _)] .z) (.aB .z) ⟨pz,trivial⟩ (.s .o .z) (.iw .z) λa w hI=>?_
 refine aM ?_
 refine aC ?_
 exact cN hI rfl F8
theorem GK {k l:Int} (h:(fE K k=0/\fE L l=0)/\Ds K (aq L 0)=true/\1<=f/\f<=2097152):K3 Tryz.prog 18 (lM K k) (lM L l) (pI f) (gC (pB false) (pI 0)):=by
 intro M w0 v0 v1 v2 hM hv0 jP hv2
 have hK:=lE (dO h.1.1)
 have hL:=lE (dO h.1.2)
 have hE:∀i,fE (jC K L i) (if i=0 then k else l)=0:=λi=>by by_cases e:i=0<;>simp only[jC,e,if_true,if_false]; exact h.1.1; exact h.1.2
 have hT:∀i,(jC K L i).length<=1000:=λi=>by unfold jC; split<;>omega
 have hin:=h.2.1
 have hf:=h.2.2
 refine FO (N:=37) Tryz.func18 rfl rfl rfl hM hv0 jP hv2 λa hI=>?_
 refine bu hI 4 [Uc 0 3 _,Uc 1 4 _,Uc 2 6 _,Uc 3 7 _] (.dQ .z) ⟨Dj 2 true (hf:=eF _ _),Dj 2 true (hf:=eF _ _),mv,mv,trivial⟩ (.sD (.dQ .z)) λa w hI=>?_
 refine ay ?_
 refine bu hI 5 [Uc 0 11 _,Uc 1 12 _,Uc 2 13 _,Uc 3 14 _,Uc 4 15 _] (.aB (.k .z)) ⟨ld,ld,NU (zv:=.agg #[.slice none 0 0,.int .i64 0]) 24 [.slice none 0 0,.int .i64 0] (λi=>lM (jC K L i) (if i=0 then k else l)) (eF K k) (eF L l),ln,mv,trivial⟩ (.aB (.uN (.kk .z))) λa w hI=>?_
 refine aI ?_
 refine yz [] [Uz 2 _,Uz 3 _,Uz 4 _,Uz 13 _,Uz 14 _] (λ(i:Nat)=>[]) (λ(i:Nat)=>[Uz 15 (pI (i:Int))]) (λ(i:Nat)=>i<=2) (λ(i:Nat)=>2-i) (0) (Nat.zero_le 2) hI trivial ⟨gi,gi,gi,gi,gi,gc,trivial⟩ ?_
 intro i a w hi hI
 refine bu hI 1 [Uc 0 16 _] (.aB (.kk .z)) ⟨bn,trivial⟩ (.aB (.dQ .z)) λa w hI=>?_
 refine ay ?_
 refine lN hI (λt1=>?_) (λt1=>?_)
 ·
  refine aD ?_
  refine ah ?_
  refine ay ?_
  refine aI ?_
  refine bZ hI 4 [⟨9,9,some 2,none,.ptr,24,2,true,pv _,[(3,pv _)]⟩] [] [Uc 0 17 _,Uc 1 18 _] .z (.aB (.dQ .z)) ⟨ix,ld,xy [.n,.i],pz,trivial⟩ (.s .o .z) (.aB (.eO (.d .z))) λa w hI=>?_
  refine bZ hI 3 [] [] [Uc 0 19 _,Uc 1 20 _,Uc 2 10 _] (.k .z) (.aB (.kk .z)) ⟨ld,BU eW (hφ:=hT i),mv,trivial⟩ (.d .z) (.aB (.eO (.k .z))) λa w hI=>?_
  refine bu hI 2 [Uc 0 21 _,Uc 1 22 _] (.aB (.dQ .z)) ⟨mv,bn,trivial⟩ (.aB (.iw (.k .z))) λa w hI=>?_
  refine lN hI (λt2=>?_) (λt2=>?_)
  ·exfalso; exact t2 (hE i)
  refine aD ?_
  refine bw ?_
  refine ah ?_
  refine ym hI 2 [Uc 0 24 _,Uc 1 15 _] (.aB (.k (.t 1 (.kk .z)))) ⟨bn,mv,trivial⟩ (.aB (.iv (.dk .z))) λa w hI=>?_
  refine ah ?_
  exact yy (i+1) (by omega) hI trivial ⟨gc,gc,gc,gc,gc,gc,trivial⟩ (by omega)
 ·
  refine cL ?_
  refine aG ?_
  refine aG ?_
  refine bq ?_
  refine ah ?_
  refine ay ?_
  refine bu hI 6 [Uc 0 25 _,Uc 1 26 _,Uc 2 27 _,Uc 3 28 _,Uc 4 29 _,Uc 5 30 _] (.aB (.dQ .z)) ⟨mv,bn,mv,gd λh=>mG h,gd λh=>su h,pk,trivial⟩ (.iw (.d8 (.k .z))) λa w hI=>?_
  refine Ab hI (λt3=>?_) (λt3=>?_)
  ·exfalso; simp only[Bool.or_eq_true,decide_eq_true_eq]at t3; omega
  refine aD ?_
  refine ah ?_
  refine bu hI 8 [Uc 0 31 _,Uc 1 32 _,Uc 2 33 _,Uc 3 34 _,Uc 4 35 _,Uc 5 36 _,Uc 6 6 _,Uc 7 7 _] (.aB .z) ⟨fP 0 1 false,ld,fP 0 1 false,ld,mv,LP (GM (K:=K) (L:=L)) (hφ:=⟨by omega,by omega,jx (dO h.1.1),jx (dO h.1.2),hin,by omega⟩),mv,mv,trivial⟩ (.d8 (.sD .z)) λa w hI=>?_
  refine aM ?_
  exact yS hI rfl iE iE
theorem GU (_:True):K1 Tryz.prog 9 (gB L) (pB (decide ((L.length:Int)<=20))):=by
 intro M w0 v0 hM hv0
 refine vK (N:=6) Tryz.func9 rfl rfl rfl hM hv0 λa hI=>?_
 refine bu hI 1 [Uc 0 2 _] (.k .z) ⟨mv,trivial⟩ (.kk .z) λa w hI=>?_
 refine bu hI 4 [Uc 0 3 _,Uc 1 4 _,Uc 2 5 _,Uc 3 2 _] (.k (.t 3 .z)) ⟨mv,ln,bn,mv,trivial⟩ (.dH (.dk .z)) λa w hI=>?_
 refine aM ?_
 exact cN hI rfl iE
theorem KW (hl:K.length=L.length) (h:∀q,q<K.length->aq K q=aq L q):K=L:=by
 refine List.ext_getElem hl λq h1 h2=>?_
 have e:=h q h1
 unfold aq at e
 rw[List.getD_eq_getElem?_getD,List.getD_eq_getElem?_getD,List.getElem?_eq_getElem h1,List.getElem?_eq_getElem h2]at e
 exact e
theorem GR (h:K.length<=1000000/\L.length<=1000000):K2 Tryz.prog 17 (gB K) (gB L) (pB (decide (K=L))):=by
 intro M w0 v0 v1 hM hv0 jP
 refine vL (N:=26) Tryz.func17 rfl rfl rfl hM hv0 jP λa hI=>?_
 refine bu hI 1 [Uc 0 4 _] (.kk .z) ⟨mv,trivial⟩ (.dQ .z) λa w hI=>?_
 refine ay ?_
 refine bu hI 5 [Uc 0 6 _,Uc 1 7 _,Uc 2 8 _,Uc 3 9 _,Uc 4 10 _] (.dQ .z) ⟨mv,ln,mv,ln,bn,trivial⟩ (.iw (.ig .z)) λa w hI=>?_
 refine lN hI (λt1=>?_) (λt1=>?_)
 ·
  refine bu hI 1 [Uc 0 4 _] (.kk (.t 0 (.k .z))) ⟨mv,trivial⟩ (.eO (.k .z)) λa w hI=>?_
  refine aM ?_
  refine aC ?_
  exact cN hI rfl (iE (hq:=jK (by rw[decide_eq_false]; intro e; rw[e]at t1; exact t1 rfl)))
 ·
  refine aD ?_
  refine ah ?_
  refine ay ?_
  refine bu hI 3 [Uc 0 11 _,Uc 1 12 _,Uc 2 13 _] (.aB .z) ⟨mv,ln,mv,trivial⟩ (.iw (.Lk .z)) λa w hI=>?_
  refine aI ?_
  refine yz [] [Uz 0 _,Uz 1 _,Uz 12 _] (λ(i:Nat)=>[]) (λ(i:Nat)=>[Uz 13 (pI (i:Int))]) (λ(i:Nat)=>i<=K.length/\∀q,q<i->aq K q=aq L q) (λ(i:Nat)=>K.length-i) (0) ⟨Nat.zero_le _,λ_ h=>absurd h (Nat.not_lt_zero _)⟩ hI trivial ⟨gi,gi,gi,gc,trivial⟩ ?_
  intro i a w hi hI
  refine bu hI 1 [Uc 0 14 _] (.aB .z) ⟨bn,trivial⟩ (.aB (.k .z)) λa w hI=>?_
  refine ay ?_
  refine lN hI (λt2=>?_) (λt2=>?_)
  ·
   refine aD ?_
   refine ah ?_
   refine ay ?_
   refine aI ?_
   refine bu hI 2 [Uc 0 15 _,Uc 1 5 _] (.aB (.k .z)) ⟨mv,mv,trivial⟩ (.aB (.uu .z)) λa w hI=>?_
   refine NK hI [0,0,3,7,0,0,48,112,255] [Uc 0 16 _,Uc 1 17 _,Uc 2 18 _,Uc 3 19 _,Uc 4 20 _,Uc 5 21 _,Uc 6 22 _,Uc 7 23 _,Uc 8 24 _] (.aB (.k .z)) ⟨mv,mv,ix,ld,mv,mv,ix,ld,Ut,trivial⟩ (.aB (.d8 (.dk .z))) λa w hI=>?_
   refine lN hI (λt3=>?_) (λt3=>?_)
   ·
    refine bu hI 1 [Uc 0 4 _] (.aB (.k .z)) ⟨mv,trivial⟩ (.aB (.dk .z)) λa w hI=>?_
    refine aM ?_
    refine aW ?_
    refine aC ?_
    refine aC ?_
    refine aW ?_
    refine aC ?_
    exact cN hI rfl (iE (hq:=jK (by rw[decide_eq_false]; intro e; rw[e]at t3; exact t3 rfl)))
   ·
    refine aD ?_
    refine bw ?_
    refine ah ?_
    refine ym hI 2 [Uc 0 25 _,Uc 1 13 _] (.dQ (.t 1 (.k .z))) ⟨bn,mv,trivial⟩ (.iw (.uu .z)) λa w hI=>?_
    refine ah ?_
    exact yy (i+1) ⟨by omega,λq hq=>if e:q=i then by rw[e]; exact Decidable.not_not.1 t3 else hi.2 q (by omega)⟩ hI trivial ⟨gc,gc,gc,gc,trivial⟩ (by omega)
  ·
   refine cL ?_
   refine aG ?_
   refine aG ?_
   refine bq ?_
   refine ah ?_
   refine bu hI 1 [Uc 0 4 _] (.aB (.k .z)) ⟨mv,trivial⟩ (.dH (.dk .z)) λa w hI=>?_
   refine aM ?_
   exact cN hI rfl (iE (hq:=jK (by rw[decide_eq_true]; exact KW (by omega) λq hq=>hi.2 q (by omega))))
end Wx
