import Derived.Test.YtikkgpljpglnbaaGreatJRM38
namespace Wx
set_option maxRecDepth 100000
set_option maxHeartbeats 1000000
open Go Go.RowKit Go.Proofs
set_option linter.unusedVariables false
attribute [local irreducible] OpOk
def dz (K L:List Pt) (i:Nat):List Pt:=if i=0 then K else L
def mO (K L:List Pt):Nat->List Pt
 |0=>[]
 |1=>K
 |_=>K++L
variable {K L:List Pt} {k:Nat}
theorem xQ (h:k<2):(mO K L (k+1)).length=(mO K L k).length+(dz K L k).length:=by
 match k,h with
 |0,_=>show K.length=0+K.length; omega
 |1,_=>show(K++L).length=K.length+L.length; rw[List.length_append]
theorem B7 (h:k<=2):(mO K L k).length<=K.length+L.length:=by
 match k,h with
 |0,_=>exact Nat.zero_le _
 |1,_=>exact Nat.le_add_right _ _
 |2,_=>show(K++L).length<=_; rw[List.length_append]; exact Nat.le_refl _
theorem LH (h:k<2):∀i w v,(if i<(mO K L k).length then cT (ae (K++L) i)else cT (ae (dz K L k) (i-(mO K L k).length))) w v->i<(mO K L k).length+(dz K L k).length->cT (ae (K++L) i) w v:=λi w v hp hi=>by
 by_cases h1:i<(mO K L k).length
 ·rw[if_pos h1]at hp; exact hp
 ·rw[if_neg h1]at hp
  have e:ae (K++L) i=ae (dz K L k) (i-(mO K L k).length):=by
   unfold ae
   match k,h with
   |0,_=>
    have hi:i<0+K.length:=hi
    show(K++L).getD i (0,0)=K.getD (i-0) (0,0)
    rw[List.getD_eq_getElem?_getD,List.getD_eq_getElem?_getD,List.getElem?_append_left (by omega),Nat.sub_zero]
   |1,_=>
    have h1:¬i<K.length:=h1
    show(K++L).getD i (0,0)=L.getD (i-K.length) (0,0)
    rw[List.getD_eq_getElem?_getD,List.getD_eq_getElem?_getD,List.getElem?_append_right (by omega)]
  rw[e]
  exact hp
theorem yN (h:0<K.length/\K.length<=400/\0<L.length/\L.length<=400):K1 Tryz.prog 19 (bK 1 false 2 λi=>fF (dz K L i)) (bK 2 true (K++L).length λi=>cT (ae (K++L) i)):=by
 intro M w0 v0 hM hv0
 have hT:∀k,0<(dz K L k).length/\(dz K L k).length<=400:=λk=>by unfold dz; split<;>omega
 refine uA (N:=36) Tryz.func19 rfl rfl rfl hM hv0 λa hI=>?_
 refine bH hI 1 [Uc 0 2 _] (.k .z) ⟨mv,trivial⟩ (.kk .z) λa w hI=>?_
 refine bH hI 1 [Uc 0 3 _] (.kk .z) ⟨mv,trivial⟩ (.cQ .z) λa w hI=>?_
 refine av ?_
 refine bH hI 3 [Uc 0 9 _,Uc 1 10 _,Uc 2 11 _] (.cQ .z) ⟨mv,ln,mv,trivial⟩ (.aq (.kk .z)) λa w hI=>?_
 refine aD ?_
 refine vL [] [Uz 0 _,Uz 2 _,Uz 9 _,Uz 10 _] (λ(i:Nat)=>[]) (λ(i:Nat)=>[Uz 11 (pI (i:Int)),Uz 3 (pI ((mO K L i).length:Int))]) (λ(i:Nat)=>i<=2) (λ(i:Nat)=>2-i) (0) (Nat.zero_le 2) hI trivial ⟨gi,gi,gi,gi,gc,gc,trivial⟩ ?_
 intro i a w hi hI
 refine bH hI 1 [Uc 0 12 _] (.aq (.kk .z)) ⟨bn,trivial⟩ (.aq (.cQ .z)) λa w hI=>?_
 refine av ?_
 refine iK hI (λt1=>?_) (λt1=>?_)
 ·
  refine aB ?_
  refine ah ?_
  refine av ?_
  refine aD ?_
  refine bH hI 3 [Uc 0 13 _,Uc 1 14 _,Uc 2 5 _] (.aq (.cQ .z)) ⟨ix,ld,mv,trivial⟩ (.aq (.dx (.dk .z))) λa w hI=>?_
  have nR:=xQ (K:=K) (L:=L) (show i<2 by omega)
  have hcm:=B7 (K:=K) (L:=L) (show i<=2 by omega)
  have hT1:=hT i
  refine bH hI 5 [Uc 0 15 _,Uc 1 16 _,Uc 2 17 _,Uc 3 18 _,Uc 4 3 _] (.aq (.k (.t 4 (.k .z)))) ⟨mv,mv,ln,bn,mv,trivial⟩ (.aq (.fN (.ew .z))) λa w hI=>?_
  refine bH hI 2 [Uc 0 19 _,Uc 1 20 _] (.aq (.kk .z)) ⟨mv,bn,trivial⟩ (.aq (.mX .z)) λa w hI=>?_
  refine iK hI (λt2=>?_) (λt2=>?_)
  ·exfalso; omega
  refine aB ?_
  refine aQ ?_
  refine ah ?_
  refine BQ hI 2 [Uc 0 22 _,Uc 1 11 _] (.aq (.t 1 (.kk .z))) ⟨bn,mv,trivial⟩ (.aq (.Oq (.k .z))) λa w hI=>?_
  refine ah ?_
  exact uq (i+1) (by omega) hI trivial ⟨gc,gc,gc,gc,gc,gc,trivial⟩ (by omega)
 ·
  refine cj ?_
  refine aH ?_
  refine aH ?_
  refine aY ?_
  refine ah ?_
  obtain rfl:i=2:=by omega
  have hc0:0<(mO K L 2).length:=by show 0<(K++L).length; rw[List.length_append]; omega
  have xq:(mO K L 2).length<=1000000:=by show(K++L).length<=_; rw[List.length_append]; omega
  refine nC hI 3 1 [] [] [Uc 0 23 _] .z (.aq (.cQ .z)) ⟨mv,trivial⟩ .z (.dx (.ew .z)) (Rk (λw=>Mz (n:=(mO K L 2).length) ⟨hc0,xq⟩ (λi=>cT (ae (K++L) i)) w) (λ_=>cF _)) λa w hI=>?_
  obtain⟨Vt,Vw,V7,hI⟩:=hI
  refine av ?_
  refine aW hI 3 [] [] [Uc 0 25 _,Uc 1 26 _,Uc 2 27 _] (.k .z) (.aq .z) ⟨mv,ln,mv,trivial⟩ (.k .z) (.S2 (.cQ .z)) λa w hI=>?_
  refine aD ?_
  refine vL [] [Uz 2 _,Uz 25 _,Uz 26 _] (λ(k:Nat×Option Addr×Nat)=>[(kX 24 2 (mO K L k.1).length true 38 (λi=>cT (ae (K++L) i)) (.slice k.2.1 (mO K L k.1).length k.2.2))]) (λ(k:Nat×Option Addr×Nat)=>[Uz 27 (pI (k.1:Int)),Uz 6 (bp (.slice k.2.1 (mO K L k.1).length k.2.2))]) (λ(k:Nat×Option Addr×Nat)=>k.1<=2) (λ(k:Nat×Option Addr×Nat)=>2-k.1) ((0,some ⟨Vt,0,none⟩,Vw)) (Nat.zero_le 2) hI ⟨NN,trivial⟩ ⟨gi,gi,gi,gc,gc,trivial⟩ ?_
  intro k a w hk hI
  refine aW hI 1 [] [] [Uc 0 28 _] (.k .z) (.aq (.k .z)) ⟨bn,trivial⟩ (.k .z) (.aq (.kk .z)) λa w hI=>?_
  refine av ?_
  refine iK hI (λt3=>?_) (λt3=>?_)
  ·
   refine aB ?_
   refine ah ?_
   refine av ?_
   refine aD ?_
   refine aW hI 3 [] [] [Uc 0 29 _,Uc 1 30 _,Uc 2 8 _] (.k .z) (.aq (.kk .z)) ⟨ix,ld,mv,trivial⟩ (.k .z) (.aq (.fN (.k .z))) λa w hI=>?_
   have hk2:k.1<2:=by omega
   have nR:=xQ (K:=K) (L:=L) hk2
   have hcm:=B7 (K:=K) (L:=L) (show k.1<=2 by omega)
   obtain⟨Ku,hT3⟩:=hT k.1
   refine QL hI 4 2 [] [] [Uc 0 31 _,Uc 1 32 _] (.k .z) (.aq (.kk .z)) ⟨mv,mv,trivial⟩ (.k .z) (.aq (.jI .z)) (E5 (n0:=0) (λi=>cT (ae (K++L) i)) (LH hk2) Ku (hnf:=λ_=>cF _) (hng:=λ_=>cF _) (hfit:=λ_=>cm _)) λa w hI=>?_
   obtain⟨s',hI⟩:=hI
   dsimp only[List.set]at hI
   obtain⟨X',cap',rfl,hcap⟩:=yx hI 0 rfl
   rw[<-nR]at hI
   refine aQ ?_
   refine ah ?_
   refine tX hI 2 [] [] [Uc 0 34 _,Uc 1 27 _] (.k .z) (.aq (.t 1 (.kk .z))) ⟨bn,mv,trivial⟩ (.k .z) (.aq (.bL (.k .z))) λa w hI=>?_
   refine ah ?_
   exact uq ((k.1+1,X',cap')) (by(show k.1+1<=2); omega) hI ⟨NN,trivial⟩ ⟨gc,gc,gc,gc,gc,trivial⟩ (by(show 2-(k.1+1)<2-k.1); omega)
  ·
   refine cj ?_
   refine aH ?_
   refine aH ?_
   refine aY ?_
   refine ah ?_
   obtain⟨k,X,cap⟩:=k
   obtain rfl:k=2:=by(have hk':k<=2:=hk); omega
   dsimp only at hI
   have hI:=Bz hI 0 6 rfl (by kernel_rfl)
   dsimp only[List.eraseIdx]at hI
   refine bH hI 2 [Uc 0 35 _,Uc 1 2 _] (.k (.t 1 (.aq (.k .z)))) ⟨mv,mv,trivial⟩ (.d8 (.k .z)) λa w hI=>?_
   refine aJ ?_
   exact dB hI rfl fK
noncomputable def sM (L:List Pt):List Pt:=dL (sL L) (rL L) L.length
theorem Jg (h:vQ L):K1 Tryz.prog 18 (fF L) (fF (sM L)):=by
 have k:=MA h
 rw[<-pO]at k
 exact k
structure BV (K L:List Pt) (k l:Int):Prop where
 one:aR K k=0
 two:aR L l=0
 SK:vQ (K++L)
 VC:(sM (K++L)).length<=10
theorem Jd {k l:Int} (h:BV K L k l):K2 Tryz.prog 7 (fE K k) (fE L l) (fJ (fE (sM (K++L)) (dh k l)) (pI 0)):=by
 intro M w0 v0 v1 hM hv0 iI
 have hK:=cA (aP h.one)
 have hL:=cA (aP h.two)
 have hf:=h.VC
 have hE:∀i,aR (dz K L i) (if i=0 then k else l)=0:=λi=>by by_cases e:i=0<;>simp only[dz,e,if_true,if_false]; exact h.one; exact h.two
 have hT:∀i,(dz K L i).length<=1000:=λi=>by unfold dz; split<;>omega
 refine xn (N:=43) Tryz.func7 rfl rfl rfl hM hv0 iI λa hI=>?_
 refine aW hI 4 [⟨4,4,some 2,none,.ptr,24,2,true,pv _,[]⟩] [] [Uc 0 2 _,Uc 1 3 _,Uc 3 5 _] .z (.kk .z) ⟨rR 2 true (hf:=bz _ _),rR 2 true (hf:=bz _ _),pY [.n,.i],mv,trivial⟩ (.k .z) (.jI (.k .z)) λa w hI=>?_
 refine av ?_
 refine aW hI 5 [] [] [Uc 0 10 _,Uc 1 11 _,Uc 2 12 _,Uc 3 13 _,Uc 4 14 _] (.k .z) (.cQ .z) ⟨ld,ld,Lz (zv:=.agg #[.slice none 0 0,.int .i64 0]) 24 [.slice none 0 0,.int .i64 0] (λi=>fE (dz K L i) (if i=0 then k else l)) (bz K k) (bz L l),ln,mv,trivial⟩ (.k .z) (.dg (.qJ .z)) λa w hI=>?_
 refine aD ?_
 refine vL [Vz 4 4 24 2 true _] [Uz 2 _,Uz 3 _,Uz 12 _,Uz 13 _] (λ(i:Nat)=>[]) (λ(i:Nat)=>[Uz 14 (pI (i:Int))]) (λ(i:Nat)=>i<=2) (λ(i:Nat)=>2-i) (0) (Nat.zero_le 2) hI ⟨vi,trivial⟩ ⟨gi,gi,gi,gi,gc,trivial⟩ ?_
 intro i a w hi hI
 refine aW hI 1 [] [] [Uc 0 15 _] (.k .z) (.aq (.k .z)) ⟨bn,trivial⟩ (.k .z) (.aq (.kk .z)) λa w hI=>?_
 refine av ?_
 refine iK hI (λt1=>?_) (λt1=>?_)
 ·
  refine aB ?_
  refine ah ?_
  refine av ?_
  refine aD ?_
  refine aW hI 4 [⟨7,7,some 2,none,.ptr,24,2,true,pv _,[(3,pv _)]⟩] [] [Uc 0 16 _,Uc 1 17 _] (.k .z) (.aq (.kk .z)) ⟨ix,ld,pY [.n,.i],kI,trivial⟩ (.k (.s .o .z)) (.aq (.fN .z)) λa w hI=>?_
  refine aW hI 3 [] [] [Uc 0 18 _,Uc 1 19 _,Uc 2 8 _] (.k (.k .z)) (.aq (.k .z)) ⟨ld,qZ ct (hφ:=hT i),mv,trivial⟩ (.k (.d .z)) (.aq (.wI .z)) λa w hI=>?_
  refine aW hI 2 [] [] [Uc 0 20 _,Uc 1 21 _] (.k .z) (.aq (.kk .z)) ⟨mv,bn,trivial⟩ (.k .z) (.aq (.mX .z)) λa w hI=>?_
  refine iK hI (λt2=>?_) (λt2=>?_)
  ·exfalso; exact t2 (hE i)
  refine aB ?_
  refine aQ ?_
  refine ah ?_
  refine tX hI 2 [] [] [Uc 0 24 _,Uc 1 14 _] (.k .z) (.aq (.t 1 (.kk .z))) ⟨bn,mv,trivial⟩ (.k .z) (.aq (.bL (.k .z))) λa w hI=>?_
  refine ah ?_
  exact uq (i+1) (by omega) hI ⟨vc,trivial⟩ ⟨gc,gc,gc,gc,gc,trivial⟩ (by omega)
 ·
  refine cj ?_
  refine aH ?_
  refine aH ?_
  refine aY ?_
  refine ah ?_
  refine aW hI 8 [] [] [Uc 0 25 _,Uc 1 26 _,Uc 2 27 _,Uc 3 28 _,Uc 4 29 _,Uc 5 30 _,Uc 6 31 _,Uc 7 9 _] (.k .z) (.aq (.kk .z)) ⟨fP 0 1 false,ld,fP 0 1 false,ld,Lz (zv:=.slice none 0 0) 22 [.slice none 0 0] (λi=>fF (dz K L i)) fk fk,qZ (yN (K:=K) (L:=L)) (hφ:=⟨by omega,by omega,by omega,by omega⟩),qZ Jg (hφ:=h.SK),mv,trivial⟩ (.k .z) (.dx (.d8 (.dk .z))) λa w hI=>?_
  refine av ?_
  refine aW hI 3 [] [] [Uc 0 32 _,Uc 1 33 _,Uc 2 34 _] (.k .z) (.cQ .z) ⟨mv,ln,bn,trivial⟩ (.k .z) (.dg (.dk .z)) λa w hI=>?_
  refine iK hI (λt3=>?_) (λt3=>?_)
  ·exfalso; omega
  refine aB ?_
  refine ah ?_
  refine aW hI 9 [] [] [Uc 0 36 _,Uc 1 37 _,Uc 2 38 _,Uc 3 39 _,Uc 4 40 _,Uc 5 41 _,Uc 6 42 _,Uc 8 5 _] (.u none [(7,pv _)] .z) (.aq .z) ⟨mv,fP 1 1 false,ld,fP 1 1 false,ld,UN,bd [.o .n,.o .i] [(0,_),(1,_)],kI,mv,trivial⟩ (.s .o .z) (.d8 (.ew .z)) λa w hI=>?_
  refine aJ ?_
  exact kT hI rfl xj fK
end Wx

namespace Wx
set_option maxRecDepth 100000
set_option maxHeartbeats 1000000
open Go Go.RowKit Go.Proofs
set_option linter.unusedVariables false
attribute [local irreducible] OpOk
variable {K L:List Pt} {f:Int}
theorem Je (h:K.length<=1000/\0<L.length/\tq K/\tq L/\ua K (ae L 0)=true/\0<K.length):K3 Tryz.prog 24 (fF K) (fF L) (pI f) (pB false):=by
 intro M w0 v0 v1 v2 hM hv0 iI hv2
 have hL:=h.2.1
 have hin:=h.2.2.2.2.1
 have hK:=h.2.2.2.2.2
 refine Ho (N:=80) Tryz.func24 rfl rfl rfl hM hv0 iI hv2 λa hI=>?_
 refine aW hI 4 [⟨6,6,some 3,none,.ptr,4,1,false,pv _,[]⟩] [] [Uc 0 3 _,Uc 1 4 _,Uc 2 5 _] .z (.cQ .z) ⟨rR 1 false,rR 1 false,rR 1 false,A7 .b,trivial⟩ (.k .z) (.ew (.kk .z)) λa w hI=>?_
 refine av ?_
 refine BP hI [0,0,2,6,15,31,63,63,191,447,1023,2047] [] [] [Uc 0 11 _,Uc 1 12 _,Uc 2 13 _,Uc 3 14 _,Uc 4 15 _,Uc 5 16 _,Uc 6 17 _,Uc 7 18 _,Uc 8 19 _,Uc 9 20 _,Uc 10 21 _,Uc 11 22 _] (.k .z) (.cQ .z) ⟨ld,ld,ix,ld,wj (lg (L:=K) (p:=ae L 0)) (hφ:=⟨h.1,h.2.2.1,h.2.2.2.1 0 hL⟩),mv,gd λh=>dQ h,gd λh=>dQ h,gd λh=>Ey h,gd λh=>dQ h,gd λh=>IG h (lg (L:=L) (p:=ae K 0)) (hφ:=by rw[hin]at h; cases h),pk,trivial⟩ (.k .z) (.dg (.d8 (.lW .z))) λa w hI=>?_
 refine Xk hI (show(ua K (ae L 0)||ua L (ae K 0))=true by rw[hin]; rfl) ?_
 refine aW hI 1 [] [] [] (.u none [(0,pv _)] .z) (.aq .z) ⟨kI,trivial⟩ (.s .o .z) (.dg .z) λa w hI=>?_
 refine aJ ?_
 refine aG ?_
 exact dB hI rfl xj
theorem Jc {k l:Int} (h:(aR K k=0/\aR L l=0)/\ua K (ae L 0)=true/\1<=f/\f<=2097152):K3 Tryz.prog 13 (fE K k) (fE L l) (pI f) (fJ (pB false) (pI 0)):=by
 intro M w0 v0 v1 v2 hM hv0 iI hv2
 have hK:=cA (aP h.1.1)
 have hL:=cA (aP h.1.2)
 have hE:∀i,aR (dz K L i) (if i=0 then k else l)=0:=λi=>by by_cases e:i=0<;>simp only[dz,e,if_true,if_false]; exact h.1.1; exact h.1.2
 have hT:∀i,(dz K L i).length<=1000:=λi=>by unfold dz; split<;>omega
 have hin:=h.2.1
 have hf:=h.2.2
 refine Ho (N:=37) Tryz.func13 rfl rfl rfl hM hv0 iI hv2 λa hI=>?_
 refine bH hI 4 [Uc 0 3 _,Uc 1 4 _,Uc 2 6 _,Uc 3 7 _] (.cQ .z) ⟨rR 2 true (hf:=bz _ _),rR 2 true (hf:=bz _ _),mv,mv,trivial⟩ (.jI (.cQ .z)) λa w hI=>?_
 refine av ?_
 refine bH hI 5 [Uc 0 11 _,Uc 1 12 _,Uc 2 13 _,Uc 3 14 _,Uc 4 15 _] (.aq (.k .z)) ⟨ld,ld,Lz (zv:=.agg #[.slice none 0 0,.int .i64 0]) 24 [.slice none 0 0,.int .i64 0] (λi=>fE (dz K L i) (if i=0 then k else l)) (bz K k) (bz L l),ln,mv,trivial⟩ (.aq (.wI (.kk .z))) λa w hI=>?_
 refine aD ?_
 refine vL [] [Uz 2 _,Uz 3 _,Uz 4 _,Uz 13 _,Uz 14 _] (λ(i:Nat)=>[]) (λ(i:Nat)=>[Uz 15 (pI (i:Int))]) (λ(i:Nat)=>i<=2) (λ(i:Nat)=>2-i) (0) (Nat.zero_le 2) hI trivial ⟨gi,gi,gi,gi,gi,gc,trivial⟩ ?_
 intro i a w hi hI
 refine bH hI 1 [Uc 0 16 _] (.aq (.kk .z)) ⟨bn,trivial⟩ (.aq (.cQ .z)) λa w hI=>?_
 refine av ?_
 refine iK hI (λt1=>?_) (λt1=>?_)
 ·
  refine aB ?_
  refine ah ?_
  refine av ?_
  refine aD ?_
  refine aW hI 4 [⟨9,9,some 2,none,.ptr,24,2,true,pv _,[(3,pv _)]⟩] [] [Uc 0 17 _,Uc 1 18 _] .z (.aq (.cQ .z)) ⟨ix,ld,pY [.n,.i],kI,trivial⟩ (.s .o .z) (.aq (.dx (.d .z))) λa w hI=>?_
  refine aW hI 3 [] [] [Uc 0 19 _,Uc 1 20 _,Uc 2 10 _] (.k .z) (.aq (.kk .z)) ⟨ld,qZ ct (hφ:=hT i),mv,trivial⟩ (.d .z) (.aq (.dx (.k .z))) λa w hI=>?_
  refine bH hI 2 [Uc 0 21 _,Uc 1 22 _] (.aq (.cQ .z)) ⟨mv,bn,trivial⟩ (.aq (.dg (.k .z))) λa w hI=>?_
  refine iK hI (λt2=>?_) (λt2=>?_)
  ·exfalso; exact t2 (hE i)
  refine aB ?_
  refine aQ ?_
  refine ah ?_
  refine BQ hI 2 [Uc 0 24 _,Uc 1 15 _] (.aq (.k (.t 1 (.kk .z)))) ⟨bn,mv,trivial⟩ (.aq (.fN (.dk .z))) λa w hI=>?_
  refine ah ?_
  exact uq (i+1) (by omega) hI trivial ⟨gc,gc,gc,gc,gc,gc,trivial⟩ (by omega)
 ·
  refine cj ?_
  refine aH ?_
  refine aH ?_
  refine aY ?_
  refine ah ?_
  refine av ?_
  refine bH hI 6 [Uc 0 25 _,Uc 1 26 _,Uc 2 27 _,Uc 3 28 _,Uc 4 29 _,Uc 5 30 _] (.aq (.cQ .z)) ⟨mv,bn,mv,gd λh=>gZ h,gd λh=>mA h,pk,trivial⟩ (.dg (.d8 (.k .z))) λa w hI=>?_
  refine uz hI (λt3=>?_) (λt3=>?_)
  ·exfalso; simp only[Bool.or_eq_true,decide_eq_true_eq]at t3; omega
  refine aB ?_
  refine ah ?_
  refine bH hI 8 [Uc 0 31 _,Uc 1 32 _,Uc 2 33 _,Uc 3 34 _,Uc 4 35 _,Uc 5 36 _,Uc 6 6 _,Uc 7 7 _] (.aq .z) ⟨fP 0 1 false,ld,fP 0 1 false,ld,mv,xR (Je (K:=K) (L:=L)) (hφ:=⟨by omega,by omega,di (aP h.1.1),di (aP h.1.2),hin,by omega⟩),mv,mv,trivial⟩ (.d8 (.jI .z)) λa w hI=>?_
  refine aJ ?_
  exact kT hI rfl fK fK
theorem MY (hl:K.length=L.length) (h:∀q,q<K.length->ae K q=ae L q):K=L:=by
 refine List.ext_getElem hl λq h1 h2=>?_
 have e:=h q h1
 unfold ae at e
 rw[List.getD_eq_getElem?_getD,List.getD_eq_getElem?_getD,List.getElem?_eq_getElem h1,List.getElem?_eq_getElem h2]at e
 exact e
theorem Cx (h:K.length<=1000000/\L.length<=1000000):K2 Tryz.prog 9 (fF K) (fF L) (pB (decide (K=L))):=by
 intro M w0 v0 v1 hM hv0 iI
 refine xn (N:=26) Tryz.func9 rfl rfl rfl hM hv0 iI λa hI=>?_
 refine bH hI 1 [Uc 0 4 _] (.kk .z) ⟨mv,trivial⟩ (.cQ .z) λa w hI=>?_
 refine av ?_
 refine bH hI 5 [Uc 0 6 _,Uc 1 7 _,Uc 2 8 _,Uc 3 9 _,Uc 4 10 _] (.cQ .z) ⟨mv,ln,mv,ln,bn,trivial⟩ (.dg (.ew .z)) λa w hI=>?_
 refine iK hI (λt1=>?_) (λt1=>?_)
 ·
  refine bH hI 1 [Uc 0 4 _] (.kk (.t 0 (.k .z))) ⟨mv,trivial⟩ (.dx (.k .z)) λa w hI=>?_
  refine aJ ?_
  refine aG ?_
  exact dB hI rfl (fK (hq:=cK (by rw[decide_eq_false]; intro e; rw[e]at t1; exact t1 rfl)))
 ·
  refine aB ?_
  refine ah ?_
  refine av ?_
  refine bH hI 3 [Uc 0 11 _,Uc 1 12 _,Uc 2 13 _] (.aq .z) ⟨mv,ln,mv,trivial⟩ (.dg (.Dn .z)) λa w hI=>?_
  refine aD ?_
  refine vL [] [Uz 0 _,Uz 1 _,Uz 12 _] (λ(i:Nat)=>[]) (λ(i:Nat)=>[Uz 13 (pI (i:Int))]) (λ(i:Nat)=>i<=K.length/\∀q,q<i->ae K q=ae L q) (λ(i:Nat)=>K.length-i) (0) ⟨Nat.zero_le _,λ_ h=>absurd h (Nat.not_lt_zero _)⟩ hI trivial ⟨gi,gi,gi,gc,trivial⟩ ?_
  intro i a w hi hI
  refine bH hI 1 [Uc 0 14 _] (.aq .z) ⟨bn,trivial⟩ (.aq (.k .z)) λa w hI=>?_
  refine av ?_
  refine iK hI (λt2=>?_) (λt2=>?_)
  ·
   refine aB ?_
   refine ah ?_
   refine av ?_
   refine aD ?_
   refine bH hI 2 [Uc 0 15 _,Uc 1 5 _] (.aq (.k .z)) ⟨mv,mv,trivial⟩ (.aq (.lW .z)) λa w hI=>?_
   refine Tv hI [0,0,3,7,0,0,48,112,255] [Uc 0 16 _,Uc 1 17 _,Uc 2 18 _,Uc 3 19 _,Uc 4 20 _,Uc 5 21 _,Uc 6 22 _,Uc 7 23 _,Uc 8 24 _] (.aq (.k .z)) ⟨mv,mv,ix,ld,mv,mv,ix,ld,UO,trivial⟩ (.aq (.d8 (.dk .z))) λa w hI=>?_
   refine iK hI (λt3=>?_) (λt3=>?_)
   ·
    refine bH hI 1 [Uc 0 4 _] (.aq (.k .z)) ⟨mv,trivial⟩ (.aq (.dk .z)) λa w hI=>?_
    refine aJ ?_
    refine aO ?_
    refine aG ?_
    refine aG ?_
    refine aO ?_
    refine aG ?_
    exact dB hI rfl (fK (hq:=cK (by rw[decide_eq_false]; intro e; rw[e]at t3; exact t3 rfl)))
   ·
    refine aB ?_
    refine aQ ?_
    refine ah ?_
    refine BQ hI 2 [Uc 0 25 _,Uc 1 13 _] (.cQ (.t 1 (.k .z))) ⟨bn,mv,trivial⟩ (.dg (.lW .z)) λa w hI=>?_
    refine ah ?_
    exact uq (i+1) ⟨by omega,λq hq=>if e:q=i then by rw[e]; exact Decidable.not_not.1 t3 else hi.2 q (by omega)⟩ hI trivial ⟨gc,gc,gc,gc,trivial⟩ (by omega)
  ·
   refine cj ?_
   refine aH ?_
   refine aH ?_
   refine aY ?_
   refine ah ?_
   refine bH hI 1 [Uc 0 4 _] (.aq (.k .z)) ⟨mv,trivial⟩ (.bL (.dk .z)) λa w hI=>?_
   refine aJ ?_
   exact dB hI rfl (fK (hq:=cK (by rw[decide_eq_true]; exact MY (by omega) λq hq=>hi.2 q (by omega))))
end Wx
