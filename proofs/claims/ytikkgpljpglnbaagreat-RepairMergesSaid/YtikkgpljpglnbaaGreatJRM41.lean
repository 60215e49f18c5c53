import Derived.Test.YtikkgpljpglnbaaGreatJRM40
namespace Wx
set_option maxRecDepth 100000
set_option maxHeartbeats 1000000
open Go Go.RowKit Go.Proofs
set_option linter.unusedVariables false
attribute [local irreducible] OpOk
def eD (K L:List Pt) (i:Nat):List Pt:=if i=0 then K else L
def lq (K L:List Pt):Nat->List Pt
 |0=>[]
 |1=>K
 |_=>K++L
variable {K L:List Pt} {k:Nat}
theorem vB (h:k<2):(lq K L (k+1)).length=(lq K L k).length+(eD K L k).length:=by
 match k,h with
 |0,_=>show K.length=0+K.length; omega
 |1,_=>show(K++L).length=K.length+L.length; rw[List.length_append]
theorem zJ (h:k<=2):(lq K L k).length<=K.length+L.length:=by
 match k,h with
 |0,_=>exact Nat.zero_le _
 |1,_=>exact Nat.le_add_right _ _
 |2,_=>show(K++L).length<=_; rw[List.length_append]; exact Nat.le_refl _
theorem Ji (h:k<2):∀i w v,(if i<(lq K L k).length then cq (ae (K++L) i)else cq (ae (eD K L k) (i-(lq K L k).length))) w v->i<(lq K L k).length+(eD K L k).length->cq (ae (K++L) i) w v:=λi w v hp hi=>by
 by_cases h1:i<(lq K L k).length
 ·rw[if_pos h1]at hp; exact hp
 ·rw[if_neg h1]at hp
  have e:ae (K++L) i=ae (eD K L k) (i-(lq K L k).length):=by
   unfold ae
   match k,h with
   |0,_=>
    have hi:i<0+K.length:=hi
    show(K++L).getD i (0,0)=K.getD (i-0) (0,0)
    rw[List.getD_eq_getElem?_getD,List.getD_eq_getElem?_getD,List.getElem?_append_left (by omega),Nat.sub_zero]
   |1,_=>
    have h1:¬i<K.length:=h1
    show(K++L).getD i (0,0)=L.getD (i-K.length) (0,0)
    rw[List.getD_eq_getElem?_getD,List.getD_eq_getElem?_getD,List.getElem?_append_right (by omega)]
  rw[e]
  exact hp
theorem wq (h:0<K.length/\K.length<=400/\0<L.length/\L.length<=400):K1 Tryz.prog 19 (bz 1 false 2 λi=>eC (eD K L i)) (bz 2 true (K++L).length λi=>cq (ae (K++L) i)):=by
 intro M w0 v0 hM hv0
 have hT:∀k,0<(eD K L k).length/\(eD K L k).length<=400:=λk=>by unfold eD; split<;>omega
 refine rY (N:=36) Tryz.func19 rfl rfl rfl hM hv0 λa hI=>?_
 refine aZ hI 1 [Uc 0 2 _] (.k .z) ⟨mv,trivial⟩ (.kk .z) λa w hI=>?_
 refine aZ hI 1 [Uc 0 3 _] (.kk .z) ⟨mv,trivial⟩ (.cE .z) λa w hI=>?_
 refine au ?_
 refine aZ hI 3 [Uc 0 9 _,Uc 1 10 _,Uc 2 11 _] (.cE .z) ⟨mv,ln,mv,trivial⟩ (.aj (.kk .z)) λa w hI=>?_
 refine aF ?_
 refine sF [] [Uz 0 _,Uz 2 _,Uz 9 _,Uz 10 _] (λ(i:Nat)=>[]) (λ(i:Nat)=>[Uz 11 (pI (i:Int)),Uz 3 (pI ((lq K L i).length:Int))]) (λ(i:Nat)=>i<=2) (λ(i:Nat)=>2-i) (0) (Nat.zero_le 2) hI trivial ⟨gi,gi,gi,gi,gc,gc,trivial⟩ ?_
 intro i a w hi hI
 refine aZ hI 1 [Uc 0 12 _] (.aj (.kk .z)) ⟨bn,trivial⟩ (.aj (.cE .z)) λa w hI=>?_
 refine au ?_
 refine gA hI (λt1=>?_) (λt1=>?_)
 ·
  refine ax ?_
  refine af ?_
  refine au ?_
  refine aF ?_
  refine aZ hI 3 [Uc 0 13 _,Uc 1 14 _,Uc 2 5 _] (.aj (.cE .z)) ⟨ix,ld,mv,trivial⟩ (.aj (.dm (.dk .z))) λa w hI=>?_
  have mc:=vB (K:=K) (L:=L) (show i<2 by omega)
  have hcm:=zJ (K:=K) (L:=L) (show i<=2 by omega)
  have hT1:=hT i
  refine aZ hI 5 [Uc 0 15 _,Uc 1 16 _,Uc 2 17 _,Uc 3 18 _,Uc 4 3 _] (.aj (.k (.t 4 (.k .z)))) ⟨mv,mv,ln,bn,mv,trivial⟩ (.aj (.fF (.dL .z))) λa w hI=>?_
  refine aZ hI 2 [Uc 0 19 _,Uc 1 20 _] (.aj (.kk .z)) ⟨mv,bn,trivial⟩ (.aj (.gX .z)) λa w hI=>?_
  refine gA hI (λt2=>?_) (λt2=>?_)
  ·exfalso; omega
  refine ax ?_
  refine aO ?_
  refine af ?_
  refine xy hI 2 [Uc 0 22 _,Uc 1 11 _] (.aj (.t 1 (.kk .z))) ⟨bn,mv,trivial⟩ (.aj (.xX (.k .z))) λa w hI=>?_
  refine af ?_
  exact nF (i+1) (by omega) hI trivial ⟨gc,gc,gc,gc,gc,gc,trivial⟩ (by omega)
 ·
  refine bO ?_
  refine aB ?_
  refine aB ?_
  refine aR ?_
  refine af ?_
  obtain rfl:i=2:=by omega
  have hc0:0<(lq K L 2).length:=by show 0<(K++L).length; rw[List.length_append]; omega
  have xE:(lq K L 2).length<=1000000:=by show(K++L).length<=_; rw[List.length_append]; omega
  refine ko hI 3 1 [] [] [Uc 0 23 _] .z (.aj (.cE .z)) ⟨mv,trivial⟩ .z (.dm (.dL .z)) (Oq (λw=>JT (n:=(lq K L 2).length) ⟨hc0,xE⟩ (λi=>cq (ae (K++L) i)) w) (λ_=>bK _)) λa w hI=>?_
  obtain⟨Sk,Sm,SZ,hI⟩:=hI
  refine au ?_
  refine bk hI 3 [] [] [Uc 0 25 _,Uc 1 26 _,Uc 2 27 _] (.k .z) (.aj .z) ⟨mv,ln,mv,trivial⟩ (.k .z) (.P8 (.cE .z)) λa w hI=>?_
  refine aF ?_
  refine sF [] [Uz 2 _,Uz 25 _,Uz 26 _] (λ(k:Nat×Option Addr×Nat)=>[(iL 24 2 (lq K L k.1).length true 38 (λi=>cq (ae (K++L) i)) (.slice k.2.1 (lq K L k.1).length k.2.2))]) (λ(k:Nat×Option Addr×Nat)=>[Uz 27 (pI (k.1:Int)),Uz 6 (bg (.slice k.2.1 (lq K L k.1).length k.2.2))]) (λ(k:Nat×Option Addr×Nat)=>k.1<=2) (λ(k:Nat×Option Addr×Nat)=>2-k.1) ((0,some ⟨Sk,0,none⟩,Sm)) (Nat.zero_le 2) hI ⟨AW,trivial⟩ ⟨gi,gi,gi,gc,gc,trivial⟩ ?_
  intro k a w hk hI
  refine bk hI 1 [] [] [Uc 0 28 _] (.k .z) (.aj (.k .z)) ⟨bn,trivial⟩ (.k .z) (.aj (.kk .z)) λa w hI=>?_
  refine au ?_
  refine gA hI (λt3=>?_) (λt3=>?_)
  ·
   refine ax ?_
   refine af ?_
   refine au ?_
   refine aF ?_
   refine bk hI 3 [] [] [Uc 0 29 _,Uc 1 30 _,Uc 2 8 _] (.k .z) (.aj (.kk .z)) ⟨ix,ld,mv,trivial⟩ (.k .z) (.aj (.fF (.k .z))) λa w hI=>?_
   have hk2:k.1<2:=by omega
   have mc:=vB (K:=K) (L:=L) hk2
   have hcm:=zJ (K:=K) (L:=L) (show k.1<=2 by omega)
   obtain⟨Hv,hT3⟩:=hT k.1
   refine NR hI 4 2 [] [] [Uc 0 31 _,Uc 1 32 _] (.k .z) (.aj (.kk .z)) ⟨mv,mv,trivial⟩ (.k .z) (.aj (.oF .z)) (CN (n0:=0) (λi=>cq (ae (K++L) i)) (Ji hk2) Hv (hnf:=λ_=>bK _) (hng:=λ_=>bK _) (hfit:=λ_=>bC _)) λa w hI=>?_
   obtain⟨s',hI⟩:=hI
   dsimp only[List.set]at hI
   obtain⟨X',cap',rfl,hcap⟩:=qE hI 0 rfl
   rw[<-mc]at hI
   refine aO ?_
   refine af ?_
   refine nw hI 2 [] [] [Uc 0 34 _,Uc 1 27 _] (.k .z) (.aj (.t 1 (.kk .z))) ⟨bn,mv,trivial⟩ (.k .z) (.aj (.cH (.k .z))) λa w hI=>?_
   refine af ?_
   exact nF ((k.1+1,X',cap')) (by(show k.1+1<=2); omega) hI ⟨AW,trivial⟩ ⟨gc,gc,gc,gc,gc,trivial⟩ (by(show 2-(k.1+1)<2-k.1); omega)
  ·
   refine bO ?_
   refine aB ?_
   refine aB ?_
   refine aR ?_
   refine af ?_
   obtain⟨k,X,cap⟩:=k
   obtain rfl:k=2:=by(have hk':k<=2:=hk); omega
   dsimp only at hI
   have hI:=uE hI 0 6 rfl (by kernel_rfl)
   dsimp only[List.eraseIdx]at hI
   refine aZ hI 2 [Uc 0 35 _,Uc 1 2 _] (.k (.t 1 (.aj (.k .z)))) ⟨mv,mv,trivial⟩ (.d8 (.k .z)) λa w hI=>?_
   refine aH ?_
   exact cT hI rfl fR
noncomputable def qM (L:List Pt):List Pt:=di (sL L) (rL L) L.length
theorem Ga (h:tL L):K1 Tryz.prog 18 (eC L) (eC (qM L)):=by
 have k:=JU h
 rw[<-nC]at k
 exact k
structure zx (K L:List Pt) (k l:Int):Prop where
 one:ct K k=0
 two:ct L l=0
 PU:tL (K++L)
 Ss:(qM (K++L)).length<=10
theorem F7 {k l:Int} (h:zx K L k l):K2 Tryz.prog 7 (eR K k) (eR L l) (fl (eR (qM (K++L)) (iZ k l)) (pI 0)):=by
 intro M w0 v0 v1 hM hv0 jw
 have hK:=cV (bZ h.one)
 have hL:=cV (bZ h.two)
 have hf:=h.Ss
 have hE:∀i,ct (eD K L i) (if i=0 then k else l)=0:=λi=>by by_cases e:i=0<;>simp only[eD,e,if_true,if_false]; exact h.one; exact h.two
 have hT:∀i,(eD K L i).length<=1000:=λi=>by unfold eD; split<;>omega
 refine rZ (N:=43) Tryz.func7 rfl rfl rfl hM hv0 jw λa hI=>?_
 refine bk hI 4 [⟨4,4,some 2,none,.ptr,24,2,true,pv _,[]⟩] [] [Uc 0 2 _,Uc 1 3 _,Uc 3 5 _] .z (.kk .z) ⟨vh 2 true (hf:=bG _ _),vh 2 true (hf:=bG _ _),tn [.n,.i],mv,trivial⟩ (.k .z) (.oF (.k .z)) λa w hI=>?_
 refine au ?_
 refine bk hI 5 [] [] [Uc 0 10 _,Uc 1 11 _,Uc 2 12 _,Uc 3 13 _,Uc 4 14 _] (.k .z) (.cE .z) ⟨ld,ld,KH (zv:=.agg #[.slice none 0 0,.int .i64 0]) 24 [.slice none 0 0,.int .i64 0] (λi=>eR (eD K L i) (if i=0 then k else l)) (bG K k) (bG L l),ln,mv,trivial⟩ (.k .z) (.dx (.xY .z)) λa w hI=>?_
 refine aF ?_
 refine sF [Vz 4 4 24 2 true _] [Uz 2 _,Uz 3 _,Uz 12 _,Uz 13 _] (λ(i:Nat)=>[]) (λ(i:Nat)=>[Uz 14 (pI (i:Int))]) (λ(i:Nat)=>i<=2) (λ(i:Nat)=>2-i) (0) (Nat.zero_le 2) hI ⟨vi,trivial⟩ ⟨gi,gi,gi,gi,gc,trivial⟩ ?_
 intro i a w hi hI
 refine bk hI 1 [] [] [Uc 0 15 _] (.k .z) (.aj (.k .z)) ⟨bn,trivial⟩ (.k .z) (.aj (.kk .z)) λa w hI=>?_
 refine au ?_
 refine gA hI (λt1=>?_) (λt1=>?_)
 ·
  refine ax ?_
  refine af ?_
  refine au ?_
  refine aF ?_
  refine bk hI 4 [⟨7,7,some 2,none,.ptr,24,2,true,pv _,[(3,pv _)]⟩] [] [Uc 0 16 _,Uc 1 17 _] (.k .z) (.aj (.kk .z)) ⟨ix,ld,tn [.n,.i],mW,trivial⟩ (.k (.s .o .z)) (.aj (.fF .z)) λa w hI=>?_
  refine bk hI 3 [] [] [Uc 0 18 _,Uc 1 19 _,Uc 2 8 _] (.k (.k .z)) (.aj (.k .z)) ⟨ld,uN eY (hφ:=hT i),mv,trivial⟩ (.k (.d .z)) (.aj (.oK .z)) λa w hI=>?_
  refine bk hI 2 [] [] [Uc 0 20 _,Uc 1 21 _] (.k .z) (.aj (.kk .z)) ⟨mv,bn,trivial⟩ (.k .z) (.aj (.gX .z)) λa w hI=>?_
  refine gA hI (λt2=>?_) (λt2=>?_)
  ·exfalso; exact t2 (hE i)
  refine ax ?_
  refine aO ?_
  refine af ?_
  refine nw hI 2 [] [] [Uc 0 24 _,Uc 1 14 _] (.k .z) (.aj (.t 1 (.kk .z))) ⟨bn,mv,trivial⟩ (.k .z) (.aj (.cH (.k .z))) λa w hI=>?_
  refine af ?_
  exact nF (i+1) (by omega) hI ⟨vc,trivial⟩ ⟨gc,gc,gc,gc,gc,trivial⟩ (by omega)
 ·
  refine bO ?_
  refine aB ?_
  refine aB ?_
  refine aR ?_
  refine af ?_
  refine bk hI 8 [] [] [Uc 0 25 _,Uc 1 26 _,Uc 2 27 _,Uc 3 28 _,Uc 4 29 _,Uc 5 30 _,Uc 6 31 _,Uc 7 9 _] (.k .z) (.aj (.kk .z)) ⟨fP 0 1 false,ld,fP 0 1 false,ld,KH (zv:=.slice none 0 0) 22 [.slice none 0 0] (λi=>eC (eD K L i)) ee ee,uN (wq (K:=K) (L:=L)) (hφ:=⟨by omega,by omega,by omega,by omega⟩),uN Ga (hφ:=h.PU),mv,trivial⟩ (.k .z) (.dm (.d8 (.dk .z))) λa w hI=>?_
  refine au ?_
  refine bk hI 3 [] [] [Uc 0 32 _,Uc 1 33 _,Uc 2 34 _] (.k .z) (.cE .z) ⟨mv,ln,bn,trivial⟩ (.k .z) (.dx (.dk .z)) λa w hI=>?_
  refine gA hI (λt3=>?_) (λt3=>?_)
  ·exfalso; omega
  refine ax ?_
  refine af ?_
  refine bk hI 9 [] [] [Uc 0 36 _,Uc 1 37 _,Uc 2 38 _,Uc 3 39 _,Uc 4 40 _,Uc 5 41 _,Uc 6 42 _,Uc 8 5 _] (.u none [(7,pv _)] .z) (.aj .z) ⟨mv,fP 1 1 false,ld,fP 1 1 false,ld,Qb,bd [.o .n,.o .i] [(0,_),(1,_)],mW,mv,trivial⟩ (.s .o .z) (.d8 (.dL .z)) λa w hI=>?_
  refine aH ?_
  exact lY hI rfl xx fR
end Wx

namespace Wx
set_option maxRecDepth 100000
set_option maxHeartbeats 1000000
open Go Go.RowKit Go.Proofs
set_option linter.unusedVariables false
attribute [local irreducible] OpOk
variable {K L:List Pt} {f:Int}
theorem F8 (h:K.length<=1000/\0<L.length/\rB K/\rB L/\Ii K (ae L 0)=true/\0<K.length):K3 Tryz.prog 24 (eC K) (eC L) (pI f) (pB false):=by
 intro M w0 v0 v1 v2 hM hv0 jw hv2
 have hL:=h.2.1
 have hin:=h.2.2.2.2.1
 have hK:=h.2.2.2.2.2
 refine GR (N:=80) Tryz.func24 rfl rfl rfl hM hv0 jw hv2 λa hI=>?_
 refine bk hI 4 [⟨6,6,some 3,none,.ptr,4,1,false,pv _,[]⟩] [] [Uc 0 3 _,Uc 1 4 _,Uc 2 5 _] .z (.cE .z) ⟨vh 1 false,vh 1 false,vh 1 false,J0 .b,trivial⟩ (.k .z) (.dL (.kk .z)) λa w hI=>?_
 refine au ?_
 refine AZ hI [0,0,2,6,15,31,63,63,191,447,1023,2047] [] [] [Uc 0 11 _,Uc 1 12 _,Uc 2 13 _,Uc 3 14 _,Uc 4 15 _,Uc 5 16 _,Uc 6 17 _,Uc 7 18 _,Uc 8 19 _,Uc 9 20 _,Uc 10 21 _,Uc 11 22 _] (.k .z) (.cE .z) ⟨ld,ld,ix,ld,ES (qT (L:=K) (p:=ae L 0)) (hφ:=⟨h.1,h.2.2.1,h.2.2.2.1 0 hL⟩),mv,gd λh=>pz h,gd λh=>pz h,gd λh=>FD h,gd λh=>pz h,gd λh=>ye h (qT (L:=L) (p:=ae K 0)) (hφ:=by rw[hin]at h; cases h),pk,trivial⟩ (.k .z) (.dx (.d8 (.lO .z))) λa w hI=>?_
 refine T8 hI (show(Ii K (ae L 0)||Ii L (ae K 0))=true by rw[hin]; rfl) ?_
 refine bk hI 1 [] [] [] (.u none [(0,pv _)] .z) (.aj .z) ⟨mW,trivial⟩ (.s .o .z) (.dx .z) λa w hI=>?_
 refine aH ?_
 refine aC ?_
 exact cT hI rfl xx
theorem F6 {k l:Int} (h:(ct K k=0/\ct L l=0)/\Ii K (ae L 0)=true/\1<=f/\f<=2097152):K3 Tryz.prog 13 (eR K k) (eR L l) (pI f) (fl (pB false) (pI 0)):=by
 intro M w0 v0 v1 v2 hM hv0 jw hv2
 have hK:=cV (bZ h.1.1)
 have hL:=cV (bZ h.1.2)
 have hE:∀i,ct (eD K L i) (if i=0 then k else l)=0:=λi=>by by_cases e:i=0<;>simp only[eD,e,if_true,if_false]; exact h.1.1; exact h.1.2
 have hT:∀i,(eD K L i).length<=1000:=λi=>by unfold eD; split<;>omega
 have hin:=h.2.1
 have hf:=h.2.2
 refine GR (N:=37) Tryz.func13 rfl rfl rfl hM hv0 jw hv2 λa hI=>?_
 refine aZ hI 4 [Uc 0 3 _,Uc 1 4 _,Uc 2 6 _,Uc 3 7 _] (.cE .z) ⟨vh 2 true (hf:=bG _ _),vh 2 true (hf:=bG _ _),mv,mv,trivial⟩ (.oF (.cE .z)) λa w hI=>?_
 refine au ?_
 refine aZ hI 5 [Uc 0 11 _,Uc 1 12 _,Uc 2 13 _,Uc 3 14 _,Uc 4 15 _] (.aj (.k .z)) ⟨ld,ld,KH (zv:=.agg #[.slice none 0 0,.int .i64 0]) 24 [.slice none 0 0,.int .i64 0] (λi=>eR (eD K L i) (if i=0 then k else l)) (bG K k) (bG L l),ln,mv,trivial⟩ (.aj (.oK (.kk .z))) λa w hI=>?_
 refine aF ?_
 refine sF [] [Uz 2 _,Uz 3 _,Uz 4 _,Uz 13 _,Uz 14 _] (λ(i:Nat)=>[]) (λ(i:Nat)=>[Uz 15 (pI (i:Int))]) (λ(i:Nat)=>i<=2) (λ(i:Nat)=>2-i) (0) (Nat.zero_le 2) hI trivial ⟨gi,gi,gi,gi,gi,gc,trivial⟩ ?_
 intro i a w hi hI
 refine aZ hI 1 [Uc 0 16 _] (.aj (.kk .z)) ⟨bn,trivial⟩ (.aj (.cE .z)) λa w hI=>?_
 refine au ?_
 refine gA hI (λt1=>?_) (λt1=>?_)
 ·
  refine ax ?_
  refine af ?_
  refine au ?_
  refine aF ?_
  refine bk hI 4 [⟨9,9,some 2,none,.ptr,24,2,true,pv _,[(3,pv _)]⟩] [] [Uc 0 17 _,Uc 1 18 _] .z (.aj (.cE .z)) ⟨ix,ld,tn [.n,.i],mW,trivial⟩ (.s .o .z) (.aj (.dm (.d .z))) λa w hI=>?_
  refine bk hI 3 [] [] [Uc 0 19 _,Uc 1 20 _,Uc 2 10 _] (.k .z) (.aj (.kk .z)) ⟨ld,uN eY (hφ:=hT i),mv,trivial⟩ (.d .z) (.aj (.dm (.k .z))) λa w hI=>?_
  refine aZ hI 2 [Uc 0 21 _,Uc 1 22 _] (.aj (.cE .z)) ⟨mv,bn,trivial⟩ (.aj (.dx (.k .z))) λa w hI=>?_
  refine gA hI (λt2=>?_) (λt2=>?_)
  ·exfalso; exact t2 (hE i)
  refine ax ?_
  refine aO ?_
  refine af ?_
  refine xy hI 2 [Uc 0 24 _,Uc 1 15 _] (.aj (.k (.t 1 (.kk .z)))) ⟨bn,mv,trivial⟩ (.aj (.fF (.dk .z))) λa w hI=>?_
  refine af ?_
  exact nF (i+1) (by omega) hI trivial ⟨gc,gc,gc,gc,gc,gc,trivial⟩ (by omega)
 ·
  refine bO ?_
  refine aB ?_
  refine aB ?_
  refine aR ?_
  refine af ?_
  refine au ?_
  refine aZ hI 6 [Uc 0 25 _,Uc 1 26 _,Uc 2 27 _,Uc 3 28 _,Uc 4 29 _,Uc 5 30 _] (.aj (.cE .z)) ⟨mv,bn,mv,gd λh=>iC h,gd λh=>oa h,pk,trivial⟩ (.dx (.d8 (.k .z))) λa w hI=>?_
  refine uR hI (λt3=>?_) (λt3=>?_)
  ·exfalso; simp only[Bool.or_eq_true,decide_eq_true_eq]at t3; omega
  refine ax ?_
  refine af ?_
  refine aZ hI 8 [Uc 0 31 _,Uc 1 32 _,Uc 2 33 _,Uc 3 34 _,Uc 4 35 _,Uc 5 36 _,Uc 6 6 _,Uc 7 7 _] (.aj .z) ⟨fP 0 1 false,ld,fP 0 1 false,ld,mv,Ln (F8 (K:=K) (L:=L)) (hφ:=⟨by omega,by omega,gv (bZ h.1.1),gv (bZ h.1.2),hin,by omega⟩),mv,mv,trivial⟩ (.d8 (.oF .z)) λa w hI=>?_
  refine aH ?_
  exact lY hI rfl fR fR
theorem Ak (_:True):K1 Tryz.prog 5 (eC L) (pB (decide ((L.length:Int)<=20))):=by
 intro M w0 v0 hM hv0
 refine rY (N:=6) Tryz.func5 rfl rfl rfl hM hv0 λa hI=>?_
 refine aZ hI 1 [Uc 0 2 _] (.k .z) ⟨mv,trivial⟩ (.kk .z) λa w hI=>?_
 refine aZ hI 4 [Uc 0 3 _,Uc 1 4 _,Uc 2 5 _,Uc 3 2 _] (.k (.t 3 .z)) ⟨mv,ln,bn,mv,trivial⟩ (.cH (.dk .z)) λa w hI=>?_
 refine aH ?_
 exact cT hI rfl fR
theorem Kf (hl:K.length=L.length) (h:∀q,q<K.length->ae K q=ae L q):K=L:=by
 refine List.ext_getElem hl λq h1 h2=>?_
 have e:=h q h1
 unfold ae at e
 rw[List.getD_eq_getElem?_getD,List.getD_eq_getElem?_getD,List.getElem?_eq_getElem h1,List.getElem?_eq_getElem h2]at e
 exact e
theorem Aj (h:K.length<=1000000/\L.length<=1000000):K2 Tryz.prog 9 (eC K) (eC L) (pB (decide (K=L))):=by
 intro M w0 v0 v1 hM hv0 jw
 refine rZ (N:=26) Tryz.func9 rfl rfl rfl hM hv0 jw λa hI=>?_
 refine aZ hI 1 [Uc 0 4 _] (.kk .z) ⟨mv,trivial⟩ (.cE .z) λa w hI=>?_
 refine au ?_
 refine aZ hI 5 [Uc 0 6 _,Uc 1 7 _,Uc 2 8 _,Uc 3 9 _,Uc 4 10 _] (.cE .z) ⟨mv,ln,mv,ln,bn,trivial⟩ (.dx (.dL .z)) λa w hI=>?_
 refine gA hI (λt1=>?_) (λt1=>?_)
 ·
  refine aZ hI 1 [Uc 0 4 _] (.kk (.t 0 (.k .z))) ⟨mv,trivial⟩ (.dm (.k .z)) λa w hI=>?_
  refine aH ?_
  refine aC ?_
  exact cT hI rfl (fR (hq:=kS (by rw[decide_eq_false]; intro e; rw[e]at t1; exact t1 rfl)))
 ·
  refine ax ?_
  refine af ?_
  refine au ?_
  refine aZ hI 3 [Uc 0 11 _,Uc 1 12 _,Uc 2 13 _] (.aj .z) ⟨mv,ln,mv,trivial⟩ (.dx (.KL .z)) λa w hI=>?_
  refine aF ?_
  refine sF [] [Uz 0 _,Uz 1 _,Uz 12 _] (λ(i:Nat)=>[]) (λ(i:Nat)=>[Uz 13 (pI (i:Int))]) (λ(i:Nat)=>i<=K.length/\∀q,q<i->ae K q=ae L q) (λ(i:Nat)=>K.length-i) (0) ⟨Nat.zero_le _,λ_ h=>absurd h (Nat.not_lt_zero _)⟩ hI trivial ⟨gi,gi,gi,gc,trivial⟩ ?_
  intro i a w hi hI
  refine aZ hI 1 [Uc 0 14 _] (.aj .z) ⟨bn,trivial⟩ (.aj (.k .z)) λa w hI=>?_
  refine au ?_
  refine gA hI (λt2=>?_) (λt2=>?_)
  ·
   refine ax ?_
   refine af ?_
   refine au ?_
   refine aF ?_
   refine aZ hI 2 [Uc 0 15 _,Uc 1 5 _] (.aj (.k .z)) ⟨mv,mv,trivial⟩ (.aj (.lO .z)) λa w hI=>?_
   refine Nf hI [0,0,3,7,0,0,48,112,255] [Uc 0 16 _,Uc 1 17 _,Uc 2 18 _,Uc 3 19 _,Uc 4 20 _,Uc 5 21 _,Uc 6 22 _,Uc 7 23 _,Uc 8 24 _] (.aj (.k .z)) ⟨mv,mv,ix,ld,mv,mv,ix,ld,RO,trivial⟩ (.aj (.d8 (.dk .z))) λa w hI=>?_
   refine gA hI (λt3=>?_) (λt3=>?_)
   ·
    refine aZ hI 1 [Uc 0 4 _] (.aj (.k .z)) ⟨mv,trivial⟩ (.aj (.dk .z)) λa w hI=>?_
    refine aH ?_
    refine aP ?_
    refine aC ?_
    refine aC ?_
    refine aP ?_
    refine aC ?_
    exact cT hI rfl (fR (hq:=kS (by rw[decide_eq_false]; intro e; rw[e]at t3; exact t3 rfl)))
   ·
    refine ax ?_
    refine aO ?_
    refine af ?_
    refine xy hI 2 [Uc 0 25 _,Uc 1 13 _] (.cE (.t 1 (.k .z))) ⟨bn,mv,trivial⟩ (.dx (.lO .z)) λa w hI=>?_
    refine af ?_
    exact nF (i+1) ⟨by omega,λq hq=>if e:q=i then by rw[e]; exact Decidable.not_not.1 t3 else hi.2 q (by omega)⟩ hI trivial ⟨gc,gc,gc,gc,trivial⟩ (by omega)
  ·
   refine bO ?_
   refine aB ?_
   refine aB ?_
   refine aR ?_
   refine af ?_
   refine aZ hI 1 [Uc 0 4 _] (.aj (.k .z)) ⟨mv,trivial⟩ (.cH (.dk .z)) λa w hI=>?_
   refine aH ?_
   exact cT hI rfl (fR (hq:=kS (by rw[decide_eq_true]; exact Kf (by omega) λq hq=>hi.2 q (by omega))))
end Wx
