import Derived.Test.YtocboimkilkklaaGreatJRC42
namespace Wx
set_option maxRecDepth 100000
set_option maxHeartbeats 1000000
open Go Go.RowKit Go.Proofs
set_option linter.unusedVariables false
attribute [local irreducible] OpOk
def lS (K L:List Pt) (i:Nat):List Pt:=if i=0 then K else L
def oo (K L:List Pt):Nat->List Pt
 |0=>[]
 |1=>K
 |_=>K++L
variable {K L:List Pt} {k:Nat}
theorem zG (h:k<2):(oo K L (k+1)).length=(oo K L k).length+(lS K L k).length:=by
 match k,h with
 |0,_=>show K.length=0+K.length; omega
 |1,_=>show(K++L).length=K.length+L.length; rw[List.length_append]
theorem Dp (h:k<=2):(oo K L k).length<=K.length+L.length:=by
 match k,h with
 |0,_=>exact Nat.zero_le _
 |1,_=>exact Nat.le_add_right _ _
 |2,_=>show(K++L).length<=_; rw[List.length_append]; exact Nat.le_refl _
theorem NJ (h:k<2):∀i w v,(if i<(oo K L k).length then gn (aF (K++L) i)else gn (aF (lS K L k) (i-(oo K L k).length))) w v->i<(oo K L k).length+(lS K L k).length->gn (aF (K++L) i) w v:=λi w v hp hi=>by
 by_cases h1:i<(oo K L k).length
 ·rw[if_pos h1]at hp; exact hp
 ·rw[if_neg h1]at hp
  have e:aF (K++L) i=aF (lS K L k) (i-(oo K L k).length):=by
   unfold aF
   match k,h with
   |0,_=>
    have hi:i<0+K.length:=hi
    show(K++L).getD i (0,0)=K.getD (i-0) (0,0)
    rw[List.getD_eq_getElem?_getD,List.getD_eq_getElem?_getD,List.getElem?_append_left (by omega),Nat.sub_zero]
   |1,_=>
    have h1:¬i<K.length:=h1
    show(K++L).getD i (0,0)=L.getD (i-K.length) (0,0)
    rw[List.getD_eq_getElem?_getD,List.getD_eq_getElem?_getD,List.getElem?_append_right (by omega)]
  rw[e]
  exact hp
theorem Iu (h:0<K.length/\K.length<=400/\0<L.length/\L.length<=400):K1 Tryz.prog 63 (bR 1 false 2 λi=>lO (lS K L i)) (bR 2 true (K++L).length λi=>gn (aF (K++L) i)):=by
 intro M w0 v0 hM hv0
 have hT:∀k,0<(lS K L k).length/\(lS K L k).length<=400:=λk=>by unfold lS; split<;>omega
 refine Bu (N:=36) Tryz.func63 rfl rfl rfl hM hv0 λa hI=>?_
 refine dR hI 1 [Uc 0 2 _] (.k .z) ⟨mv,trivial⟩ (.kk .z) λa w hI=>?_
 refine dR hI 1 [Uc 0 3 _] (.kk .z) ⟨mv,trivial⟩ (.dF .z) λa w hI=>?_
 refine aC ?_
 refine dR hI 3 [Uc 0 9 _,Uc 1 10 _,Uc 2 11 _] (.dF .z) ⟨mv,ln,mv,trivial⟩ (.aA (.kk .z)) λa w hI=>?_
 refine aT ?_
 refine C5 [] [Uz 0 _,Uz 2 _,Uz 9 _,Uz 10 _] (λ(i:Nat)=>[]) (λ(i:Nat)=>[Uz 11 (pI (i:Int)),Uz 3 (pI ((oo K L i).length:Int))]) (λ(i:Nat)=>i<=2) (λ(i:Nat)=>2-i) (0) (Nat.zero_le 2) hI trivial ⟨gi,gi,gi,gi,gc,gc,trivial⟩ ?_
 intro i a w hi hI
 refine dR hI 1 [Uc 0 12 _] (.aA (.kk .z)) ⟨bn,trivial⟩ (.aA (.dF .z)) λa w hI=>?_
 refine aC ?_
 refine nX hI (λt1=>?_) (λt1=>?_)
 ·
  refine aM ?_
  refine af ?_
  refine aC ?_
  refine aT ?_
  refine dR hI 3 [Uc 0 13 _,Uc 1 14 _,Uc 2 5 _] (.aA (.dF .z)) ⟨ix,ld,mv,trivial⟩ (.aA (.eT (.dk .z))) λa w hI=>?_
  have oB:=zG (K:=K) (L:=L) (show i<2 by omega)
  have hcm:=Dp (K:=K) (L:=L) (show i<=2 by omega)
  have hT1:=hT i
  refine dR hI 5 [Uc 0 15 _,Uc 1 16 _,Uc 2 17 _,Uc 3 18 _,Uc 4 3 _] (.aA (.k (.t 4 (.k .z)))) ⟨mv,mv,ln,bn,mv,trivial⟩ (.aA (.jy (.iB .z))) λa w hI=>?_
  refine dR hI 2 [Uc 0 19 _,Uc 1 20 _] (.aA (.kk .z)) ⟨mv,bn,trivial⟩ (.aA (.mP .z)) λa w hI=>?_
  refine nX hI (λt2=>?_) (λt2=>?_)
  ·exfalso; omega
  refine aM ?_
  refine bz ?_
  refine af ?_
  refine JQ hI 2 [Uc 0 22 _,Uc 1 11 _] (.aA (.t 1 (.kk .z))) ⟨bn,mv,trivial⟩ (.aA (.KA (.k .z))) λa w hI=>?_
  refine af ?_
  exact AE (i+1) (by omega) hI trivial ⟨gc,gc,gc,gc,gc,gc,trivial⟩ (by omega)
 ·
  refine eJ ?_
  refine aL ?_
  refine aL ?_
  refine bM ?_
  refine af ?_
  obtain rfl:i=2:=by omega
  have hc0:0<(oo K L 2).length:=by show 0<(K++L).length; rw[List.length_append]; omega
  have qx:(oo K L 2).length<=1000000:=by show(K++L).length<=_; rw[List.length_append]; omega
  refine Bo hI 3 1 [] [] [Uc 0 23 _] .z (.aA (.dF .z)) ⟨mv,trivial⟩ .z (.eT (.iB .z)) (TB (λw=>OI (n:=(oo K L 2).length) ⟨hc0,qx⟩ (λi=>gn (aF (K++L) i)) w) (λ_=>gA _)) λa w hI=>?_
  obtain⟨XN,XR,Yt,hI⟩:=hI
  refine aC ?_
  refine bZ hI 3 [] [] [Uc 0 25 _,Uc 1 26 _,Uc 2 27 _] (.k .z) (.aA .z) ⟨mv,ln,mv,trivial⟩ (.k .z) (.K6 (.dF .z)) λa w hI=>?_
  refine aT ?_
  refine C5 [] [Uz 2 _,Uz 25 _,Uz 26 _] (λ(k:Nat×Option Addr×Nat)=>[(mL 24 2 (oo K L k.1).length true 68 (λi=>gn (aF (K++L) i)) (.slice k.2.1 (oo K L k.1).length k.2.2))]) (λ(k:Nat×Option Addr×Nat)=>[Uz 27 (pI (k.1:Int)),Uz 6 (bY (.slice k.2.1 (oo K L k.1).length k.2.2))]) (λ(k:Nat×Option Addr×Nat)=>k.1<=2) (λ(k:Nat×Option Addr×Nat)=>2-k.1) ((0,some ⟨XN,0,none⟩,XR)) (Nat.zero_le 2) hI ⟨PG,trivial⟩ ⟨gi,gi,gi,gc,gc,trivial⟩ ?_
  intro k a w hk hI
  refine bZ hI 1 [] [] [Uc 0 28 _] (.k .z) (.aA (.k .z)) ⟨bn,trivial⟩ (.k .z) (.aA (.kk .z)) λa w hI=>?_
  refine aC ?_
  refine nX hI (λt3=>?_) (λt3=>?_)
  ·
   refine aM ?_
   refine af ?_
   refine aC ?_
   refine aT ?_
   refine bZ hI 3 [] [] [Uc 0 29 _,Uc 1 30 _,Uc 2 8 _] (.k .z) (.aA (.kk .z)) ⟨ix,ld,mv,trivial⟩ (.k .z) (.aA (.jy (.k .z))) λa w hI=>?_
   have hk2:k.1<2:=by omega
   have oB:=zG (K:=K) (L:=L) hk2
   have hcm:=Dp (K:=K) (L:=L) (show k.1<=2 by omega)
   obtain⟨MB,hT3⟩:=hT k.1
   refine SZ hI 4 2 [] [] [Uc 0 31 _,Uc 1 32 _] (.k .z) (.aA (.kk .z)) ⟨mv,mv,trivial⟩ (.k .z) (.aA (.yb .z)) (Mn (n0:=0) (λi=>gn (aF (K++L) i)) (NJ hk2) MB (hnf:=λ_=>gA _) (hng:=λ_=>gA _) (hfit:=λ_=>lC _)) λa w hI=>?_
   obtain⟨s',hI⟩:=hI
   dsimp only[List.set]at hI
   obtain⟨X',cap',rfl,hcap⟩:=Ae hI 0 rfl
   rw[<-oB]at hI
   refine bz ?_
   refine af ?_
   refine ve hI 2 [] [] [Uc 0 34 _,Uc 1 27 _] (.k .z) (.aA (.t 1 (.kk .z))) ⟨bn,mv,trivial⟩ (.k .z) (.aA (.dO (.k .z))) λa w hI=>?_
   refine af ?_
   exact AE ((k.1+1,X',cap')) (by(show k.1+1<=2); omega) hI ⟨PG,trivial⟩ ⟨gc,gc,gc,gc,gc,trivial⟩ (by(show 2-(k.1+1)<2-k.1); omega)
  ·
   refine eJ ?_
   refine aL ?_
   refine aL ?_
   refine bM ?_
   refine af ?_
   obtain⟨k,X,cap⟩:=k
   obtain rfl:k=2:=by(have hk':k<=2:=hk); omega
   dsimp only at hI
   have hI:=Jq hI 0 6 rfl (by kernel_rfl)
   dsimp only[List.eraseIdx]at hI
   refine dR hI 2 [Uc 0 35 _,Uc 1 2 _] (.k (.t 1 (.aA (.k .z)))) ⟨mv,mv,trivial⟩ (.d8 (.k .z)) λa w hI=>?_
   refine aV ?_
   exact dD hI rfl mb
noncomputable def tT (L:List Pt):List Pt:=mO (sL L) (rL L) L.length
theorem Lc (h:xH L):K1 Tryz.prog 62 (lO L) (lO (tT L)):=by
 have k:=OJ h
 rw[<-Ff]at k
 exact k
structure Da (K L:List Pt) (k l:Int):Prop where
 one:mG K k=0
 two:mG L l=0
 Va:xH (K++L)
 XZ:(tT (K++L)).length<=10
theorem K8 {k l:Int} (h:Da K L k l):K2 Tryz.prog 22 (qM K k) (qM L l) (gh (qM (tT (K++L)) (mR k l)) (pI 0)):=by
 intro M w0 v0 v1 hM hv0 iK
 have hK:=nO (gG h.one)
 have hL:=nO (gG h.two)
 have hf:=h.XZ
 have hE:∀i,mG (lS K L i) (if i=0 then k else l)=0:=λi=>by by_cases e:i=0<;>simp only[lS,e,if_true,if_false]; exact h.one; exact h.two
 have hT:∀i,(lS K L i).length<=1000:=λi=>by unfold lS; split<;>omega
 refine ze (N:=43) Tryz.func22 rfl rfl rfl hM hv0 iK λa hI=>?_
 refine bZ hI 4 [⟨4,4,some 2,none,.ptr,71,2,true,pv _,[]⟩] [] [Uc 0 2 _,Uc 1 3 _,Uc 3 5 _] .z (.kk .z) ⟨GR 2 true (hf:=gY _ _),GR 2 true (hf:=gY _ _),me [.n,.i],mv,trivial⟩ (.k .z) (.yb (.k .z)) λa w hI=>?_
 refine aC ?_
 refine bZ hI 5 [] [] [Uc 0 10 _,Uc 1 11 _,Uc 2 12 _,Uc 3 13 _,Uc 4 14 _] (.k .z) (.dF .z) ⟨ld,ld,Sh (zv:=.agg #[.slice none 0 0,.int .i64 0]) 71 [.slice none 0 0,.int .i64 0] (λi=>qM (lS K L i) (if i=0 then k else l)) (gY K k) (gY L l),ln,mv,trivial⟩ (.k .z) (.iE (.EZ .z)) λa w hI=>?_
 refine aT ?_
 refine C5 [Vz 4 4 71 2 true _] [Uz 2 _,Uz 3 _,Uz 12 _,Uz 13 _] (λ(i:Nat)=>[]) (λ(i:Nat)=>[Uz 14 (pI (i:Int))]) (λ(i:Nat)=>i<=2) (λ(i:Nat)=>2-i) (0) (Nat.zero_le 2) hI ⟨vi,trivial⟩ ⟨gi,gi,gi,gi,gc,trivial⟩ ?_
 intro i a w hi hI
 refine bZ hI 1 [] [] [Uc 0 15 _] (.k .z) (.aA (.k .z)) ⟨bn,trivial⟩ (.k .z) (.aA (.kk .z)) λa w hI=>?_
 refine aC ?_
 refine nX hI (λt1=>?_) (λt1=>?_)
 ·
  refine aM ?_
  refine af ?_
  refine aC ?_
  refine aT ?_
  refine bZ hI 4 [⟨7,7,some 2,none,.ptr,71,2,true,pv _,[(3,pv _)]⟩] [] [Uc 0 16 _,Uc 1 17 _] (.k .z) (.aA (.kk .z)) ⟨ix,ld,me [.n,.i],gD,trivial⟩ (.k (.s .o .z)) (.aA (.jy .z)) λa w hI=>?_
  refine bZ hI 3 [] [] [Uc 0 18 _,Uc 1 19 _,Uc 2 8 _] (.k (.k .z)) (.aA (.k .z)) ⟨ld,Dq ko (hφ:=hT i),mv,trivial⟩ (.k (.d .z)) (.aA (.Cj .z)) λa w hI=>?_
  refine bZ hI 2 [] [] [Uc 0 20 _,Uc 1 21 _] (.k .z) (.aA (.kk .z)) ⟨mv,bn,trivial⟩ (.k .z) (.aA (.mP .z)) λa w hI=>?_
  refine nX hI (λt2=>?_) (λt2=>?_)
  ·exfalso; exact t2 (hE i)
  refine aM ?_
  refine bz ?_
  refine af ?_
  refine ve hI 2 [] [] [Uc 0 24 _,Uc 1 14 _] (.k .z) (.aA (.t 1 (.kk .z))) ⟨bn,mv,trivial⟩ (.k .z) (.aA (.dO (.k .z))) λa w hI=>?_
  refine af ?_
  exact AE (i+1) (by omega) hI ⟨vc,trivial⟩ ⟨gc,gc,gc,gc,gc,trivial⟩ (by omega)
 ·
  refine eJ ?_
  refine aL ?_
  refine aL ?_
  refine bM ?_
  refine af ?_
  refine bZ hI 8 [] [] [Uc 0 25 _,Uc 1 26 _,Uc 2 27 _,Uc 3 28 _,Uc 4 29 _,Uc 5 30 _,Uc 6 31 _,Uc 7 9 _] (.k .z) (.aA (.kk .z)) ⟨fP 0 1 false,ld,fP 0 1 false,ld,Sh (zv:=.slice none 0 0) 69 [.slice none 0 0] (λi=>lO (lS K L i)) mI mI,Dq (Iu (K:=K) (L:=L)) (hφ:=⟨by omega,by omega,by omega,by omega⟩),Dq Lc (hφ:=h.Va),mv,trivial⟩ (.k .z) (.eT (.d8 (.dk .z))) λa w hI=>?_
  refine aC ?_
  refine bZ hI 3 [] [] [Uc 0 32 _,Uc 1 33 _,Uc 2 34 _] (.k .z) (.dF .z) ⟨mv,ln,bn,trivial⟩ (.k .z) (.iE (.dk .z)) λa w hI=>?_
  refine nX hI (λt3=>?_) (λt3=>?_)
  ·exfalso; omega
  refine aM ?_
  refine af ?_
  refine bZ hI 9 [] [] [Uc 0 36 _,Uc 1 37 _,Uc 2 38 _,Uc 3 39 _,Uc 4 40 _,Uc 5 41 _,Uc 6 42 _,Uc 8 5 _] (.u none [(7,pv _)] .z) (.aA .z) ⟨mv,fP 1 1 false,ld,fP 1 1 false,ld,Zp,bd [.o .n,.o .i] [(0,_),(1,_)],gD,mv,trivial⟩ (.s .o .z) (.d8 (.iB .z)) λa w hI=>?_
  refine aV ?_
  exact yl hI rfl rK mb
end Wx

namespace Wx
set_option maxRecDepth 100000
set_option maxHeartbeats 1000000
open Go Go.RowKit Go.Proofs
set_option linter.unusedVariables false
attribute [local irreducible] OpOk
variable {K L:List Pt} {f:Int}
theorem La (h:K.length<=1000/\0<L.length/\Ei K/\Ei L/\MT K (aF L 0)=true/\0<K.length):K3 Tryz.prog 64 (lO K) (lO L) (pI f) (pB false):=by
 intro M w0 v0 v1 v2 hM hv0 iK hv2
 have hL:=h.2.1
 have hin:=h.2.2.2.2.1
 have hK:=h.2.2.2.2.2
 refine L9 (N:=80) Tryz.func64 rfl rfl rfl hM hv0 iK hv2 λa hI=>?_
 refine bZ hI 4 [⟨6,6,some 3,none,.ptr,4,1,false,pv _,[]⟩] [] [Uc 0 3 _,Uc 1 4 _,Uc 2 5 _] .z (.dF .z) ⟨GR 1 false,GR 1 false,GR 1 false,OP .b,trivial⟩ (.k .z) (.iB (.kk .z)) λa w hI=>?_
 refine aC ?_
 refine EB hI [0,0,2,6,15,31,63,63,191,447,1023,2047] [] [] [Uc 0 11 _,Uc 1 12 _,Uc 2 13 _,Uc 3 14 _,Uc 4 15 _,Uc 5 16 _,Uc 6 17 _,Uc 7 18 _,Uc 8 19 _,Uc 9 20 _,Uc 10 21 _,Uc 11 22 _] (.k .z) (.dF .z) ⟨ld,ld,ix,ld,zg (ua (L:=K) (p:=aF L 0)) (hφ:=⟨h.1,h.2.2.1,h.2.2.2.1 0 hL⟩),mv,gd λh=>rj h,gd λh=>rj h,gd λh=>Sr h,gd λh=>rj h,gd λh=>KG h (ua (L:=L) (p:=aF K 0)) (hφ:=by rw[hin]at h; cases h),pk,trivial⟩ (.k .z) (.iE (.d8 (.ya .z))) λa w hI=>?_
 refine ZF hI (show(MT K (aF L 0)||MT L (aF K 0))=true by rw[hin]; rfl) ?_
 refine bZ hI 1 [] [] [] (.u none [(0,pv _)] .z) (.aA .z) ⟨gD,trivial⟩ (.s .o .z) (.iE .z) λa w hI=>?_
 refine aV ?_
 refine aO ?_
 exact dD hI rfl rK
theorem K7 {k l:Int} (h:(mG K k=0/\mG L l=0)/\MT K (aF L 0)=true/\1<=f/\f<=2097152):K3 Tryz.prog 23 (qM K k) (qM L l) (pI f) (gh (pB false) (pI 0)):=by
 intro M w0 v0 v1 v2 hM hv0 iK hv2
 have hK:=nO (gG h.1.1)
 have hL:=nO (gG h.1.2)
 have hE:∀i,mG (lS K L i) (if i=0 then k else l)=0:=λi=>by by_cases e:i=0<;>simp only[lS,e,if_true,if_false]; exact h.1.1; exact h.1.2
 have hT:∀i,(lS K L i).length<=1000:=λi=>by unfold lS; split<;>omega
 have hin:=h.2.1
 have hf:=h.2.2
 refine L9 (N:=37) Tryz.func23 rfl rfl rfl hM hv0 iK hv2 λa hI=>?_
 refine dR hI 4 [Uc 0 3 _,Uc 1 4 _,Uc 2 6 _,Uc 3 7 _] (.dF .z) ⟨GR 2 true (hf:=gY _ _),GR 2 true (hf:=gY _ _),mv,mv,trivial⟩ (.yb (.dF .z)) λa w hI=>?_
 refine aC ?_
 refine dR hI 5 [Uc 0 11 _,Uc 1 12 _,Uc 2 13 _,Uc 3 14 _,Uc 4 15 _] (.aA (.k .z)) ⟨ld,ld,Sh (zv:=.agg #[.slice none 0 0,.int .i64 0]) 71 [.slice none 0 0,.int .i64 0] (λi=>qM (lS K L i) (if i=0 then k else l)) (gY K k) (gY L l),ln,mv,trivial⟩ (.aA (.Cj (.kk .z))) λa w hI=>?_
 refine aT ?_
 refine C5 [] [Uz 2 _,Uz 3 _,Uz 4 _,Uz 13 _,Uz 14 _] (λ(i:Nat)=>[]) (λ(i:Nat)=>[Uz 15 (pI (i:Int))]) (λ(i:Nat)=>i<=2) (λ(i:Nat)=>2-i) (0) (Nat.zero_le 2) hI trivial ⟨gi,gi,gi,gi,gi,gc,trivial⟩ ?_
 intro i a w hi hI
 refine dR hI 1 [Uc 0 16 _] (.aA (.kk .z)) ⟨bn,trivial⟩ (.aA (.dF .z)) λa w hI=>?_
 refine aC ?_
 refine nX hI (λt1=>?_) (λt1=>?_)
 ·
  refine aM ?_
  refine af ?_
  refine aC ?_
  refine aT ?_
  refine bZ hI 4 [⟨9,9,some 2,none,.ptr,71,2,true,pv _,[(3,pv _)]⟩] [] [Uc 0 17 _,Uc 1 18 _] .z (.aA (.dF .z)) ⟨ix,ld,me [.n,.i],gD,trivial⟩ (.s .o .z) (.aA (.eT (.d .z))) λa w hI=>?_
  refine bZ hI 3 [] [] [Uc 0 19 _,Uc 1 20 _,Uc 2 10 _] (.k .z) (.aA (.kk .z)) ⟨ld,Dq ko (hφ:=hT i),mv,trivial⟩ (.d .z) (.aA (.eT (.k .z))) λa w hI=>?_
  refine dR hI 2 [Uc 0 21 _,Uc 1 22 _] (.aA (.dF .z)) ⟨mv,bn,trivial⟩ (.aA (.iE (.k .z))) λa w hI=>?_
  refine nX hI (λt2=>?_) (λt2=>?_)
  ·exfalso; exact t2 (hE i)
  refine aM ?_
  refine bz ?_
  refine af ?_
  refine JQ hI 2 [Uc 0 24 _,Uc 1 15 _] (.aA (.k (.t 1 (.kk .z)))) ⟨bn,mv,trivial⟩ (.aA (.jy (.dk .z))) λa w hI=>?_
  refine af ?_
  exact AE (i+1) (by omega) hI trivial ⟨gc,gc,gc,gc,gc,gc,trivial⟩ (by omega)
 ·
  refine eJ ?_
  refine aL ?_
  refine aL ?_
  refine bM ?_
  refine af ?_
  refine aC ?_
  refine dR hI 6 [Uc 0 25 _,Uc 1 26 _,Uc 2 27 _,Uc 3 28 _,Uc 4 29 _,Uc 5 30 _] (.aA (.dF .z)) ⟨mv,bn,mv,gd λh=>yn h,gd λh=>Ad h,pk,trivial⟩ (.iE (.d8 (.k .z))) λa w hI=>?_
  refine Ez hI (λt3=>?_) (λt3=>?_)
  ·exfalso; simp only[Bool.or_eq_true,decide_eq_true_eq]at t3; omega
  refine aM ?_
  refine af ?_
  refine dR hI 8 [Uc 0 31 _,Uc 1 32 _,Uc 2 33 _,Uc 3 34 _,Uc 4 35 _,Uc 5 36 _,Uc 6 6 _,Uc 7 7 _] (.aA .z) ⟨fP 0 1 false,ld,fP 0 1 false,ld,mv,Sj (La (K:=K) (L:=L)) (hφ:=⟨by omega,by omega,oL (gG h.1.1),oL (gG h.1.2),hin,by omega⟩),mv,mv,trivial⟩ (.d8 (.yb .z)) λa w hI=>?_
  refine aV ?_
  exact yl hI rfl mb mb
theorem O8 (hl:K.length=L.length) (h:∀q,q<K.length->aF K q=aF L q):K=L:=by
 refine List.ext_getElem hl λq h1 h2=>?_
 have e:=h q h1
 unfold aF at e
 rw[List.getD_eq_getElem?_getD,List.getD_eq_getElem?_getD,List.getElem?_eq_getElem h1,List.getElem?_eq_getElem h2]at e
 exact e
theorem Lf (h:K.length<=1000000/\L.length<=1000000):K2 Tryz.prog 26 (lO K) (lO L) (pB (decide (K=L))):=by
 intro M w0 v0 v1 hM hv0 iK
 refine ze (N:=26) Tryz.func26 rfl rfl rfl hM hv0 iK λa hI=>?_
 refine dR hI 1 [Uc 0 4 _] (.kk .z) ⟨mv,trivial⟩ (.dF .z) λa w hI=>?_
 refine aC ?_
 refine dR hI 5 [Uc 0 6 _,Uc 1 7 _,Uc 2 8 _,Uc 3 9 _,Uc 4 10 _] (.dF .z) ⟨mv,ln,mv,ln,bn,trivial⟩ (.iE (.iB .z)) λa w hI=>?_
 refine nX hI (λt1=>?_) (λt1=>?_)
 ·
  refine dR hI 1 [Uc 0 4 _] (.kk (.t 0 (.k .z))) ⟨mv,trivial⟩ (.eT (.k .z)) λa w hI=>?_
  refine aV ?_
  refine aO ?_
  exact dD hI rfl (mb (hq:=jK (by rw[decide_eq_false]; intro e; rw[e]at t1; exact t1 rfl)))
 ·
  refine aM ?_
  refine af ?_
  refine aC ?_
  refine dR hI 3 [Uc 0 11 _,Uc 1 12 _,Uc 2 13 _] (.aA .z) ⟨mv,ln,mv,trivial⟩ (.iE (.Qd .z)) λa w hI=>?_
  refine aT ?_
  refine C5 [] [Uz 0 _,Uz 1 _,Uz 12 _] (λ(i:Nat)=>[]) (λ(i:Nat)=>[Uz 13 (pI (i:Int))]) (λ(i:Nat)=>i<=K.length/\∀q,q<i->aF K q=aF L q) (λ(i:Nat)=>K.length-i) (0) ⟨Nat.zero_le _,λ_ h=>absurd h (Nat.not_lt_zero _)⟩ hI trivial ⟨gi,gi,gi,gc,trivial⟩ ?_
  intro i a w hi hI
  refine dR hI 1 [Uc 0 14 _] (.aA .z) ⟨bn,trivial⟩ (.aA (.k .z)) λa w hI=>?_
  refine aC ?_
  refine nX hI (λt2=>?_) (λt2=>?_)
  ·
   refine aM ?_
   refine af ?_
   refine aC ?_
   refine aT ?_
   refine dR hI 2 [Uc 0 15 _,Uc 1 5 _] (.aA (.k .z)) ⟨mv,mv,trivial⟩ (.aA (.ya .z)) λa w hI=>?_
   refine VQ hI [0,0,3,7,0,0,48,112,255] [Uc 0 16 _,Uc 1 17 _,Uc 2 18 _,Uc 3 19 _,Uc 4 20 _,Uc 5 21 _,Uc 6 22 _,Uc 7 23 _,Uc 8 24 _] (.aA (.k .z)) ⟨mv,mv,ix,ld,mv,mv,ix,ld,Zq,trivial⟩ (.aA (.d8 (.dk .z))) λa w hI=>?_
   refine nX hI (λt3=>?_) (λt3=>?_)
   ·
    refine dR hI 1 [Uc 0 4 _] (.aA (.k .z)) ⟨mv,trivial⟩ (.aA (.dk .z)) λa w hI=>?_
    refine aV ?_
    refine bT ?_
    refine aO ?_
    refine aO ?_
    refine bT ?_
    refine aO ?_
    exact dD hI rfl (mb (hq:=jK (by rw[decide_eq_false]; intro e; rw[e]at t3; exact t3 rfl)))
   ·
    refine aM ?_
    refine bz ?_
    refine af ?_
    refine JQ hI 2 [Uc 0 25 _,Uc 1 13 _] (.dF (.t 1 (.k .z))) ⟨bn,mv,trivial⟩ (.iE (.ya .z)) λa w hI=>?_
    refine af ?_
    exact AE (i+1) ⟨by omega,λq hq=>if e:q=i then by rw[e]; exact Decidable.not_not.1 t3 else hi.2 q (by omega)⟩ hI trivial ⟨gc,gc,gc,gc,trivial⟩ (by omega)
  ·
   refine eJ ?_
   refine aL ?_
   refine aL ?_
   refine bM ?_
   refine af ?_
   refine dR hI 1 [Uc 0 4 _] (.aA (.k .z)) ⟨mv,trivial⟩ (.dO (.dk .z)) λa w hI=>?_
   refine aV ?_
   exact dD hI rfl (mb (hq:=jK (by rw[decide_eq_true]; exact O8 (by omega) λq hq=>hi.2 q (by omega))))
end Wx
