import Derived.Test.YtadigiledciihaaGreatJRR45
namespace Wx
set_option maxRecDepth 100000
set_option maxHeartbeats 1000000
open Go Go.RowKit Go.Proofs
set_option linter.unusedVariables false
attribute [local irreducible] OpOk
def jQ (K L:List Pt) (i:Nat):List Pt:=if i=0 then K else L
def my (K L:List Pt):Nat->List Pt
 |0=>[]
 |1=>K
 |_=>K++L
variable {K L:List Pt} {k:Nat}
theorem wj (h:k<2):(my K L (k+1)).length=(my K L k).length+(jQ K L k).length:=by
 match k,h with
 |0,_=>show K.length=0+K.length; omega
 |1,_=>show(K++L).length=K.length+L.length; rw[List.length_append]
theorem zZ (h:k<=2):(my K L k).length<=K.length+L.length:=by
 match k,h with
 |0,_=>exact Nat.zero_le _
 |1,_=>exact Nat.le_add_right _ _
 |2,_=>show(K++L).length<=_; rw[List.length_append]; exact Nat.le_refl _
theorem Jp (h:k<2):∀i w v,(if i<(my K L k).length then dS (av (K++L) i)else dS (av (jQ K L k) (i-(my K L k).length))) w v->i<(my K L k).length+(jQ K L k).length->dS (av (K++L) i) w v:=λi w v hp hi=>by
 by_cases h1:i<(my K L k).length
 ·rw[if_pos h1]at hp; exact hp
 ·rw[if_neg h1]at hp
  have e:av (K++L) i=av (jQ K L k) (i-(my K L k).length):=by
   unfold av
   match k,h with
   |0,_=>
    have hi:i<0+K.length:=hi
    show(K++L).getD i (0,0)=K.getD (i-0) (0,0)
    rw[List.getD_eq_getElem?_getD,List.getD_eq_getElem?_getD,List.getElem?_append_left (by omega),Nat.sub_zero]
   |1,_=>
    have h1:¬i<K.length:=h1
    show(K++L).getD i (0,0)=L.getD (i-K.length) (0,0)
    rw[List.getD_eq_getElem?_getD,List.getD_eq_getElem?_getD,List.getElem?_append_right (by omega)]
  rw[e]
  exact hp
theorem DK (h:0<K.length/\K.length<=400/\0<L.length/\L.length<=400):K1 Tryz.prog 36 (cA 1 false 2 λi=>fT (jQ K L i)) (cA 2 true (K++L).length λi=>dS (av (K++L) i)):=by
 intro M w0 v0 hM hv0
 have hT:∀k,0<(jQ K L k).length/\(jQ K L k).length<=400:=λk=>by unfold jQ; split<;>omega
 refine sU (N:=36) Tryz.func36 rfl rfl rfl hM hv0 λa hI=>?_
 refine bg hI 1 [Uc 0 2 _] (.k .z) ⟨mv,trivial⟩ (.kk .z) λa w hI=>?_
 refine bg hI 1 [Uc 0 3 _] (.kk .z) ⟨mv,trivial⟩ (.dr .z) λa w hI=>?_
 refine az ?_
 refine bg hI 3 [Uc 0 9 _,Uc 1 10 _,Uc 2 11 _] (.dr .z) ⟨mv,ln,mv,trivial⟩ (.au (.kk .z)) λa w hI=>?_
 refine aK ?_
 refine vK [] [Uz 0 _,Uz 2 _,Uz 9 _,Uz 10 _] (λ(i:Nat)=>[]) (λ(i:Nat)=>[Uz 11 (pI (i:Int)),Uz 3 (pI ((my K L i).length:Int))]) (λ(i:Nat)=>i<=2) (λ(i:Nat)=>2-i) (0) (Nat.zero_le 2) hI trivial ⟨gi,gi,gi,gi,gc,gc,trivial⟩ ?_
 intro i a w hi hI
 refine bg hI 1 [Uc 0 12 _] (.au (.kk .z)) ⟨bn,trivial⟩ (.au (.dr .z)) λa w hI=>?_
 refine az ?_
 refine kp hI (λt1=>?_) (λt1=>?_)
 ·
  refine aG ?_
  refine af ?_
  refine az ?_
  refine aK ?_
  refine bg hI 3 [Uc 0 13 _,Uc 1 14 _,Uc 2 5 _] (.au (.dr .z)) ⟨ix,ld,mv,trivial⟩ (.au (.e9 (.dk .z))) λa w hI=>?_
  have qU:=wj (K:=K) (L:=L) (show i<2 by omega)
  have hcm:=zZ (K:=K) (L:=L) (show i<=2 by omega)
  have hT1:=hT i
  refine bg hI 5 [Uc 0 15 _,Uc 1 16 _,Uc 2 17 _,Uc 3 18 _,Uc 4 3 _] (.au (.k (.t 4 (.k .z)))) ⟨mv,mv,ln,bn,mv,trivial⟩ (.au (.jE (.eM .z))) λa w hI=>?_
  refine bg hI 2 [Uc 0 19 _,Uc 1 20 _] (.au (.kk .z)) ⟨mv,bn,trivial⟩ (.au (.nu .z)) λa w hI=>?_
  refine kp hI (λt2=>?_) (λt2=>?_)
  ·exfalso; omega
  refine aG ?_
  refine bk ?_
  refine af ?_
  refine sq hI 2 [Uc 0 22 _,Uc 1 11 _] (.au (.t 1 (.kk .z))) ⟨bn,mv,trivial⟩ (.au (.Lx (.k .z))) λa w hI=>?_
  refine af ?_
  exact vI (i+1) (by omega) hI trivial ⟨gc,gc,gc,gc,gc,gc,trivial⟩ (by omega)
 ·
  refine cI ?_
  refine aJ ?_
  refine aJ ?_
  refine bp ?_
  refine af ?_
  obtain rfl:i=2:=by omega
  have hc0:0<(my K L 2).length:=by show 0<(K++L).length; rw[List.length_append]; omega
  have pD:(my K L 2).length<=1000000:=by show(K++L).length<=_; rw[List.length_append]; omega
  refine x5 hI 3 1 [] [] [Uc 0 23 _] .z (.au (.dr .z)) ⟨mv,trivial⟩ .z (.e9 (.eM .z)) (Oo (λw=>Kc (n:=(my K L 2).length) ⟨hc0,pD⟩ (λi=>dS (av (K++L) i)) w) (λ_=>fg _)) λa w hI=>?_
  obtain⟨SG,SK,Tk,hI⟩:=hI
  refine az ?_
  refine bJ hI 3 [] [] [Uc 0 25 _,Uc 1 26 _,Uc 2 27 _] (.k .z) (.au .z) ⟨mv,ln,mv,trivial⟩ (.k .z) (.Qo (.dr .z)) λa w hI=>?_
  refine aK ?_
  refine vK [] [Uz 2 _,Uz 25 _,Uz 26 _] (λ(k:Nat×Option Addr×Nat)=>[(kR 24 2 (my K L k.1).length true 26 (λi=>dS (av (K++L) i)) (.slice k.2.1 (my K L k.1).length k.2.2))]) (λ(k:Nat×Option Addr×Nat)=>[Uz 27 (pI (k.1:Int)),Uz 6 (bN (.slice k.2.1 (my K L k.1).length k.2.2))]) (λ(k:Nat×Option Addr×Nat)=>k.1<=2) (λ(k:Nat×Option Addr×Nat)=>2-k.1) ((0,some ⟨SG,0,none⟩,SK)) (Nat.zero_le 2) hI ⟨K9,trivial⟩ ⟨gi,gi,gi,gc,gc,trivial⟩ ?_
  intro k a w hk hI
  refine bJ hI 1 [] [] [Uc 0 28 _] (.k .z) (.au (.k .z)) ⟨bn,trivial⟩ (.k .z) (.au (.kk .z)) λa w hI=>?_
  refine az ?_
  refine kp hI (λt3=>?_) (λt3=>?_)
  ·
   refine aG ?_
   refine af ?_
   refine az ?_
   refine aK ?_
   refine bJ hI 3 [] [] [Uc 0 29 _,Uc 1 30 _,Uc 2 8 _] (.k .z) (.au (.kk .z)) ⟨ix,ld,mv,trivial⟩ (.k .z) (.au (.jE (.k .z))) λa w hI=>?_
   have hk2:k.1<2:=by omega
   have qU:=wj (K:=K) (L:=L) hk2
   have hcm:=zZ (K:=K) (L:=L) (show k.1<=2 by omega)
   obtain⟨LQ,hT3⟩:=hT k.1
   refine NS hI 4 2 [] [] [Uc 0 31 _,Uc 1 32 _] (.k .z) (.au (.kk .z)) ⟨mv,mv,trivial⟩ (.k .z) (.au (.uw .z)) (Hw (n0:=0) (λi=>dS (av (K++L) i)) (Jp hk2) LQ (hnf:=λ_=>fg _) (hng:=λ_=>fg _) (hfit:=λ_=>jz _)) λa w hI=>?_
   obtain⟨s',hI⟩:=hI
   dsimp only[List.set]at hI
   obtain⟨X',cap',rfl,hcap⟩:=wS hI 0 rfl
   rw[<-qU]at hI
   refine bk ?_
   refine af ?_
   refine yc hI 2 [] [] [Uc 0 34 _,Uc 1 27 _] (.k .z) (.au (.t 1 (.kk .z))) ⟨bn,mv,trivial⟩ (.k .z) (.au (.dD (.k .z))) λa w hI=>?_
   refine af ?_
   exact vI ((k.1+1,X',cap')) (by(show k.1+1<=2); omega) hI ⟨K9,trivial⟩ ⟨gc,gc,gc,gc,gc,trivial⟩ (by(show 2-(k.1+1)<2-k.1); omega)
  ·
   refine cI ?_
   refine aJ ?_
   refine aJ ?_
   refine bp ?_
   refine af ?_
   obtain⟨k,X,cap⟩:=k
   obtain rfl:k=2:=by(have hk':k<=2:=hk); omega
   dsimp only at hI
   have hI:=EA hI 0 6 rfl (by kernel_rfl)
   dsimp only[List.eraseIdx]at hI
   refine bg hI 2 [Uc 0 35 _,Uc 1 2 _] (.k (.t 1 (.au (.k .z)))) ⟨mv,mv,trivial⟩ (.d8 (.k .z)) λa w hI=>?_
   refine aI ?_
   exact cF hI rfl fE
noncomputable def qY (L:List Pt):List Pt:=kU (sL L) (rL L) L.length
theorem Gk (h:ud L):K1 Tryz.prog 35 (fT L) (fT (qY L)):=by
 have k:=Ke h
 rw[<-BF]at k
 exact k
structure zP (K L:List Pt) (k l:Int):Prop where
 one:eO K k=0
 two:eO L l=0
 Qa:ud (K++L)
 SV:(qY (K++L)).length<=10
theorem Gh {k l:Int} (h:zP K L k l):K2 Tryz.prog 15 (ko K k) (ko L l) (gn (ko (qY (K++L)) (kZ k l)) (pI 0)):=by
 intro M w0 v0 v1 hM hv0 ir
 have hK:=lW (dZ h.one)
 have hL:=lW (dZ h.two)
 have hf:=h.SV
 have hE:∀i,eO (jQ K L i) (if i=0 then k else l)=0:=λi=>by by_cases e:i=0<;>simp only[jQ,e,if_true,if_false]; exact h.one; exact h.two
 have hT:∀i,(jQ K L i).length<=1000:=λi=>by unfold jQ; split<;>omega
 refine vF (N:=43) Tryz.func15 rfl rfl rfl hM hv0 ir λa hI=>?_
 refine bJ hI 4 [⟨4,4,some 2,none,.ptr,24,2,true,pv _,[]⟩] [] [Uc 0 2 _,Uc 1 3 _,Uc 3 5 _] .z (.kk .z) ⟨yu 2 true (hf:=eZ _ _),yu 2 true (hf:=eZ _ _),tJ [.n,.i],mv,trivial⟩ (.k .z) (.uw (.k .z)) λa w hI=>?_
 refine az ?_
 refine bJ hI 5 [] [] [Uc 0 10 _,Uc 1 11 _,Uc 2 12 _,Uc 3 13 _,Uc 4 14 _] (.k .z) (.dr .z) ⟨ld,ld,Nw (zv:=.agg #[.slice none 0 0,.int .i64 0]) 24 [.slice none 0 0,.int .i64 0] (λi=>ko (jQ K L i) (if i=0 then k else l)) (eZ K k) (eZ L l),ln,mv,trivial⟩ (.k .z) (.fc (.C7 .z)) λa w hI=>?_
 refine aK ?_
 refine vK [Vz 4 4 24 2 true _] [Uz 2 _,Uz 3 _,Uz 12 _,Uz 13 _] (λ(i:Nat)=>[]) (λ(i:Nat)=>[Uz 14 (pI (i:Int))]) (λ(i:Nat)=>i<=2) (λ(i:Nat)=>2-i) (0) (Nat.zero_le 2) hI ⟨vi,trivial⟩ ⟨gi,gi,gi,gi,gc,trivial⟩ ?_
 intro i a w hi hI
 refine bJ hI 1 [] [] [Uc 0 15 _] (.k .z) (.au (.k .z)) ⟨bn,trivial⟩ (.k .z) (.au (.kk .z)) λa w hI=>?_
 refine az ?_
 refine kp hI (λt1=>?_) (λt1=>?_)
 ·
  refine aG ?_
  refine af ?_
  refine az ?_
  refine aK ?_
  refine bJ hI 4 [⟨7,7,some 2,none,.ptr,24,2,true,pv _,[(3,pv _)]⟩] [] [Uc 0 16 _,Uc 1 17 _] (.k .z) (.au (.kk .z)) ⟨ix,ld,tJ [.n,.i],mQ,trivial⟩ (.k (.s .o .z)) (.au (.jE .z)) λa w hI=>?_
  refine bJ hI 3 [] [] [Uc 0 18 _,Uc 1 19 _,Uc 2 8 _] (.k (.k .z)) (.au (.k .z)) ⟨ld,sE fJ (hφ:=hT i),mv,trivial⟩ (.k (.d .z)) (.au (.w9 .z)) λa w hI=>?_
  refine bJ hI 2 [] [] [Uc 0 20 _,Uc 1 21 _] (.k .z) (.au (.kk .z)) ⟨mv,bn,trivial⟩ (.k .z) (.au (.nu .z)) λa w hI=>?_
  refine kp hI (λt2=>?_) (λt2=>?_)
  ·exfalso; exact t2 (hE i)
  refine aG ?_
  refine bk ?_
  refine af ?_
  refine yc hI 2 [] [] [Uc 0 24 _,Uc 1 14 _] (.k .z) (.au (.t 1 (.kk .z))) ⟨bn,mv,trivial⟩ (.k .z) (.au (.dD (.k .z))) λa w hI=>?_
  refine af ?_
  exact vI (i+1) (by omega) hI ⟨vc,trivial⟩ ⟨gc,gc,gc,gc,gc,trivial⟩ (by omega)
 ·
  refine cI ?_
  refine aJ ?_
  refine aJ ?_
  refine bp ?_
  refine af ?_
  refine bJ hI 8 [] [] [Uc 0 25 _,Uc 1 26 _,Uc 2 27 _,Uc 3 28 _,Uc 4 29 _,Uc 5 30 _,Uc 6 31 _,Uc 7 9 _] (.k .z) (.au (.kk .z)) ⟨fP 0 1 false,ld,fP 0 1 false,ld,Nw (zv:=.slice none 0 0) 22 [.slice none 0 0] (λi=>fT (jQ K L i)) kO kO,sE (DK (K:=K) (L:=L)) (hφ:=⟨by omega,by omega,by omega,by omega⟩),sE Gk (hφ:=h.Qa),mv,trivial⟩ (.k .z) (.e9 (.d8 (.dk .z))) λa w hI=>?_
  refine az ?_
  refine bJ hI 3 [] [] [Uc 0 32 _,Uc 1 33 _,Uc 2 34 _] (.k .z) (.dr .z) ⟨mv,ln,bn,trivial⟩ (.k .z) (.fc (.dk .z)) λa w hI=>?_
  refine kp hI (λt3=>?_) (λt3=>?_)
  ·exfalso; omega
  refine aG ?_
  refine af ?_
  refine bJ hI 9 [] [] [Uc 0 36 _,Uc 1 37 _,Uc 2 38 _,Uc 3 39 _,Uc 4 40 _,Uc 5 41 _,Uc 6 42 _,Uc 8 5 _] (.u none [(7,pv _)] .z) (.au .z) ⟨mv,fP 1 1 false,ld,fP 1 1 false,ld,Ud,bd [.o .n,.o .i] [(0,_),(1,_)],mQ,mv,trivial⟩ (.s .o .z) (.d8 (.eM .z)) λa w hI=>?_
  refine aI ?_
  exact qN hI rfl CA fE
end Wx

namespace Wx
set_option maxRecDepth 100000
set_option maxHeartbeats 1000000
open Go Go.RowKit Go.Proofs
set_option linter.unusedVariables false
attribute [local irreducible] OpOk
variable {K L:List Pt} {f:Int}
theorem Gi (h:K.length<=1000/\0<L.length/\AJ K/\AJ L/\IA K (av L 0)=true/\0<K.length):K3 Tryz.prog 38 (fT K) (fT L) (pI f) (pB false):=by
 intro M w0 v0 v1 v2 hM hv0 ir hv2
 have hL:=h.2.1
 have hin:=h.2.2.2.2.1
 have hK:=h.2.2.2.2.2
 refine zJ (N:=80) Tryz.func38 rfl rfl rfl hM hv0 ir hv2 λa hI=>?_
 refine bJ hI 4 [⟨6,6,some 3,none,.ptr,4,1,false,pv _,[]⟩] [] [Uc 0 3 _,Uc 1 4 _,Uc 2 5 _] .z (.dr .z) ⟨yu 1 false,yu 1 false,yu 1 false,Gu .b,trivial⟩ (.k .z) (.eM (.kk .z)) λa w hI=>?_
 refine az ?_
 refine Fb hI [0,0,2,6,15,31,63,63,191,447,1023,2047] [] [] [Uc 0 11 _,Uc 1 12 _,Uc 2 13 _,Uc 3 14 _,Uc 4 15 _,Uc 5 16 _,Uc 6 17 _,Uc 7 18 _,Uc 8 19 _,Uc 9 20 _,Uc 10 21 _,Uc 11 22 _] (.k .z) (.dr .z) ⟨ld,ld,ix,ld,FD (q9 (L:=K) (p:=av L 0)) (hφ:=⟨h.1,h.2.2.1,h.2.2.2.1 0 hL⟩),mv,gd λh=>jC h,gd λh=>jC h,gd λh=>Dh h,gd λh=>jC h,gd λh=>JF h (q9 (L:=L) (p:=av K 0)) (hφ:=by rw[hin]at h; cases h),pk,trivial⟩ (.k .z) (.fc (.d8 (.n5 .z))) λa w hI=>?_
 refine Uv hI (show(IA K (av L 0)||IA L (av K 0))=true by rw[hin]; rfl) ?_
 refine bJ hI 1 [] [] [] (.u none [(0,pv _)] .z) (.au .z) ⟨mQ,trivial⟩ (.s .o .z) (.fc .z) λa w hI=>?_
 refine aI ?_
 refine aF ?_
 exact cF hI rfl CA
theorem Gg {k l:Int} (h:(eO K k=0/\eO L l=0)/\IA K (av L 0)=true/\1<=f/\f<=2097152):K3 Tryz.prog 18 (ko K k) (ko L l) (pI f) (gn (pB false) (pI 0)):=by
 intro M w0 v0 v1 v2 hM hv0 ir hv2
 have hK:=lW (dZ h.1.1)
 have hL:=lW (dZ h.1.2)
 have hE:∀i,eO (jQ K L i) (if i=0 then k else l)=0:=λi=>by by_cases e:i=0<;>simp only[jQ,e,if_true,if_false]; exact h.1.1; exact h.1.2
 have hT:∀i,(jQ K L i).length<=1000:=λi=>by unfold jQ; split<;>omega
 have hin:=h.2.1
 have hf:=h.2.2
 refine zJ (N:=37) Tryz.func18 rfl rfl rfl hM hv0 ir hv2 λa hI=>?_
 refine bg hI 4 [Uc 0 3 _,Uc 1 4 _,Uc 2 6 _,Uc 3 7 _] (.dr .z) ⟨yu 2 true (hf:=eZ _ _),yu 2 true (hf:=eZ _ _),mv,mv,trivial⟩ (.uw (.dr .z)) λa w hI=>?_
 refine az ?_
 refine bg hI 5 [Uc 0 11 _,Uc 1 12 _,Uc 2 13 _,Uc 3 14 _,Uc 4 15 _] (.au (.k .z)) ⟨ld,ld,Nw (zv:=.agg #[.slice none 0 0,.int .i64 0]) 24 [.slice none 0 0,.int .i64 0] (λi=>ko (jQ K L i) (if i=0 then k else l)) (eZ K k) (eZ L l),ln,mv,trivial⟩ (.au (.w9 (.kk .z))) λa w hI=>?_
 refine aK ?_
 refine vK [] [Uz 2 _,Uz 3 _,Uz 4 _,Uz 13 _,Uz 14 _] (λ(i:Nat)=>[]) (λ(i:Nat)=>[Uz 15 (pI (i:Int))]) (λ(i:Nat)=>i<=2) (λ(i:Nat)=>2-i) (0) (Nat.zero_le 2) hI trivial ⟨gi,gi,gi,gi,gi,gc,trivial⟩ ?_
 intro i a w hi hI
 refine bg hI 1 [Uc 0 16 _] (.au (.kk .z)) ⟨bn,trivial⟩ (.au (.dr .z)) λa w hI=>?_
 refine az ?_
 refine kp hI (λt1=>?_) (λt1=>?_)
 ·
  refine aG ?_
  refine af ?_
  refine az ?_
  refine aK ?_
  refine bJ hI 4 [⟨9,9,some 2,none,.ptr,24,2,true,pv _,[(3,pv _)]⟩] [] [Uc 0 17 _,Uc 1 18 _] .z (.au (.dr .z)) ⟨ix,ld,tJ [.n,.i],mQ,trivial⟩ (.s .o .z) (.au (.e9 (.d .z))) λa w hI=>?_
  refine bJ hI 3 [] [] [Uc 0 19 _,Uc 1 20 _,Uc 2 10 _] (.k .z) (.au (.kk .z)) ⟨ld,sE fJ (hφ:=hT i),mv,trivial⟩ (.d .z) (.au (.e9 (.k .z))) λa w hI=>?_
  refine bg hI 2 [Uc 0 21 _,Uc 1 22 _] (.au (.dr .z)) ⟨mv,bn,trivial⟩ (.au (.fc (.k .z))) λa w hI=>?_
  refine kp hI (λt2=>?_) (λt2=>?_)
  ·exfalso; exact t2 (hE i)
  refine aG ?_
  refine bk ?_
  refine af ?_
  refine sq hI 2 [Uc 0 24 _,Uc 1 15 _] (.au (.k (.t 1 (.kk .z)))) ⟨bn,mv,trivial⟩ (.au (.jE (.dk .z))) λa w hI=>?_
  refine af ?_
  exact vI (i+1) (by omega) hI trivial ⟨gc,gc,gc,gc,gc,gc,trivial⟩ (by omega)
 ·
  refine cI ?_
  refine aJ ?_
  refine aJ ?_
  refine bp ?_
  refine af ?_
  refine az ?_
  refine bg hI 6 [Uc 0 25 _,Uc 1 26 _,Uc 2 27 _,Uc 3 28 _,Uc 4 29 _,Uc 5 30 _] (.au (.dr .z)) ⟨mv,bn,mv,gd λh=>fl h,gd λh=>nh h,pk,trivial⟩ (.fc (.d8 (.k .z))) λa w hI=>?_
  refine vB hI (λt3=>?_) (λt3=>?_)
  ·exfalso; simp only[Bool.or_eq_true,decide_eq_true_eq]at t3; omega
  refine aG ?_
  refine af ?_
  refine bg hI 8 [Uc 0 31 _,Uc 1 32 _,Uc 2 33 _,Uc 3 34 _,Uc 4 35 _,Uc 5 36 _,Uc 6 6 _,Uc 7 7 _] (.au .z) ⟨fP 0 1 false,ld,fP 0 1 false,ld,mv,FE (Gi (K:=K) (L:=L)) (hφ:=⟨by omega,by omega,eD (dZ h.1.1),eD (dZ h.1.2),hin,by omega⟩),mv,mv,trivial⟩ (.d8 (.uw .z)) λa w hI=>?_
  refine aI ?_
  exact qN hI rfl fE fE
theorem Ar (_:True):K1 Tryz.prog 9 (fT L) (pB (decide ((L.length:Int)<=20))):=by
 intro M w0 v0 hM hv0
 refine sU (N:=6) Tryz.func9 rfl rfl rfl hM hv0 λa hI=>?_
 refine bg hI 1 [Uc 0 2 _] (.k .z) ⟨mv,trivial⟩ (.kk .z) λa w hI=>?_
 refine bg hI 4 [Uc 0 3 _,Uc 1 4 _,Uc 2 5 _,Uc 3 2 _] (.k (.t 3 .z)) ⟨mv,ln,bn,mv,trivial⟩ (.dD (.dk .z)) λa w hI=>?_
 refine aI ?_
 exact cF hI rfl fE
theorem Kv (hl:K.length=L.length) (h:∀q,q<K.length->av K q=av L q):K=L:=by
 refine List.ext_getElem hl λq h1 h2=>?_
 have e:=h q h1
 unfold av at e
 rw[List.getD_eq_getElem?_getD,List.getD_eq_getElem?_getD,List.getElem?_eq_getElem h1,List.getElem?_eq_getElem h2]at e
 exact e
theorem Gm (h:K.length<=1000000/\L.length<=1000000):K2 Tryz.prog 17 (fT K) (fT L) (pB (decide (K=L))):=by
 intro M w0 v0 v1 hM hv0 ir
 refine vF (N:=26) Tryz.func17 rfl rfl rfl hM hv0 ir λa hI=>?_
 refine bg hI 1 [Uc 0 4 _] (.kk .z) ⟨mv,trivial⟩ (.dr .z) λa w hI=>?_
 refine az ?_
 refine bg hI 5 [Uc 0 6 _,Uc 1 7 _,Uc 2 8 _,Uc 3 9 _,Uc 4 10 _] (.dr .z) ⟨mv,ln,mv,ln,bn,trivial⟩ (.fc (.eM .z)) λa w hI=>?_
 refine kp hI (λt1=>?_) (λt1=>?_)
 ·
  refine bg hI 1 [Uc 0 4 _] (.kk (.t 0 (.k .z))) ⟨mv,trivial⟩ (.e9 (.k .z)) λa w hI=>?_
  refine aI ?_
  refine aF ?_
  exact cF hI rfl (fE (hq:=ew (by rw[decide_eq_false]; intro e; rw[e]at t1; exact t1 rfl)))
 ·
  refine aG ?_
  refine af ?_
  refine az ?_
  refine bg hI 3 [Uc 0 11 _,Uc 1 12 _,Uc 2 13 _] (.au .z) ⟨mv,ln,mv,trivial⟩ (.fc (.Jx .z)) λa w hI=>?_
  refine aK ?_
  refine vK [] [Uz 0 _,Uz 1 _,Uz 12 _] (λ(i:Nat)=>[]) (λ(i:Nat)=>[Uz 13 (pI (i:Int))]) (λ(i:Nat)=>i<=K.length/\∀q,q<i->av K q=av L q) (λ(i:Nat)=>K.length-i) (0) ⟨Nat.zero_le _,λ_ h=>absurd h (Nat.not_lt_zero _)⟩ hI trivial ⟨gi,gi,gi,gc,trivial⟩ ?_
  intro i a w hi hI
  refine bg hI 1 [Uc 0 14 _] (.au .z) ⟨bn,trivial⟩ (.au (.k .z)) λa w hI=>?_
  refine az ?_
  refine kp hI (λt2=>?_) (λt2=>?_)
  ·
   refine aG ?_
   refine af ?_
   refine az ?_
   refine aK ?_
   refine bg hI 2 [Uc 0 15 _,Uc 1 5 _] (.au (.k .z)) ⟨mv,mv,trivial⟩ (.au (.n5 .z)) λa w hI=>?_
   refine Nl hI [0,0,3,7,0,0,48,112,255] [Uc 0 16 _,Uc 1 17 _,Uc 2 18 _,Uc 3 19 _,Uc 4 20 _,Uc 5 21 _,Uc 6 22 _,Uc 7 23 _,Uc 8 24 _] (.au (.k .z)) ⟨mv,mv,ix,ld,mv,mv,ix,ld,Ue,trivial⟩ (.au (.d8 (.dk .z))) λa w hI=>?_
   refine kp hI (λt3=>?_) (λt3=>?_)
   ·
    refine bg hI 1 [Uc 0 4 _] (.au (.k .z)) ⟨mv,trivial⟩ (.au (.dk .z)) λa w hI=>?_
    refine aI ?_
    refine aQ ?_
    refine aF ?_
    refine aF ?_
    refine aQ ?_
    refine aF ?_
    exact cF hI rfl (fE (hq:=ew (by rw[decide_eq_false]; intro e; rw[e]at t3; exact t3 rfl)))
   ·
    refine aG ?_
    refine bk ?_
    refine af ?_
    refine sq hI 2 [Uc 0 25 _,Uc 1 13 _] (.dr (.t 1 (.k .z))) ⟨bn,mv,trivial⟩ (.fc (.n5 .z)) λa w hI=>?_
    refine af ?_
    exact vI (i+1) ⟨by omega,λq hq=>if e:q=i then by rw[e]; exact Decidable.not_not.1 t3 else hi.2 q (by omega)⟩ hI trivial ⟨gc,gc,gc,gc,trivial⟩ (by omega)
  ·
   refine cI ?_
   refine aJ ?_
   refine aJ ?_
   refine bp ?_
   refine af ?_
   refine bg hI 1 [Uc 0 4 _] (.au (.k .z)) ⟨mv,trivial⟩ (.dD (.dk .z)) λa w hI=>?_
   refine aI ?_
   exact cF hI rfl (fE (hq:=ew (by rw[decide_eq_true]; exact Kv (by omega) λq hq=>hi.2 q (by omega))))
end Wx
