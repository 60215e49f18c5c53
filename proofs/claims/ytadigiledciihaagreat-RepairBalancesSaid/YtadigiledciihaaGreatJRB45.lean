import Derived.Test.YtadigiledciihaaGreatJRB44
import Derived.Test.YtadigiledciihaaGreatJRB41
namespace Wx
set_option maxRecDepth 100000
set_option maxHeartbeats 1000000
open Go Go.RowKit Go.Proofs
set_option linter.unusedVariables false
attribute [local irreducible] OpOk
def kE (K L:List Pt) (i:Nat):List Pt:=if i=0 then K else L
def mW (K L:List Pt):Nat->List Pt
 |0=>[]
 |1=>K
 |_=>K++L
variable {K L:List Pt} {k:Nat}
theorem xX (h:k<2):(mW K L (k+1)).length=(mW K L k).length+(kE K L k).length:=by
 match k,h with
 |0,_=>show K.length=0+K.length; omega
 |1,_=>show(K++L).length=K.length+L.length; rw[List.length_append]
theorem B4 (h:k<=2):(mW K L k).length<=K.length+L.length:=by
 match k,h with
 |0,_=>exact Nat.zero_le _
 |1,_=>exact Nat.le_add_right _ _
 |2,_=>show(K++L).length<=_; rw[List.length_append]; exact Nat.le_refl _
theorem Lv (h:k<2):∀i w v,(if i<(mW K L k).length then fq (aA (K++L) i)else fq (aA (kE K L k) (i-(mW K L k).length))) w v->i<(mW K L k).length+(kE K L k).length->fq (aA (K++L) i) w v:=λi w v hp hi=>by
 by_cases h1:i<(mW K L k).length
 ·rw[if_pos h1]at hp; exact hp
 ·rw[if_neg h1]at hp
  have e:aA (K++L) i=aA (kE K L k) (i-(mW K L k).length):=by
   unfold aA
   match k,h with
   |0,_=>
    have hi:i<0+K.length:=hi
    show(K++L).getD i (0,0)=K.getD (i-0) (0,0)
    rw[List.getD_eq_getElem?_getD,List.getD_eq_getElem?_getD,List.getElem?_append_left (by omega),Nat.sub_zero]
   |1,_=>
    have h1:¬i<K.length:=h1
    show(K++L).getD i (0,0)=L.getD (i-K.length) (0,0)
    rw[List.getD_eq_getElem?_getD,List.getD_eq_getElem?_getD,List.getElem?_append_right (by omega)]
  rw[e]
  exact hp
theorem FR (h:0<K.length/\K.length<=400/\0<L.length/\L.length<=400):K1 Tryz.prog 36 (bk 1 false 2 λi=>kz (kE K L i)) (bk 2 true (K++L).length λi=>fq (aA (K++L) i)):=by
 intro M w0 v0 hM hv0
 have hT:∀k,0<(kE K L k).length/\(kE K L k).length<=400:=λk=>by unfold kE; split<;>omega
 refine xA (N:=36) Tryz.func36 rfl rfl rfl hM hv0 λa hI=>?_
 refine cK hI 1 [Uc 0 2 _] (.k .z) ⟨mv,trivial⟩ (.kk .z) λa w hI=>?_
 refine cK hI 1 [Uc 0 3 _] (.kk .z) ⟨mv,trivial⟩ (.eH .z) λa w hI=>?_
 refine ax ?_
 refine cK hI 3 [Uc 0 9 _,Uc 1 10 _,Uc 2 11 _] (.eH .z) ⟨mv,ln,mv,trivial⟩ (.aB (.kk .z)) λa w hI=>?_
 refine aN ?_
 refine BF [] [Uz 0 _,Uz 2 _,Uz 9 _,Uz 10 _] (λ(i:Nat)=>[]) (λ(i:Nat)=>[Uz 11 (pI (i:Int)),Uz 3 (pI ((mW K L i).length:Int))]) (λ(i:Nat)=>i<=2) (λ(i:Nat)=>2-i) (0) (Nat.zero_le 2) hI trivial ⟨gi,gi,gi,gi,gc,gc,trivial⟩ ?_
 intro i a w hi hI
 refine cK hI 1 [Uc 0 12 _] (.aB (.kk .z)) ⟨bn,trivial⟩ (.aB (.eH .z)) λa w hI=>?_
 refine ax ?_
 refine mJ hI (λt1=>?_) (λt1=>?_)
 ·
  refine aF ?_
  refine ai ?_
  refine ax ?_
  refine aN ?_
  refine cK hI 3 [Uc 0 13 _,Uc 1 14 _,Uc 2 5 _] (.aB (.eH .z)) ⟨ix,ld,mv,trivial⟩ (.aB (.fM (.dk .z))) λa w hI=>?_
  have ni:=xX (K:=K) (L:=L) (show i<2 by omega)
  have hcm:=B4 (K:=K) (L:=L) (show i<=2 by omega)
  have hT1:=hT i
  refine cK hI 5 [Uc 0 15 _,Uc 1 16 _,Uc 2 17 _,Uc 3 18 _,Uc 4 3 _] (.aB (.k (.t 4 (.k .z)))) ⟨mv,mv,ln,bn,mv,trivial⟩ (.aB (.ju (.kM .z))) λa w hI=>?_
  refine cK hI 2 [Uc 0 19 _,Uc 1 20 _] (.aB (.kk .z)) ⟨mv,bn,trivial⟩ (.aB (.qL .z)) λa w hI=>?_
  refine mJ hI (λt2=>?_) (λt2=>?_)
  ·exfalso; omega
  refine aF ?_
  refine bK ?_
  refine ai ?_
  refine Hr hI 2 [Uc 0 22 _,Uc 1 11 _] (.aB (.t 1 (.kk .z))) ⟨bn,mv,trivial⟩ (.aB (.NS (.k .z))) λa w hI=>?_
  refine ai ?_
  exact AO (i+1) (by omega) hI trivial ⟨gc,gc,gc,gc,gc,gc,trivial⟩ (by omega)
 ·
  refine dJ ?_
  refine aM ?_
  refine aM ?_
  refine bI ?_
  refine ai ?_
  obtain rfl:i=2:=by omega
  have hc0:0<(mW K L 2).length:=by show 0<(K++L).length; rw[List.length_append]; omega
  have qn:(mW K L 2).length<=1000000:=by show(K++L).length<=_; rw[List.length_append]; omega
  refine zM hI 3 1 [] [] [Uc 0 23 _] .z (.aB (.eH .z)) ⟨mv,trivial⟩ .z (.fM (.kM .z)) (QU (λw=>Mt (n:=(mW K L 2).length) ⟨hc0,qn⟩ (λi=>fq (aA (K++L) i)) w) (λ_=>fF _)) λa w hI=>?_
  obtain⟨UX,U1,VG,hI⟩:=hI
  refine ax ?_
  refine bN hI 3 [] [] [Uc 0 25 _,Uc 1 26 _,Uc 2 27 _] (.k .z) (.aB .z) ⟨mv,ln,mv,trivial⟩ (.k .z) (.Pd (.eH .z)) λa w hI=>?_
  refine aN ?_
  refine BF [] [Uz 2 _,Uz 25 _,Uz 26 _] (λ(k:Nat×Option Addr×Nat)=>[(lC 24 2 (mW K L k.1).length true 26 (λi=>fq (aA (K++L) i)) (.slice k.2.1 (mW K L k.1).length k.2.2))]) (λ(k:Nat×Option Addr×Nat)=>[Uz 27 (pI (k.1:Int)),Uz 6 (bR (.slice k.2.1 (mW K L k.1).length k.2.2))]) (λ(k:Nat×Option Addr×Nat)=>k.1<=2) (λ(k:Nat×Option Addr×Nat)=>2-k.1) ((0,some ⟨UX,0,none⟩,U1)) (Nat.zero_le 2) hI ⟨Ny,trivial⟩ ⟨gi,gi,gi,gc,gc,trivial⟩ ?_
  intro k a w hk hI
  refine bN hI 1 [] [] [Uc 0 28 _] (.k .z) (.aB (.k .z)) ⟨bn,trivial⟩ (.k .z) (.aB (.kk .z)) λa w hI=>?_
  refine ax ?_
  refine mJ hI (λt3=>?_) (λt3=>?_)
  ·
   refine aF ?_
   refine ai ?_
   refine ax ?_
   refine aN ?_
   refine bN hI 3 [] [] [Uc 0 29 _,Uc 1 30 _,Uc 2 8 _] (.k .z) (.aB (.kk .z)) ⟨ix,ld,mv,trivial⟩ (.k .z) (.aB (.ju (.k .z))) λa w hI=>?_
   have hk2:k.1<2:=by omega
   have ni:=xX (K:=K) (L:=L) hk2
   have hcm:=B4 (K:=K) (L:=L) (show k.1<=2 by omega)
   obtain⟨Kh,hT3⟩:=hT k.1
   refine Ql hI 4 2 [] [] [Uc 0 31 _,Uc 1 32 _] (.k .z) (.aB (.kk .z)) ⟨mv,mv,trivial⟩ (.k .z) (.aB (.ua .z)) (J4 (n0:=0) (λi=>fq (aA (K++L) i)) (Lv hk2) Kh (hnf:=λ_=>fF _) (hng:=λ_=>fF _) (hfit:=λ_=>ki _)) λa w hI=>?_
   obtain⟨s',hI⟩:=hI
   dsimp only[List.set]at hI
   obtain⟨X',cap',rfl,hcap⟩:=yC hI 0 rfl
   rw[<-ni]at hI
   refine bK ?_
   refine ai ?_
   refine BH hI 2 [] [] [Uc 0 34 _,Uc 1 27 _] (.k .z) (.aB (.t 1 (.kk .z))) ⟨bn,mv,trivial⟩ (.k .z) (.aB (.cU (.k .z))) λa w hI=>?_
   refine ai ?_
   exact AO ((k.1+1,X',cap')) (by(show k.1+1<=2); omega) hI ⟨Ny,trivial⟩ ⟨gc,gc,gc,gc,gc,trivial⟩ (by(show 2-(k.1+1)<2-k.1); omega)
  ·
   refine dJ ?_
   refine aM ?_
   refine aM ?_
   refine bI ?_
   refine ai ?_
   obtain⟨k,X,cap⟩:=k
   obtain rfl:k=2:=by(have hk':k<=2:=hk); omega
   dsimp only at hI
   have hI:=GK hI 0 6 rfl (by kernel_rfl)
   dsimp only[List.eraseIdx]at hI
   refine cK hI 2 [Uc 0 35 _,Uc 1 2 _] (.k (.t 1 (.aB (.k .z)))) ⟨mv,mv,trivial⟩ (.d8 (.k .z)) λa w hI=>?_
   refine aP ?_
   exact fo hI rfl jP
noncomputable def sD (L:List Pt):List Pt:=lF (sL L) (rL L) L.length
theorem I4 (h:vS L):K1 Tryz.prog 35 (kz L) (kz (sD L)):=by
 have k:=Mu h
 rw[<-Dr]at k
 exact k
structure BL (K L:List Pt) (k l:Int):Prop where
 one:lg K k=0
 two:lg L l=0
 Sy:vS (K++L)
 Va:(sD (K++L)).length<=10
theorem I1 {k l:Int} (h:BL K L k l):K2 Tryz.prog 15 (pK K k) (pK L l) (ew (pK (sD (K++L)) (lH k l)) (pI 0)):=by
 intro M w0 v0 v1 hM hv0 mL
 have hK:=mC (fL h.one)
 have hL:=mC (fL h.two)
 have hf:=h.Va
 have hE:∀i,lg (kE K L i) (if i=0 then k else l)=0:=λi=>by by_cases e:i=0<;>simp only[kE,e,if_true,if_false]; exact h.one; exact h.two
 have hT:∀i,(kE K L i).length<=1000:=λi=>by unfold kE; split<;>omega
 refine xB (N:=43) Tryz.func15 rfl rfl rfl hM hv0 mL λa hI=>?_
 refine bN hI 4 [⟨4,4,some 2,none,.ptr,24,2,true,pv _,[]⟩] [] [Uc 0 2 _,Uc 1 3 _,Uc 3 5 _] .z (.kk .z) ⟨EV 2 true (hf:=gh _ _),EV 2 true (hf:=gh _ _),qw [.n,.i],mv,trivial⟩ (.k .z) (.ua (.k .z)) λa w hI=>?_
 refine ax ?_
 refine bN hI 5 [] [] [Uc 0 10 _,Uc 1 11 _,Uc 2 12 _,Uc 3 13 _,Uc 4 14 _] (.k .z) (.eH .z) ⟨ld,ld,NI (zv:=.agg #[.slice none 0 0,.int .i64 0]) 24 [.slice none 0 0,.int .i64 0] (λi=>pK (kE K L i) (if i=0 then k else l)) (gh K k) (gh L l),ln,mv,trivial⟩ (.k .z) (.fE (.Df .z)) λa w hI=>?_
 refine aN ?_
 refine BF [Vz 4 4 24 2 true _] [Uz 2 _,Uz 3 _,Uz 12 _,Uz 13 _] (λ(i:Nat)=>[]) (λ(i:Nat)=>[Uz 14 (pI (i:Int))]) (λ(i:Nat)=>i<=2) (λ(i:Nat)=>2-i) (0) (Nat.zero_le 2) hI ⟨vi,trivial⟩ ⟨gi,gi,gi,gi,gc,trivial⟩ ?_
 intro i a w hi hI
 refine bN hI 1 [] [] [Uc 0 15 _] (.k .z) (.aB (.k .z)) ⟨bn,trivial⟩ (.k .z) (.aB (.kk .z)) λa w hI=>?_
 refine ax ?_
 refine mJ hI (λt1=>?_) (λt1=>?_)
 ·
  refine aF ?_
  refine ai ?_
  refine ax ?_
  refine aN ?_
  refine bN hI 4 [⟨7,7,some 2,none,.ptr,24,2,true,pv _,[(3,pv _)]⟩] [] [Uc 0 16 _,Uc 1 17 _] (.k .z) (.aB (.kk .z)) ⟨ix,ld,qw [.n,.i],lS,trivial⟩ (.k (.s .o .z)) (.aB (.ju .z)) λa w hI=>?_
  refine bN hI 3 [] [] [Uc 0 18 _,Uc 1 19 _,Uc 2 8 _] (.k (.k .z)) (.aB (.k .z)) ⟨ld,Ag jg (hφ:=hT i),mv,trivial⟩ (.k (.d .z)) (.aB (.Dv .z)) λa w hI=>?_
  refine bN hI 2 [] [] [Uc 0 20 _,Uc 1 21 _] (.k .z) (.aB (.kk .z)) ⟨mv,bn,trivial⟩ (.k .z) (.aB (.qL .z)) λa w hI=>?_
  refine mJ hI (λt2=>?_) (λt2=>?_)
  ·exfalso; exact t2 (hE i)
  refine aF ?_
  refine bK ?_
  refine ai ?_
  refine BH hI 2 [] [] [Uc 0 24 _,Uc 1 14 _] (.k .z) (.aB (.t 1 (.kk .z))) ⟨bn,mv,trivial⟩ (.k .z) (.aB (.cU (.k .z))) λa w hI=>?_
  refine ai ?_
  exact AO (i+1) (by omega) hI ⟨vc,trivial⟩ ⟨gc,gc,gc,gc,gc,trivial⟩ (by omega)
 ·
  refine dJ ?_
  refine aM ?_
  refine aM ?_
  refine bI ?_
  refine ai ?_
  refine bN hI 8 [] [] [Uc 0 25 _,Uc 1 26 _,Uc 2 27 _,Uc 3 28 _,Uc 4 29 _,Uc 5 30 _,Uc 6 31 _,Uc 7 9 _] (.k .z) (.aB (.kk .z)) ⟨fP 0 1 false,ld,fP 0 1 false,ld,NI (zv:=.slice none 0 0) 22 [.slice none 0 0] (λi=>kz (kE K L i)) lu lu,Ag (FR (K:=K) (L:=L)) (hφ:=⟨by omega,by omega,by omega,by omega⟩),Ag I4 (hφ:=h.Sy),mv,trivial⟩ (.k .z) (.fM (.d8 (.dk .z))) λa w hI=>?_
  refine ax ?_
  refine bN hI 3 [] [] [Uc 0 32 _,Uc 1 33 _,Uc 2 34 _] (.k .z) (.eH .z) ⟨mv,ln,bn,trivial⟩ (.k .z) (.fE (.dk .z)) λa w hI=>?_
  refine mJ hI (λt3=>?_) (λt3=>?_)
  ·exfalso; omega
  refine aF ?_
  refine ai ?_
  refine bN hI 9 [] [] [Uc 0 36 _,Uc 1 37 _,Uc 2 38 _,Uc 3 39 _,Uc 4 40 _,Uc 5 41 _,Uc 6 42 _,Uc 8 5 _] (.u none [(7,pv _)] .z) (.aB .z) ⟨mv,fP 1 1 false,ld,fP 1 1 false,ld,WE,bd [.o .n,.o .i] [(0,_),(1,_)],lS,mv,trivial⟩ (.s .o .z) (.d8 (.kM .z)) λa w hI=>?_
  refine aP ?_
  exact mI hI rfl xx jP
end Wx

namespace Wx
set_option maxRecDepth 100000
set_option maxHeartbeats 1000000
open Go Go.RowKit Go.Proofs
set_option linter.unusedVariables false
attribute [local irreducible] OpOk
variable {K L:List Pt} {f:Int}
theorem I2 (h:K.length<=1000/\0<L.length/\CD K/\CD L/\KB K (aA L 0)=true/\0<K.length):K3 Tryz.prog 38 (kz K) (kz L) (pI f) (pB false):=by
 intro M w0 v0 v1 v2 hM hv0 mL hv2
 have hL:=h.2.1
 have hin:=h.2.2.2.2.1
 have hK:=h.2.2.2.2.2
 refine Nd (N:=80) Tryz.func38 rfl rfl rfl hM hv0 mL hv2 λa hI=>?_
 refine bN hI 4 [⟨6,6,some 3,none,.ptr,4,1,false,pv _,[]⟩] [] [Uc 0 3 _,Uc 1 4 _,Uc 2 5 _] .z (.eH .z) ⟨EV 1 false,EV 1 false,EV 1 false,MB .b,trivial⟩ (.k .z) (.kM (.kk .z)) λa w hI=>?_
 refine ax ?_
 refine Ib hI [0,0,2,6,15,31,63,63,191,447,1023,2047] [] [] [Uc 0 11 _,Uc 1 12 _,Uc 2 13 _,Uc 3 14 _,Uc 4 15 _,Uc 5 16 _,Uc 6 17 _,Uc 7 18 _,Uc 8 19 _,Uc 9 20 _,Uc 10 21 _,Uc 11 22 _] (.k .z) (.eH .z) ⟨ld,ld,ix,ld,Eu (sK (L:=K) (p:=aA L 0)) (hφ:=⟨h.1,h.2.2.1,h.2.2.2.1 0 hL⟩),mv,gd λh=>zS h,gd λh=>zS h,gd λh=>Q9 h,gd λh=>zS h,gd λh=>N6 h (sK (L:=L) (p:=aA K 0)) (hφ:=by rw[hin]at h; cases h),pk,trivial⟩ (.k .z) (.fE (.d8 (.tZ .z))) λa w hI=>?_
 refine W6 hI (show(KB K (aA L 0)||KB L (aA K 0))=true by rw[hin]; rfl) ?_
 refine bN hI 1 [] [] [] (.u none [(0,pv _)] .z) (.aB .z) ⟨lS,trivial⟩ (.s .o .z) (.fE .z) λa w hI=>?_
 refine aP ?_
 refine aH ?_
 exact fo hI rfl xx
theorem I0 {k l:Int} (h:(lg K k=0/\lg L l=0)/\KB K (aA L 0)=true/\1<=f/\f<=2097152):K3 Tryz.prog 18 (pK K k) (pK L l) (pI f) (ew (pB false) (pI 0)):=by
 intro M w0 v0 v1 v2 hM hv0 mL hv2
 have hK:=mC (fL h.1.1)
 have hL:=mC (fL h.1.2)
 have hE:∀i,lg (kE K L i) (if i=0 then k else l)=0:=λi=>by by_cases e:i=0<;>simp only[kE,e,if_true,if_false]; exact h.1.1; exact h.1.2
 have hT:∀i,(kE K L i).length<=1000:=λi=>by unfold kE; split<;>omega
 have hin:=h.2.1
 have hf:=h.2.2
 refine Nd (N:=37) Tryz.func18 rfl rfl rfl hM hv0 mL hv2 λa hI=>?_
 refine cK hI 4 [Uc 0 3 _,Uc 1 4 _,Uc 2 6 _,Uc 3 7 _] (.eH .z) ⟨EV 2 true (hf:=gh _ _),EV 2 true (hf:=gh _ _),mv,mv,trivial⟩ (.ua (.eH .z)) λa w hI=>?_
 refine ax ?_
 refine cK hI 5 [Uc 0 11 _,Uc 1 12 _,Uc 2 13 _,Uc 3 14 _,Uc 4 15 _] (.aB (.k .z)) ⟨ld,ld,NI (zv:=.agg #[.slice none 0 0,.int .i64 0]) 24 [.slice none 0 0,.int .i64 0] (λi=>pK (kE K L i) (if i=0 then k else l)) (gh K k) (gh L l),ln,mv,trivial⟩ (.aB (.Dv (.kk .z))) λa w hI=>?_
 refine aN ?_
 refine BF [] [Uz 2 _,Uz 3 _,Uz 4 _,Uz 13 _,Uz 14 _] (λ(i:Nat)=>[]) (λ(i:Nat)=>[Uz 15 (pI (i:Int))]) (λ(i:Nat)=>i<=2) (λ(i:Nat)=>2-i) (0) (Nat.zero_le 2) hI trivial ⟨gi,gi,gi,gi,gi,gc,trivial⟩ ?_
 intro i a w hi hI
 refine cK hI 1 [Uc 0 16 _] (.aB (.kk .z)) ⟨bn,trivial⟩ (.aB (.eH .z)) λa w hI=>?_
 refine ax ?_
 refine mJ hI (λt1=>?_) (λt1=>?_)
 ·
  refine aF ?_
  refine ai ?_
  refine ax ?_
  refine aN ?_
  refine bN hI 4 [⟨9,9,some 2,none,.ptr,24,2,true,pv _,[(3,pv _)]⟩] [] [Uc 0 17 _,Uc 1 18 _] .z (.aB (.eH .z)) ⟨ix,ld,qw [.n,.i],lS,trivial⟩ (.s .o .z) (.aB (.fM (.d .z))) λa w hI=>?_
  refine bN hI 3 [] [] [Uc 0 19 _,Uc 1 20 _,Uc 2 10 _] (.k .z) (.aB (.kk .z)) ⟨ld,Ag jg (hφ:=hT i),mv,trivial⟩ (.d .z) (.aB (.fM (.k .z))) λa w hI=>?_
  refine cK hI 2 [Uc 0 21 _,Uc 1 22 _] (.aB (.eH .z)) ⟨mv,bn,trivial⟩ (.aB (.fE (.k .z))) λa w hI=>?_
  refine mJ hI (λt2=>?_) (λt2=>?_)
  ·exfalso; exact t2 (hE i)
  refine aF ?_
  refine bK ?_
  refine ai ?_
  refine Hr hI 2 [Uc 0 24 _,Uc 1 15 _] (.aB (.k (.t 1 (.kk .z)))) ⟨bn,mv,trivial⟩ (.aB (.ju (.dk .z))) λa w hI=>?_
  refine ai ?_
  exact AO (i+1) (by omega) hI trivial ⟨gc,gc,gc,gc,gc,gc,trivial⟩ (by omega)
 ·
  refine dJ ?_
  refine aM ?_
  refine aM ?_
  refine bI ?_
  refine ai ?_
  refine ax ?_
  refine cK hI 6 [Uc 0 25 _,Uc 1 26 _,Uc 2 27 _,Uc 3 28 _,Uc 4 29 _,Uc 5 30 _] (.aB (.eH .z)) ⟨mv,bn,mv,gd λh=>xF h,gd λh=>yB h,pk,trivial⟩ (.fE (.d8 (.k .z))) λa w hI=>?_
  refine CS hI (λt3=>?_) (λt3=>?_)
  ·exfalso; simp only[Bool.or_eq_true,decide_eq_true_eq]at t3; omega
  refine aF ?_
  refine ai ?_
  refine cK hI 8 [Uc 0 31 _,Uc 1 32 _,Uc 2 33 _,Uc 3 34 _,Uc 4 35 _,Uc 5 36 _,Uc 6 6 _,Uc 7 7 _] (.aB .z) ⟨fP 0 1 false,ld,fP 0 1 false,ld,mv,PW (I2 (K:=K) (L:=L)) (hφ:=⟨by omega,by omega,nB (fL h.1.1),nB (fL h.1.2),hin,by omega⟩),mv,mv,trivial⟩ (.d8 (.ua .z)) λa w hI=>?_
  refine aP ?_
  exact mI hI rfl jP jP
theorem MT (hl:K.length=L.length) (h:∀q,q<K.length->aA K q=aA L q):K=L:=by
 refine List.ext_getElem hl λq h1 h2=>?_
 have e:=h q h1
 unfold aA at e
 rw[List.getD_eq_getElem?_getD,List.getD_eq_getElem?_getD,List.getElem?_eq_getElem h1,List.getElem?_eq_getElem h2]at e
 exact e
theorem I6 (h:K.length<=1000000/\L.length<=1000000):K2 Tryz.prog 17 (kz K) (kz L) (pB (decide (K=L))):=by
 intro M w0 v0 v1 hM hv0 mL
 refine xB (N:=26) Tryz.func17 rfl rfl rfl hM hv0 mL λa hI=>?_
 refine cK hI 1 [Uc 0 4 _] (.kk .z) ⟨mv,trivial⟩ (.eH .z) λa w hI=>?_
 refine ax ?_
 refine cK hI 5 [Uc 0 6 _,Uc 1 7 _,Uc 2 8 _,Uc 3 9 _,Uc 4 10 _] (.eH .z) ⟨mv,ln,mv,ln,bn,trivial⟩ (.fE (.kM .z)) λa w hI=>?_
 refine mJ hI (λt1=>?_) (λt1=>?_)
 ·
  refine cK hI 1 [Uc 0 4 _] (.kk (.t 0 (.k .z))) ⟨mv,trivial⟩ (.fM (.k .z)) λa w hI=>?_
  refine aP ?_
  refine aH ?_
  exact fo hI rfl (jP (hq:=mN (by rw[decide_eq_false]; intro e; rw[e]at t1; exact t1 rfl)))
 ·
  refine aF ?_
  refine ai ?_
  refine ax ?_
  refine cK hI 3 [Uc 0 11 _,Uc 1 12 _,Uc 2 13 _] (.aB .z) ⟨mv,ln,mv,trivial⟩ (.fE (.Nk .z)) λa w hI=>?_
  refine aN ?_
  refine BF [] [Uz 0 _,Uz 1 _,Uz 12 _] (λ(i:Nat)=>[]) (λ(i:Nat)=>[Uz 13 (pI (i:Int))]) (λ(i:Nat)=>i<=K.length/\∀q,q<i->aA K q=aA L q) (λ(i:Nat)=>K.length-i) (0) ⟨Nat.zero_le _,λ_ h=>absurd h (Nat.not_lt_zero _)⟩ hI trivial ⟨gi,gi,gi,gc,trivial⟩ ?_
  intro i a w hi hI
  refine cK hI 1 [Uc 0 14 _] (.aB .z) ⟨bn,trivial⟩ (.aB (.k .z)) λa w hI=>?_
  refine ax ?_
  refine mJ hI (λt2=>?_) (λt2=>?_)
  ·
   refine aF ?_
   refine ai ?_
   refine ax ?_
   refine aN ?_
   refine cK hI 2 [Uc 0 15 _,Uc 1 5 _] (.aB (.k .z)) ⟨mv,mv,trivial⟩ (.aB (.tZ .z)) λa w hI=>?_
   refine Tb hI [0,0,3,7,0,0,48,112,255] [Uc 0 16 _,Uc 1 17 _,Uc 2 18 _,Uc 3 19 _,Uc 4 20 _,Uc 5 21 _,Uc 6 22 _,Uc 7 23 _,Uc 8 24 _] (.aB (.k .z)) ⟨mv,mv,ix,ld,mv,mv,ix,ld,WG,trivial⟩ (.aB (.d8 (.dk .z))) λa w hI=>?_
   refine mJ hI (λt3=>?_) (λt3=>?_)
   ·
    refine cK hI 1 [Uc 0 4 _] (.aB (.k .z)) ⟨mv,trivial⟩ (.aB (.dk .z)) λa w hI=>?_
    refine aP ?_
    refine bC ?_
    refine aH ?_
    refine aH ?_
    refine bC ?_
    refine aH ?_
    exact fo hI rfl (jP (hq:=mN (by rw[decide_eq_false]; intro e; rw[e]at t3; exact t3 rfl)))
   ·
    refine aF ?_
    refine bK ?_
    refine ai ?_
    refine Hr hI 2 [Uc 0 25 _,Uc 1 13 _] (.eH (.t 1 (.k .z))) ⟨bn,mv,trivial⟩ (.fE (.tZ .z)) λa w hI=>?_
    refine ai ?_
    exact AO (i+1) ⟨by omega,λq hq=>if e:q=i then by rw[e]; exact Decidable.not_not.1 t3 else hi.2 q (by omega)⟩ hI trivial ⟨gc,gc,gc,gc,trivial⟩ (by omega)
  ·
   refine dJ ?_
   refine aM ?_
   refine aM ?_
   refine bI ?_
   refine ai ?_
   refine cK hI 1 [Uc 0 4 _] (.aB (.k .z)) ⟨mv,trivial⟩ (.cU (.dk .z)) λa w hI=>?_
   refine aP ?_
   exact fo hI rfl (jP (hq:=mN (by rw[decide_eq_true]; exact MT (by omega) λq hq=>hi.2 q (by omega))))
end Wx

namespace Wx
open Go Go.RowKit Go.Proofs
abbrev MS (a b:Pt):Prop:=a.1<b.1\/(a.1=b.1/\a.2<=b.2)
theorem G5 {n:Nat} {L S:List Pt} (hn:∀q,q<n->fu 16777216 (aA L q)) (hp:S.Perm ((List.range n).map λi=>aA L i)) (hs:S.Pairwise MS):oH n L=S:=by
 have e1:(pO n L).toList.map (·.p)=(List.range n).map λi=>aA L i:=by
  unfold pO
  show List.map _ (List.map _ _)=_
  rw[List.map_map]
  exact List.map_congr_left λi hi=>CN (hn i (List.mem_range.1 hi))
 refine List.Perm.eq_of_pairwise (le:=MS) ?_ ?_ hs ?_
 ·intro a b _ _ h1 h2
  obtain⟨a1,a2⟩:=a
  obtain⟨b1,b2⟩:=b
  have h1:a1<b1\/(a1=b1/\a2<=b2):=h1
  have h2:b1<a1\/(b1=a1/\b2<=a2):=h2
  obtain rfl:a1=b1:=by omega
  obtain rfl:a2=b2:=by omega
  rfl
 ·unfold oH tr
  show(List.map _ (List.mergeSort _ _)).Pairwise MS
  rw[List.pairwise_map]
  refine(List.pairwise_mergeSort (le:=λx y=>!(ltOf mX) y x) ?_ ?_ _).imp λ{x y} h=>?_
  ·intro a b c h1 h2
   simp only[Bool.not_eq_true']at h1 h2 ⊢
   exact PD.ntrans c b a h2 h1
  ·intro a b
   cases h:ltOf mX b a with
   |false=>simp
   |true=>
    have:ltOf mX a b=false:=by
     rw[lt_iff]at h
     rw[oo]
     omega
    simp[this]
  ·have h:ltOf mX y x=false:=by simpa using h
   rw[oo]at h
   show x.p.1<y.p.1\/(x.p.1=y.p.1/\x.p.2<=y.p.2)
   omega
 ·unfold oH tr
  refine((List.mergeSort_perm _ _).map _).trans ?_
  rw[e1]
  exact hp.symm
def Ev:List Pt:=[(0,0),(4,0),(0,4)]
def Fc:List Pt:=[(1,1),(5,1),(1,5)]
def LI:List Pt:=[(0,0),(0,4),(1,1),(1,5),(4,0),(5,1)]
def N2:List Pt:=[(0,0),(4,0),(5,1),(1,5),(0,4)]
theorem Cc:CD (Ev++Fc):=λq hq=>by
 have hq:q<6:=hq
 match q,hq with
 |0,_|1,_|2,_|3,_|4,_|5,_=>unfold fu; decide
theorem qZ:sL (Ev++Fc)=LI:=G5 Cc (by decide) (by decide)
theorem Fg:rL (Ev++Fc)=[(5,1),(4,0),(1,5),(1,1),(0,4),(0,0)]:=by
 show JA 6 (sL (Ev++Fc))=_
 rw[qZ]
 decide
theorem J6:av LI 6=[(0,0),(4,0),(5,1)]:=by decide
theorem J7:av [(5,1),(4,0),(1,5),(1,1),(0,4),(0,0)] 6=[(5,1),(1,5),(0,4),(0,0)]:=by decide
theorem Iw:vS (Ev++Fc) where
 two:=by decide
 max:=by decide
 near:=Cc
 ne:=by
  rw[qZ]
  have h:∀k,k<6->1<=k->aA LI k≠aA LI (k-1):=by decide
  exactλk h1 h2=>h k h2 h1
 lo:=by
  rw[qZ]
  show 2<=(av LI 6).length
  rw[J6]
  decide
 up:=by
  rw[Fg]
  show 2<=(av [(5,1),(4,0),(1,5),(1,1),(0,4),(0,0)] 6).length
  rw[J7]
  decide
theorem uJ:sD (Ev++Fc)=N2:=by
 unfold sD lF
 rw[qZ,Fg]
 show(av LI 6).take ((av LI 6).length-1)++(av [(5,1),(4,0),(1,5),(1,1),(0,4),(0,0)] 6).take ((av [(5,1),(4,0),(1,5),(1,1),(0,4),(0,0)] 6).length-1)=_
 rw[J6,J7]
 decide
theorem LK:lg Ev 1=0:=by decide
theorem LL:lg Fc 2=0:=by decide
theorem Ff:BL Ev Fc 1 2:=⟨LK,LL,Iw,by rw[uJ]; decide⟩
end Wx

namespace Wx
set_option maxRecDepth 100000
set_option maxHeartbeats 1000000
open Go Go.RowKit Go.Proofs
set_option linter.unusedVariables false
attribute [local irreducible] OpOk
def aO (ms:Nat->List Rat):Nat->List Rat
 |0=>[0,0,0]
 |k+1=>[(aO ms k).getD 0 0+(ms k).getD 0 0,(aO ms k).getD 1 0+(ms k).getD 0 0*(ms k).getD 1 0,(aO ms k).getD 2 0+(ms k).getD 0 0*(ms k).getD 2 0]
variable {ms:Nat->List Rat}
theorem tO:∀k,(aO ms k).length=3
 |0=>rfl
 |_+1=>rfl
structure JT (n j J:Nat) (ms:Nat->List Rat):Prop where
 len:1<=n/\n<=64
 bits:1<=J/\J<=1000000/\j<=1000000
 el:∀i,i<n->(ms i).length=3/\0<=iI ((ms i).getD 0 0)
 bd:∀k q,k<=n->q<3->cN J ((aO ms k).getD q 0)
 some:(aO ms n).getD 0 0≠0
variable {j:Nat}
theorem Dy {n J:Nat} (h:JT n j J ms):K1 Tryz.prog 21 (bk 9 true n λi=>pV bg j (ms i)) (ew (pV bg (2*J) [(aO ms n).getD 0 0,(aO ms n).getD 1 0/(aO ms n).getD 0 0,(aO ms n).getD 2 0/(aO ms n).getD 0 0]) (pI 0)):=by
 intro M w0 v0 hM hv0
 have h1:=h.len
 have h2:=h.bits
 have hl:=tO (ms:=ms)
 refine xA (N:=67) Tryz.func21 rfl rfl rfl hM hv0 λa hI=>?_
 refine bN hI 2 [⟨2,2,some 0,none,.ptr,56,9,true,pv _,[]⟩] [] [Uc 1 3 _] .z (.k .z) ⟨qw [.r,.r,.r],mv,trivial⟩ (.k .z) (.kk .z) λa w hI=>?_
 refine ax ?_
 refine bN hI 8 [] [] [Uc 0 7 _,Uc 1 8 _,Uc 2 9 _,Uc 3 10 _,Uc 4 11 _,Uc 5 12 _,Uc 6 13 _,Uc 7 14 _] (.k .z) (.kk .z) ⟨mv,ln,bn,mv,gd λh=>xF h,gd λh=>Nl h,gd λh=>yB h,pk,trivial⟩ (.k .z) (.fM (.cU (.dk .z))) λa w hI=>?_
 refine CS hI (λt1=>?_) (λt1=>?_)
 ·exfalso; simp only[Bool.or_eq_true,decide_eq_true_eq]at t1; omega
 refine aF ?_
 refine ai ?_
 refine bN hI 1 [⟨4,4,some 0,none,.ptr,56,9,true,pv _,[]⟩] [] [] (.k .z) (.eH .z) ⟨Pm J 3,trivial⟩ (.k (.k .z)) (.Uj .z) λa w hI=>?_
 refine ax ?_
 refine bN hI 3 [] [] [Uc 0 16 _,Uc 1 17 _,Uc 2 18 _] (.k (.k .z)) (.kk .z) ⟨mv,ln,mv,trivial⟩ (.k (.k .z)) (.Df (.k .z)) λa w hI=>?_
 refine aN ?_
 refine BF [Vz 2 2 56 9 true _] [Uz 16 _,Uz 17 _] (λ(i:Nat)=>[Vz 4 4 56 9 true (pV bg J (aO ms i))]) (λ(i:Nat)=>[Uz 18 (pI (i:Int))]) (λ(i:Nat)=>i<=n) (λ(i:Nat)=>n-i) (0) (Nat.zero_le _) hI ⟨vi,vC (λ_ _ h=>h),trivial⟩ ⟨gi,gi,gc,trivial⟩ ?_
 intro i a w hi hI
 refine bN hI 1 [] [] [Uc 0 19 _] (.k (.k .z)) (.eH .z) ⟨bn,trivial⟩ (.k (.k .z)) (.aB .z) λa w hI=>?_
 refine ax ?_
 refine mJ hI (λt2=>?_) (λt2=>?_)
 ·
  refine aF ?_
  refine ai ?_
  refine ax ?_
  refine aN ?_
  have hl2:=(h.el i (by omega)).1
  have hs2:=(h.el i (by omega)).2
  have mw:=hl i
  have hb0:cN J ((aO ms i).getD 0 0+(ms i).getD 0 0):=h.bd (i+1) 0 (by omega) (by decide)
  have hb1:cN J ((aO ms i).getD 1 0+(ms i).getD 0 0*(ms i).getD 1 0):=h.bd (i+1) 1 (by omega) (by decide)
  have hb2:cN J ((aO ms i).getD 2 0+(ms i).getD 0 0*(ms i).getD 2 0):=h.bd (i+1) 2 (by omega) (by decide)
  refine bN hI 4 [⟨6,6,some 2,none,.ptr,56,9,true,pv _,[(3,pv _)]⟩] [] [Uc 0 20 _,Uc 1 21 _] (.k (.k .z)) (.aB .z) ⟨ix,ld,qw [.r,.r,.r],lS,trivial⟩ (.k (.k (.s .o .z))) (.fE (.dd .z)) λa w hI=>?_
  refine ax ?_
  refine bN hI 4 [] [⟨some 0,22,6,0,True⟩] [Uc 1 23 _,Uc 2 24 _,Uc 3 25 _] (.k (.k (.k .z))) (.eH .z) ⟨fa,lV 0,wq EM,bn,trivial⟩ (.k (.k (.k .z))) (.fE (.dk .z)) λa w hI=>?_
  refine mJ hI (λt3=>?_) (λt3=>?_)
  ·exfalso; omega
  refine aF ?_
  refine ai ?_
  refine PK hI [0,1,0,4,15,0,32,0,128,0,512,1951,4095,0,8192,0,32768,0,131072,499711,1048575,2097151,4194303] [] [⟨some 0,27,4,0,True⟩,⟨some 2,29,6,0,True⟩,⟨some 5,32,4,3,True⟩,⟨some 7,34,6,0,True⟩,⟨some 9,36,6,3,True⟩,⟨some 13,40,4,6,True⟩,⟨some 15,42,6,0,True⟩,⟨some 17,44,6,6,True⟩] [Uc 1 28 _,Uc 3 30 _,Uc 4 31 _,Uc 6 33 _,Uc 8 35 _,Uc 10 37 _,Uc 11 38 _,Uc 12 39 _,Uc 14 41 _,Uc 16 43 _,Uc 18 45 _,Uc 19 46 _,Uc 20 47 _,Uc 21 48 _] (.k (.u none [(22,pv _)] (.k .z))) (.aB .z) ⟨fa,lV 0,fa,lV 0,xZ (oZ hb0),fa,lV 1,fa,lV 0,fa,lV 1,xZ BR,xZ (oZ hb1),fa,lV 2,fa,lV 0,fa,lV 2,xZ BR,xZ (oZ hb2),bd [.o .r,.o .r,.o .r] [(0,_),(1,_),(2,_)],lS,trivial⟩ (.k (.s .o (.d .z))) (.fE (.d8 (.cU (.dd .z)))) λa w hI=>?_
  refine bK ?_
  refine ai ?_
  refine BH hI 2 [] [] [Uc 0 49 _,Uc 1 18 _] (.k (.k .z)) (.kk (.t 1 .z)) ⟨bn,mv,trivial⟩ (.k (.k .z)) (.fM (.k .z)) λa w hI=>?_
  refine ai ?_
  exact AO (i+1) (by omega) hI ⟨vc,vC (dW.pV (dW.c (Nat.le_refl _) (dW.c (Nat.le_refl _) (dW.c (Nat.le_refl _) dW.z)))),trivial⟩ ⟨gc,gc,gc,trivial⟩ (by omega)
 ·
  refine dJ ?_
  refine aM ?_
  refine aM ?_
  refine bI ?_
  refine ai ?_
  refine ax ?_
  obtain rfl:i=n:=by omega
  have mw:=hl i
  refine bN hI 3 [] [⟨some 0,50,4,0,True⟩] [Uc 1 51 _,Uc 2 52 _] (.k (.k .z)) (.aB .z) ⟨fa,lV 0,wq EN,trivial⟩ (.k (.k .z)) (.cU (.dk .z)) λa w hI=>?_
  refine mJ hI (λt4=>?_) (λt4=>?_)
  ·exfalso; exact h.some t4
  refine aF ?_
  refine ai ?_
  refine Ib hI [0,1,0,4,0,16,60,0,128,0,512,2044,4095,8191,16383] [] [⟨some 0,54,4,0,True⟩,⟨some 2,56,4,3,True⟩,⟨some 4,58,4,0,True⟩,⟨some 7,61,4,6,True⟩,⟨some 9,63,4,0,True⟩] [Uc 1 55 _,Uc 3 57 _,Uc 5 59 _,Uc 6 60 _,Uc 8 62 _,Uc 10 64 _,Uc 11 65 _,Uc 12 66 _,Uc 14 3 _] (.u none [(13,pv _)] (.k .z)) (.k .z) ⟨fa,lV 0,fa,lV 1,fa,lV 0,Eu xe,fa,lV 2,fa,lV 0,Eu xe,bd [.o .r,.o .r,.o .r] [(0,_),(1,_),(2,_)],lS,mv,trivial⟩ (.s .o (.d .z)) (.d8 (.dk .z)) λa w hI=>?_
  refine aP ?_
  exact mI hI rfl xx jP
theorem BS {x:Rat} (s:ByteArray) (h:strOf (dr x)=s/\j<=100000000):∀w v1,pR j x w v1->Calls Tryz.prog 30 #[v1] w (dK (bR (.string s)) w):=λw v1 h1=>(vK w v1 x h1.2 h1.1 h.2).mono λ_ _ hr=>by rw[<-h.1]; exact nC hr
theorem JR (_:True):K2 Tryz.prog 15 (pK Ev 1) (pK Fc 2) (ew (pK N2 2) (pI 0)):=by
 have k:=I1 Ff
 rw[uJ]at k
 exact k
def PY (i:Nat):List Rat:=if i=0 then[1,0,0]else[1,4,2]
theorem LJ:JT 2 64 64 PY where
 len:=by decide
 bits:=by decide
 el i hi:=by
  match i,hi with
  |0,_=>exact⟨rfl,by decide⟩
  |1,_=>exact⟨rfl,by decide⟩
 bd k q hk hq:=by
  have key:∀k,k<=2->∀q,q<3->((aO PY k).getD q 0).num.natAbs<2^64/\((aO PY k).getD q 0).den<2^64:=by decide +kernel
  exact key k hk q hq
 some:=by decide +kernel
end Wx
