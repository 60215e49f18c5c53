import Derived.Test.YtadigiledciihaaGreatJRA41
namespace Wx
set_option maxRecDepth 100000
set_option maxHeartbeats 1000000
open Go Go.RowKit Go.Proofs
set_option linter.unusedVariables false
attribute [local irreducible] OpOk
def gb (K L:List Pt) (i:Nat):List Pt:=if i=0 then K else L
def nF (K L:List Pt):Nat->List Pt
 |0=>[]
 |1=>K
 |_=>K++L
variable {K L:List Pt} {k:Nat}
theorem yq (h:k<2):(nF K L (k+1)).length=(nF K L k).length+(gb K L k).length:=by
 match k,h with
 |0,_=>show K.length=0+K.length; omega
 |1,_=>show(K++L).length=K.length+L.length; rw[List.length_append]
theorem Cs (h:k<=2):(nF K L k).length<=K.length+L.length:=by
 match k,h with
 |0,_=>exact Nat.zero_le _
 |1,_=>exact Nat.le_add_right _ _
 |2,_=>show(K++L).length<=_; rw[List.length_append]; exact Nat.le_refl _
theorem L8 (h:k<2):∀i w v,(if i<(nF K L k).length then dB (aj (K++L) i)else dB (aj (gb K L k) (i-(nF K L k).length))) w v->i<(nF K L k).length+(gb K L k).length->dB (aj (K++L) i) w v:=λi w v hp hi=>by
 by_cases h1:i<(nF K L k).length
 ·rw[if_pos h1]at hp; exact hp
 ·rw[if_neg h1]at hp
  have e:aj (K++L) i=aj (gb K L k) (i-(nF K L k).length):=by
   unfold aj
   match k,h with
   |0,_=>
    have hi:i<0+K.length:=hi
    show(K++L).getD i (0,0)=K.getD (i-0) (0,0)
    rw[List.getD_eq_getElem?_getD,List.getD_eq_getElem?_getD,List.getElem?_append_left (by omega),Nat.sub_zero]
   |1,_=>
    have h1:¬i<K.length:=h1
    show(K++L).getD i (0,0)=L.getD (i-K.length) (0,0)
    rw[List.getD_eq_getElem?_getD,List.getD_eq_getElem?_getD,List.getElem?_append_right (by omega)]
  rw[e]
  exact hp
theorem GC (h:0<K.length/\K.length<=400/\0<L.length/\L.length<=400):K1 Tryz.prog 36 (cK 1 false 2 λi=>gw (gb K L i)) (cK 2 true (K++L).length λi=>dB (aj (K++L) i)):=by
 intro M w0 v0 hM hv0
 have hT:∀k,0<(gb K L k).length/\(gb K L k).length<=400:=λk=>by unfold gb; split<;>omega
 refine uc (N:=36) Tryz.func36 rfl rfl rfl hM hv0 λa hI=>?_
 refine aZ hI 1 [Uc 0 2 _] (.k .z) ⟨mv,trivial⟩ (.kk .z) λa w hI=>?_
 refine aZ hI 1 [Uc 0 3 _] (.kk .z) ⟨mv,trivial⟩ (.cQ .z) λa w hI=>?_
 refine aq ?_
 refine aZ hI 3 [Uc 0 9 _,Uc 1 10 _,Uc 2 11 _] (.cQ .z) ⟨mv,ln,mv,trivial⟩ (.au (.kk .z)) λa w hI=>?_
 refine aK ?_
 refine xN [] [Uz 0 _,Uz 2 _,Uz 9 _,Uz 10 _] (λ(i:Nat)=>[]) (λ(i:Nat)=>[Uz 11 (pI (i:Int)),Uz 3 (pI ((nF K L i).length:Int))]) (λ(i:Nat)=>i<=2) (λ(i:Nat)=>2-i) (0) (Nat.zero_le 2) hI trivial ⟨gi,gi,gi,gi,gc,gc,trivial⟩ ?_
 intro i a w hi hI
 refine aZ hI 1 [Uc 0 12 _] (.au (.kk .z)) ⟨bn,trivial⟩ (.au (.cQ .z)) λa w hI=>?_
 refine aq ?_
 refine jK hI (λt1=>?_) (λt1=>?_)
 ·
  refine aG ?_
  refine af ?_
  refine aq ?_
  refine aK ?_
  refine aZ hI 3 [Uc 0 13 _,Uc 1 14 _,Uc 2 5 _] (.au (.cQ .z)) ⟨ix,ld,mv,trivial⟩ (.au (.eu (.dk .z))) λa w hI=>?_
  have sI:=yq (K:=K) (L:=L) (show i<2 by omega)
  have hcm:=Cs (K:=K) (L:=L) (show i<=2 by omega)
  have hT1:=hT i
  refine aZ hI 5 [Uc 0 15 _,Uc 1 16 _,Uc 2 17 _,Uc 3 18 _,Uc 4 3 _] (.au (.k (.t 4 (.k .z)))) ⟨mv,mv,ln,bn,mv,trivial⟩ (.au (.fZ (.eY .z))) λa w hI=>?_
  refine aZ hI 2 [Uc 0 19 _,Uc 1 20 _] (.au (.kk .z)) ⟨mv,bn,trivial⟩ (.au (.nM .z)) λa w hI=>?_
  refine jK hI (λt2=>?_) (λt2=>?_)
  ·exfalso; omega
  refine aG ?_
  refine bf ?_
  refine af ?_
  refine qR hI 2 [Uc 0 22 _,Uc 1 11 _] (.au (.t 1 (.kk .z))) ⟨bn,mv,trivial⟩ (.au (.OA (.k .z))) λa w hI=>?_
  refine af ?_
  exact wZ (i+1) (by omega) hI trivial ⟨gc,gc,gc,gc,gc,gc,trivial⟩ (by omega)
 ·
  refine cL ?_
  refine aM ?_
  refine aM ?_
  refine bp ?_
  refine af ?_
  obtain rfl:i=2:=by omega
  have hc0:0<(nF K L 2).length:=by show 0<(K++L).length; rw[List.length_append]; omega
  have qO:(nF K L 2).length<=1000000:=by show(K++L).length<=_; rw[List.length_append]; omega
  refine Am hI 3 1 [] [] [Uc 0 23 _] .z (.au (.cQ .z)) ⟨mv,trivial⟩ .z (.eu (.eY .z)) (Rt (λw=>MY (n:=(nF K L 2).length) ⟨hc0,qO⟩ (λi=>dB (aj (K++L) i)) w) (λ_=>fS _)) λa w hI=>?_
  obtain⟨Vp,Vu,V7,hI⟩:=hI
  refine aq ?_
  refine bB hI 3 [] [] [Uc 0 25 _,Uc 1 26 _,Uc 2 27 _] (.k .z) (.au .z) ⟨mv,ln,mv,trivial⟩ (.k .z) (.Ti (.cQ .z)) λa w hI=>?_
  refine aK ?_
  refine xN [] [Uz 2 _,Uz 25 _,Uz 26 _] (λ(k:Nat×Option Addr×Nat)=>[(mb 24 2 (nF K L k.1).length true 26 (λi=>dB (aj (K++L) i)) (.slice k.2.1 (nF K L k.1).length k.2.2))]) (λ(k:Nat×Option Addr×Nat)=>[Uz 27 (pI (k.1:Int)),Uz 6 (bW (.slice k.2.1 (nF K L k.1).length k.2.2))]) (λ(k:Nat×Option Addr×Nat)=>k.1<=2) (λ(k:Nat×Option Addr×Nat)=>2-k.1) ((0,some ⟨Vp,0,none⟩,Vu)) (Nat.zero_le 2) hI ⟨N0,trivial⟩ ⟨gi,gi,gi,gc,gc,trivial⟩ ?_
  intro k a w hk hI
  refine bB hI 1 [] [] [Uc 0 28 _] (.k .z) (.au (.k .z)) ⟨bn,trivial⟩ (.k .z) (.au (.kk .z)) λa w hI=>?_
  refine aq ?_
  refine jK hI (λt3=>?_) (λt3=>?_)
  ·
   refine aG ?_
   refine af ?_
   refine aq ?_
   refine aK ?_
   refine bB hI 3 [] [] [Uc 0 29 _,Uc 1 30 _,Uc 2 8 _] (.k .z) (.au (.kk .z)) ⟨ix,ld,mv,trivial⟩ (.k .z) (.au (.fZ (.k .z))) λa w hI=>?_
   have hk2:k.1<2:=by omega
   have sI:=yq (K:=K) (L:=L) hk2
   have hcm:=Cs (K:=K) (L:=L) (show k.1<=2 by omega)
   obtain⟨OY,hT3⟩:=hT k.1
   refine QZ hI 4 2 [] [] [Uc 0 31 _,Uc 1 32 _] (.k .z) (.au (.kk .z)) ⟨mv,mv,trivial⟩ (.k .z) (.au (.pX .z)) (KG (n0:=0) (λi=>dB (aj (K++L) i)) (L8 hk2) OY (hnf:=λ_=>fS _) (hng:=λ_=>fS _) (hfit:=λ_=>kJ _)) λa w hI=>?_
   obtain⟨s',hI⟩:=hI
   dsimp only[List.set]at hI
   obtain⟨X',cap',rfl,hcap⟩:=yR hI 0 rfl
   rw[<-sI]at hI
   refine bf ?_
   refine af ?_
   refine Ao hI 2 [] [] [Uc 0 34 _,Uc 1 27 _] (.k .z) (.au (.t 1 (.kk .z))) ⟨bn,mv,trivial⟩ (.k .z) (.au (.bX (.k .z))) λa w hI=>?_
   refine af ?_
   exact wZ ((k.1+1,X',cap')) (by(show k.1+1<=2); omega) hI ⟨N0,trivial⟩ ⟨gc,gc,gc,gc,gc,trivial⟩ (by(show 2-(k.1+1)<2-k.1); omega)
  ·
   refine cL ?_
   refine aM ?_
   refine aM ?_
   refine bp ?_
   refine af ?_
   obtain⟨k,X,cap⟩:=k
   obtain rfl:k=2:=by(have hk':k<=2:=hk); omega
   dsimp only at hI
   have hI:=H7 hI 0 6 rfl (by kernel_rfl)
   dsimp only[List.eraseIdx]at hI
   refine aZ hI 2 [Uc 0 35 _,Uc 1 2 _] (.k (.t 1 (.au (.k .z)))) ⟨mv,mv,trivial⟩ (.d8 (.k .z)) λa w hI=>?_
   refine aF ?_
   exact bL hI rfl fh
noncomputable def sO (L:List Pt):List Pt:=me (sL L) (rL L) L.length
theorem JP (h:vX L):K1 Tryz.prog 35 (gw L) (gw (sO L)):=by
 have k:=MZ h
 rw[<-D7]at k
 exact k
structure Ch (K L:List Pt) (k l:Int):Prop where
 one:ct K k=0
 two:ct L l=0
 S4:vX (K++L)
 VG:(sO (K++L)).length<=10
theorem JM {k l:Int} (h:Ch K L k l):K2 Tryz.prog 15 (ko K k) (ko L l) (fH (ko (sO (K++L)) (gn k l)) (pI 0)):=by
 intro M w0 v0 v1 hM hv0 fW
 have hK:=iD (cN h.one)
 have hL:=iD (cN h.two)
 have hf:=h.VG
 have hE:∀i,ct (gb K L i) (if i=0 then k else l)=0:=λi=>by by_cases e:i=0<;>simp only[gb,e,if_true,if_false]; exact h.one; exact h.two
 have hT:∀i,(gb K L i).length<=1000:=λi=>by unfold gb; split<;>omega
 refine ud (N:=43) Tryz.func15 rfl rfl rfl hM hv0 fW λa hI=>?_
 refine bB hI 4 [⟨4,4,some 2,none,.ptr,24,2,true,pv _,[]⟩] [] [Uc 0 2 _,Uc 1 3 _,Uc 3 5 _] .z (.kk .z) ⟨xR 2 true (hf:=dn _ _),xR 2 true (hf:=dn _ _),oM [.n,.i],mv,trivial⟩ (.k .z) (.pX (.k .z)) λa w hI=>?_
 refine aq ?_
 refine bB hI 5 [] [] [Uc 0 10 _,Uc 1 11 _,Uc 2 12 _,Uc 3 13 _,Uc 4 14 _] (.k .z) (.cQ .z) ⟨ld,ld,Oj (zv:=.agg #[.slice none 0 0,.int .i64 0]) 24 [.slice none 0 0,.int .i64 0] (λi=>ko (gb K L i) (if i=0 then k else l)) (dn K k) (dn L l),ln,mv,trivial⟩ (.k .z) (.eG (.Jg .z)) λa w hI=>?_
 refine aK ?_
 refine xN [Vz 4 4 24 2 true _] [Uz 2 _,Uz 3 _,Uz 12 _,Uz 13 _] (λ(i:Nat)=>[]) (λ(i:Nat)=>[Uz 14 (pI (i:Int))]) (λ(i:Nat)=>i<=2) (λ(i:Nat)=>2-i) (0) (Nat.zero_le 2) hI ⟨vi,trivial⟩ ⟨gi,gi,gi,gi,gc,trivial⟩ ?_
 intro i a w hi hI
 refine bB hI 1 [] [] [Uc 0 15 _] (.k .z) (.au (.k .z)) ⟨bn,trivial⟩ (.k .z) (.au (.kk .z)) λa w hI=>?_
 refine aq ?_
 refine jK hI (λt1=>?_) (λt1=>?_)
 ·
  refine aG ?_
  refine af ?_
  refine aq ?_
  refine aK ?_
  refine bB hI 4 [⟨7,7,some 2,none,.ptr,24,2,true,pv _,[(3,pv _)]⟩] [] [Uc 0 16 _,Uc 1 17 _] (.k .z) (.au (.kk .z)) ⟨ix,ld,oM [.n,.i],ju,trivial⟩ (.k (.s .o .z)) (.au (.fZ .z)) λa w hI=>?_
  refine bB hI 3 [] [] [Uc 0 18 _,Uc 1 19 _,Uc 2 8 _] (.k (.k .z)) (.au (.k .z)) ⟨ld,um gE (hφ:=hT i),mv,trivial⟩ (.k (.d .z)) (.au (.uy .z)) λa w hI=>?_
  refine bB hI 2 [] [] [Uc 0 20 _,Uc 1 21 _] (.k .z) (.au (.kk .z)) ⟨mv,bn,trivial⟩ (.k .z) (.au (.nM .z)) λa w hI=>?_
  refine jK hI (λt2=>?_) (λt2=>?_)
  ·exfalso; exact t2 (hE i)
  refine aG ?_
  refine bf ?_
  refine af ?_
  refine Ao hI 2 [] [] [Uc 0 24 _,Uc 1 14 _] (.k .z) (.au (.t 1 (.kk .z))) ⟨bn,mv,trivial⟩ (.k .z) (.au (.bX (.k .z))) λa w hI=>?_
  refine af ?_
  exact wZ (i+1) (by omega) hI ⟨vc,trivial⟩ ⟨gc,gc,gc,gc,gc,trivial⟩ (by omega)
 ·
  refine cL ?_
  refine aM ?_
  refine aM ?_
  refine bp ?_
  refine af ?_
  refine bB hI 8 [] [] [Uc 0 25 _,Uc 1 26 _,Uc 2 27 _,Uc 3 28 _,Uc 4 29 _,Uc 5 30 _,Uc 6 31 _,Uc 7 9 _] (.k .z) (.au (.kk .z)) ⟨fP 0 1 false,ld,fP 0 1 false,ld,Oj (zv:=.slice none 0 0) 22 [.slice none 0 0] (λi=>gw (gb K L i)) lY lY,um (GC (K:=K) (L:=L)) (hφ:=⟨by omega,by omega,by omega,by omega⟩),um JP (hφ:=h.S4),mv,trivial⟩ (.k .z) (.eu (.d8 (.dk .z))) λa w hI=>?_
  refine aq ?_
  refine bB hI 3 [] [] [Uc 0 32 _,Uc 1 33 _,Uc 2 34 _] (.k .z) (.cQ .z) ⟨mv,ln,bn,trivial⟩ (.k .z) (.eG (.dk .z)) λa w hI=>?_
  refine jK hI (λt3=>?_) (λt3=>?_)
  ·exfalso; omega
  refine aG ?_
  refine af ?_
  refine bB hI 9 [] [] [Uc 0 36 _,Uc 1 37 _,Uc 2 38 _,Uc 3 39 _,Uc 4 40 _,Uc 5 41 _,Uc 6 42 _,Uc 8 5 _] (.u none [(7,pv _)] .z) (.au .z) ⟨mv,fP 1 1 false,ld,fP 1 1 false,ld,W5,bd [.o .n,.o .i] [(0,_),(1,_)],ju,mv,trivial⟩ (.s .o .z) (.d8 (.eY .z)) λa w hI=>?_
  refine aF ?_
  exact uq hI rfl xU fh
end Wx

namespace Wx
set_option maxRecDepth 100000
set_option maxHeartbeats 1000000
open Go Go.RowKit Go.Proofs
set_option linter.unusedVariables false
attribute [local irreducible] OpOk
variable {K L:List Pt} {f:Int}
theorem JN (h:K.length<=1000/\0<L.length/\C8 K/\C8 L/\CK K (aj L 0)=true/\0<K.length):K3 Tryz.prog 38 (gw K) (gw L) (pI f) (pB false):=by
 intro M w0 v0 v1 v2 hM hv0 fW hv2
 have hL:=h.2.1
 have hin:=h.2.2.2.2.1
 have hK:=h.2.2.2.2.2
 refine xP (N:=80) Tryz.func38 rfl rfl rfl hM hv0 fW hv2 λa hI=>?_
 refine bB hI 4 [⟨6,6,some 3,none,.ptr,4,1,false,pv _,[]⟩] [] [Uc 0 3 _,Uc 1 4 _,Uc 2 5 _] .z (.cQ .z) ⟨xR 1 false,xR 1 false,xR 1 false,Er .b,trivial⟩ (.k .z) (.eY (.kk .z)) λa w hI=>?_
 refine aq ?_
 refine xV hI [0,0,2,6,15,31,63,63,191,447,1023,2047] [] [] [Uc 0 11 _,Uc 1 12 _,Uc 2 13 _,Uc 3 14 _,Uc 4 15 _,Uc 5 16 _,Uc 6 17 _,Uc 7 18 _,Uc 8 19 _,Uc 9 20 _,Uc 10 21 _,Uc 11 22 _] (.k .z) (.cQ .z) ⟨ld,ld,ix,ld,wC (mj (L:=K) (p:=aj L 0)) (hφ:=⟨h.1,h.2.2.1,h.2.2.2.1 0 hL⟩),mv,gd λh=>dw h,gd λh=>dw h,gd λh=>yQ h,gd λh=>dw h,gd λh=>Jn h (mj (L:=L) (p:=aj K 0)) (hφ:=by rw[hin]at h; cases h),pk,trivial⟩ (.k .z) (.eG (.d8 (.nk .z))) λa w hI=>?_
 refine Xn hI (show(CK K (aj L 0)||CK L (aj K 0))=true by rw[hin]; rfl) ?_
 refine bB hI 1 [] [] [] (.u none [(0,pv _)] .z) (.au .z) ⟨ju,trivial⟩ (.s .o .z) (.eG .z) λa w hI=>?_
 refine aF ?_
 refine aB ?_
 exact bL hI rfl xU
theorem JL {k l:Int} (h:(ct K k=0/\ct L l=0)/\CK K (aj L 0)=true/\1<=f/\f<=2097152):K3 Tryz.prog 18 (ko K k) (ko L l) (pI f) (fH (pB false) (pI 0)):=by
 intro M w0 v0 v1 v2 hM hv0 fW hv2
 have hK:=iD (cN h.1.1)
 have hL:=iD (cN h.1.2)
 have hE:∀i,ct (gb K L i) (if i=0 then k else l)=0:=λi=>by by_cases e:i=0<;>simp only[gb,e,if_true,if_false]; exact h.1.1; exact h.1.2
 have hT:∀i,(gb K L i).length<=1000:=λi=>by unfold gb; split<;>omega
 have hin:=h.2.1
 have hf:=h.2.2
 refine xP (N:=37) Tryz.func18 rfl rfl rfl hM hv0 fW hv2 λa hI=>?_
 refine aZ hI 4 [Uc 0 3 _,Uc 1 4 _,Uc 2 6 _,Uc 3 7 _] (.cQ .z) ⟨xR 2 true (hf:=dn _ _),xR 2 true (hf:=dn _ _),mv,mv,trivial⟩ (.pX (.cQ .z)) λa w hI=>?_
 refine aq ?_
 refine aZ hI 5 [Uc 0 11 _,Uc 1 12 _,Uc 2 13 _,Uc 3 14 _,Uc 4 15 _] (.au (.k .z)) ⟨ld,ld,Oj (zv:=.agg #[.slice none 0 0,.int .i64 0]) 24 [.slice none 0 0,.int .i64 0] (λi=>ko (gb K L i) (if i=0 then k else l)) (dn K k) (dn L l),ln,mv,trivial⟩ (.au (.uy (.kk .z))) λa w hI=>?_
 refine aK ?_
 refine xN [] [Uz 2 _,Uz 3 _,Uz 4 _,Uz 13 _,Uz 14 _] (λ(i:Nat)=>[]) (λ(i:Nat)=>[Uz 15 (pI (i:Int))]) (λ(i:Nat)=>i<=2) (λ(i:Nat)=>2-i) (0) (Nat.zero_le 2) hI trivial ⟨gi,gi,gi,gi,gi,gc,trivial⟩ ?_
 intro i a w hi hI
 refine aZ hI 1 [Uc 0 16 _] (.au (.kk .z)) ⟨bn,trivial⟩ (.au (.cQ .z)) λa w hI=>?_
 refine aq ?_
 refine jK hI (λt1=>?_) (λt1=>?_)
 ·
  refine aG ?_
  refine af ?_
  refine aq ?_
  refine aK ?_
  refine bB hI 4 [⟨9,9,some 2,none,.ptr,24,2,true,pv _,[(3,pv _)]⟩] [] [Uc 0 17 _,Uc 1 18 _] .z (.au (.cQ .z)) ⟨ix,ld,oM [.n,.i],ju,trivial⟩ (.s .o .z) (.au (.eu (.d .z))) λa w hI=>?_
  refine bB hI 3 [] [] [Uc 0 19 _,Uc 1 20 _,Uc 2 10 _] (.k .z) (.au (.kk .z)) ⟨ld,um gE (hφ:=hT i),mv,trivial⟩ (.d .z) (.au (.eu (.k .z))) λa w hI=>?_
  refine aZ hI 2 [Uc 0 21 _,Uc 1 22 _] (.au (.cQ .z)) ⟨mv,bn,trivial⟩ (.au (.eG (.k .z))) λa w hI=>?_
  refine jK hI (λt2=>?_) (λt2=>?_)
  ·exfalso; exact t2 (hE i)
  refine aG ?_
  refine bf ?_
  refine af ?_
  refine qR hI 2 [Uc 0 24 _,Uc 1 15 _] (.au (.k (.t 1 (.kk .z)))) ⟨bn,mv,trivial⟩ (.au (.fZ (.dk .z))) λa w hI=>?_
  refine af ?_
  exact wZ (i+1) (by omega) hI trivial ⟨gc,gc,gc,gc,gc,gc,trivial⟩ (by omega)
 ·
  refine cL ?_
  refine aM ?_
  refine aM ?_
  refine bp ?_
  refine af ?_
  refine aq ?_
  refine aZ hI 6 [Uc 0 25 _,Uc 1 26 _,Uc 2 27 _,Uc 3 28 _,Uc 4 29 _,Uc 5 30 _] (.au (.cQ .z)) ⟨mv,bn,mv,gd λh=>fQ h,gd λh=>lB h,pk,trivial⟩ (.eG (.d8 (.k .z))) λa w hI=>?_
  refine tY hI (λt3=>?_) (λt3=>?_)
  ·exfalso; simp only[Bool.or_eq_true,decide_eq_true_eq]at t3; omega
  refine aG ?_
  refine af ?_
  refine aZ hI 8 [Uc 0 31 _,Uc 1 32 _,Uc 2 33 _,Uc 3 34 _,Uc 4 35 _,Uc 5 36 _,Uc 6 6 _,Uc 7 7 _] (.au .z) ⟨fP 0 1 false,ld,fP 0 1 false,ld,mv,AL (JN (K:=K) (L:=L)) (hφ:=⟨by omega,by omega,iY (cN h.1.1),iY (cN h.1.2),hin,by omega⟩),mv,mv,trivial⟩ (.d8 (.pX .z)) λa w hI=>?_
  refine aF ?_
  exact uq hI rfl fh fh
theorem CN (_:True):K1 Tryz.prog 9 (gw L) (pB (decide ((L.length:Int)<=20))):=by
 intro M w0 v0 hM hv0
 refine uc (N:=6) Tryz.func9 rfl rfl rfl hM hv0 λa hI=>?_
 refine aZ hI 1 [Uc 0 2 _] (.k .z) ⟨mv,trivial⟩ (.kk .z) λa w hI=>?_
 refine aZ hI 4 [Uc 0 3 _,Uc 1 4 _,Uc 2 5 _,Uc 3 2 _] (.k (.t 3 .z)) ⟨mv,ln,bn,mv,trivial⟩ (.bX (.dk .z)) λa w hI=>?_
 refine aF ?_
 exact bL hI rfl fh
theorem Np (hl:K.length=L.length) (h:∀q,q<K.length->aj K q=aj L q):K=L:=by
 refine List.ext_getElem hl λq h1 h2=>?_
 have e:=h q h1
 unfold aj at e
 rw[List.getD_eq_getElem?_getD,List.getD_eq_getElem?_getD,List.getElem?_eq_getElem h1,List.getElem?_eq_getElem h2]at e
 exact e
theorem JR (h:K.length<=1000000/\L.length<=1000000):K2 Tryz.prog 17 (gw K) (gw L) (pB (decide (K=L))):=by
 intro M w0 v0 v1 hM hv0 fW
 refine ud (N:=26) Tryz.func17 rfl rfl rfl hM hv0 fW λa hI=>?_
 refine aZ hI 1 [Uc 0 4 _] (.kk .z) ⟨mv,trivial⟩ (.cQ .z) λa w hI=>?_
 refine aq ?_
 refine aZ hI 5 [Uc 0 6 _,Uc 1 7 _,Uc 2 8 _,Uc 3 9 _,Uc 4 10 _] (.cQ .z) ⟨mv,ln,mv,ln,bn,trivial⟩ (.eG (.eY .z)) λa w hI=>?_
 refine jK hI (λt1=>?_) (λt1=>?_)
 ·
  refine aZ hI 1 [Uc 0 4 _] (.kk (.t 0 (.k .z))) ⟨mv,trivial⟩ (.eu (.k .z)) λa w hI=>?_
  refine aF ?_
  refine aB ?_
  exact bL hI rfl (fh (hq:=cT (by rw[decide_eq_false]; intro e; rw[e]at t1; exact t1 rfl)))
 ·
  refine aG ?_
  refine af ?_
  refine aq ?_
  refine aZ hI 3 [Uc 0 11 _,Uc 1 12 _,Uc 2 13 _] (.au .z) ⟨mv,ln,mv,trivial⟩ (.eG (.NM .z)) λa w hI=>?_
  refine aK ?_
  refine xN [] [Uz 0 _,Uz 1 _,Uz 12 _] (λ(i:Nat)=>[]) (λ(i:Nat)=>[Uz 13 (pI (i:Int))]) (λ(i:Nat)=>i<=K.length/\∀q,q<i->aj K q=aj L q) (λ(i:Nat)=>K.length-i) (0) ⟨Nat.zero_le _,λ_ h=>absurd h (Nat.not_lt_zero _)⟩ hI trivial ⟨gi,gi,gi,gc,trivial⟩ ?_
  intro i a w hi hI
  refine aZ hI 1 [Uc 0 14 _] (.au .z) ⟨bn,trivial⟩ (.au (.k .z)) λa w hI=>?_
  refine aq ?_
  refine jK hI (λt2=>?_) (λt2=>?_)
  ·
   refine aG ?_
   refine af ?_
   refine aq ?_
   refine aK ?_
   refine aZ hI 2 [Uc 0 15 _,Uc 1 5 _] (.au (.k .z)) ⟨mv,mv,trivial⟩ (.au (.nk .z)) λa w hI=>?_
   refine Qm hI [0,0,3,7,0,0,48,112,255] [Uc 0 16 _,Uc 1 17 _,Uc 2 18 _,Uc 3 19 _,Uc 4 20 _,Uc 5 21 _,Uc 6 22 _,Uc 7 23 _,Uc 8 24 _] (.au (.k .z)) ⟨mv,mv,ix,ld,mv,mv,ix,ld,W6,trivial⟩ (.au (.d8 (.dk .z))) λa w hI=>?_
   refine jK hI (λt3=>?_) (λt3=>?_)
   ·
    refine aZ hI 1 [Uc 0 4 _] (.au (.k .z)) ⟨mv,trivial⟩ (.au (.dk .z)) λa w hI=>?_
    refine aF ?_
    refine aN ?_
    refine aB ?_
    refine aB ?_
    refine aN ?_
    refine aB ?_
    exact bL hI rfl (fh (hq:=cT (by rw[decide_eq_false]; intro e; rw[e]at t3; exact t3 rfl)))
   ·
    refine aG ?_
    refine bf ?_
    refine af ?_
    refine qR hI 2 [Uc 0 25 _,Uc 1 13 _] (.cQ (.t 1 (.k .z))) ⟨bn,mv,trivial⟩ (.eG (.nk .z)) λa w hI=>?_
    refine af ?_
    exact wZ (i+1) ⟨by omega,λq hq=>if e:q=i then by rw[e]; exact Decidable.not_not.1 t3 else hi.2 q (by omega)⟩ hI trivial ⟨gc,gc,gc,gc,trivial⟩ (by omega)
  ·
   refine cL ?_
   refine aM ?_
   refine aM ?_
   refine bp ?_
   refine af ?_
   refine aZ hI 1 [Uc 0 4 _] (.au (.k .z)) ⟨mv,trivial⟩ (.bX (.dk .z)) λa w hI=>?_
   refine aF ?_
   exact bL hI rfl (fh (hq:=cT (by rw[decide_eq_true]; exact Np (by omega) λq hq=>hi.2 q (by omega))))
end Wx
