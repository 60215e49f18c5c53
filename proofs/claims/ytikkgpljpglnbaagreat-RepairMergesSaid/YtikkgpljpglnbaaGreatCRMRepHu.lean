import Derived.Test.YtikkgpljpglnbaaGreatJRM42
namespace Wx
open Go Go.RowKit Go.Proofs
set_option linter.unusedVariables false
abbrev eL (a b:Pt):Prop:=a.1<b.1\/(a.1=b.1/\a.2<b.2)
abbrev oL (a b:Pt):Prop:=eL a b\/a=b
variable {a b c:Pt}
theorem eM (h1:eL a b) (h2:eL b c):eL a c:=by
 unfold eL at *; omega
theorem dK (h:eL a a):False:=by
 unfold eL at h; omega
theorem JW (h1:oL a b) (h2:eL b c):eL a c:=by
 rcases h1 with h|rfl
 ·exact eM h h2
 ·exact h2
theorem DC (h1:eL a b) (h2:oL b c):eL a c:=by
 rcases h2 with h|rfl
 ·exact eM h1 h
 ·exact h1
theorem ur (a b:Pt):eL a b\/a=b\/eL b a:=by
 obtain⟨a1,a2⟩:=a
 obtain⟨b1,b2⟩:=b
 have:(a1<b1\/(a1=b1/\a2<b2))\/(a1=b1/\a2=b2)\/(b1<a1\/(b1=a1/\b2<a2)):=by omega
 rcases this with h|⟨rfl,rfl⟩|h
 ·exact .inl h
 ·exact .inr (.inl rfl)
 ·exact .inr (.inr h)
theorem D8 {a x:Int} (ha:0<a) (h:0<a*x):0<x:=by
 rcases (show 0<x\/x<=0 by omega)with k|k
 ·exact k
 ·have:=Int.mul_le_mul_of_nonneg_left k (Int.le_of_lt ha)
  rw[Int.mul_zero]at this
  omega
theorem Iu {a x:Int} (ha:0<a) (h:0<=a*x):0<=x:=by
 rcases (show x<0\/0<=x by omega)with k|k
 ·have:=Int.mul_lt_mul_of_pos_left k ha
  rw[Int.mul_zero]at this
  omega
 ·exact k
theorem nY {s1 s2 w1 w2 r1 r2:Int} (hs:0<s1\/(0=s1/\0<s2)) (hw:0<w1\/(0=w1/\0<w2)) (hr:0<r1\/(0=r1/\0<r2)) (h1:0<=s1*w2-s2*w1) (h2:0<w1*r2-w2*r1):0<s1*r2-s2*r1:=by
 have hs0:0<=s1:=by omega
 have NK:0<=r1:=by omega
 rcases hw with hw|⟨hw,Di⟩
 ·have id:w1*(s1*r2-s2*r1)=s1*(w1*r2-w2*r1)+r1*(s1*w2-s2*w1):=by grind
  rcases hs with hs|⟨hs,hs2⟩
  ·have k1:0<s1*(w1*r2-w2*r1):=Int.mul_pos hs h2
   have k2:0<=r1*(s1*w2-s2*w1):=Int.mul_nonneg NK h1
   have k3:0<w1*(s1*r2-s2*r1):=by omega
   exact D8 hw k3
  ·subst hs
   have:0<s2*w1:=Int.mul_pos hs2 hw
   rw[Int.zero_mul]at h1
   omega
 ·subst hw
  have:=Int.mul_nonneg (Int.le_of_lt Di) NK
  rw[Int.zero_mul]at h2
  omega
theorem tI (a b c:Pt):az a c b = -az a b c:=by unfold az; grind
theorem Cm (a c:Pt):az a a c=0:=by unfold az; grind
theorem xw (a b:Pt):az a b b=0:=by unfold az; grind
theorem xu (a b:Pt):az a b a=0:=by unfold az; grind
variable {e p:Pt}
theorem above (KS:eL e p) (hab:eL a b) (h1:oL a c) (h2:oL c b) (fa:0<=az e p a) (fb:0<=az e p b) (hc:0<=az a b c):0<=az e p c:=by
 rcases h1 with h1|rfl
 ·rcases h2 with h2|rfl
  ·have hx1:a.1<=c.1:=by unfold eL at h1; omega
   have hx2:c.1<=b.1:=by unfold eL at h2; omega
   have hu:e.1<=p.1:=by unfold eL at KS; omega
   rcases hab with hab|⟨hab,SR⟩
   ·have id:(b.1-a.1)*az e p c=(b.1-c.1)*az e p a+(c.1-a.1)*az e p b+(p.1-e.1)*az a b c:=by unfold az; grind
    have k1:=Int.mul_nonneg (show 0<=b.1-c.1 by omega) fa
    have k2:=Int.mul_nonneg (show 0<=c.1-a.1 by omega) fb
    have k3:=Int.mul_nonneg (show 0<=p.1-e.1 by omega) hc
    exact Iu (show 0<b.1-a.1 by omega) (by omega)
   ·have e1:c.1=a.1:=by omega
    have y1:a.2<c.2:=by unfold eL at h1; omega
    have y2:c.2<b.2:=by unfold eL at h2; omega
    have id:(b.2-a.2)*az e p c=(b.2-c.2)*az e p a+(c.2-a.2)*az e p b:=by
     unfold az
     rw[e1,<-hab]
     grind
    have k1:=Int.mul_nonneg (show 0<=b.2-c.2 by omega) fa
    have k2:=Int.mul_nonneg (show 0<=c.2-a.2 by omega) fb
    exact Iu (show 0<b.2-a.2 by omega) (by omega)
  ·exact fb
 ·exact fa
theorem Oj (LU:eL a e) (KS:eL e p) (hce:eL c e) (h1:0<az a e p) (h2:0<=az a e c):0<az e p c:=by
 have k:=nY (s1:=e.1-c.1) (s2:=e.2-c.2) (w1:=e.1-a.1) (w2:=e.2-a.2) (r1:=p.1-e.1) (r2:=p.2-e.2) (by unfold eL at hce; omega) (by unfold eL at LU; omega) (by unfold eL at KS; omega)
  (by
   have:(e.1-c.1)*(e.2-a.2)-(e.2-c.2)*(e.1-a.1)=az a e c:=by unfold az; grind
   omega)
  (by
   have:(e.1-a.1)*(p.2-e.2)-(e.2-a.2)*(p.1-e.1)=az a e p:=by unfold az; grind
   omega)
 have:(e.1-c.1)*(p.2-e.2)-(e.2-c.2)*(p.1-e.1)=az e p c:=by unfold az; grind
 omega
theorem Lh (hab:eL a b) (hbc:eL b c) (L5:eL c p) (h1:0<az a b c) (h2:0<az b c p):0<az a b p:=by
 have k:=nY (s1:=b.1-a.1) (s2:=b.2-a.2) (w1:=c.1-b.1) (w2:=c.2-b.2) (r1:=p.1-c.1) (r2:=p.2-c.2) (by unfold eL at hab; omega) (by unfold eL at hbc; omega) (by unfold eL at L5; omega)
  (by
   have:(b.1-a.1)*(c.2-b.2)-(b.2-a.2)*(c.1-b.1)=az a b c:=by unfold az; grind
   omega)
  (by
   have:(c.1-b.1)*(p.2-c.2)-(c.2-b.2)*(p.1-c.1)=az b c p:=by unfold az; grind
   omega)
 have:az a b p=az a b c+((b.1-a.1)*(p.2-c.2)-(b.2-a.2)*(p.1-c.1)):=by unfold az; grind
 omega
structure K7 (C:List Pt) (k:Nat) (O:List Pt):Prop where
 pos:0<O.length
 mem:∀i,i<O.length->∃j,j<k/\ae O i=ae C j
 first:ae O 0=ae C 0
 last:ae O (O.length-1)=ae C (k-1)
 mono:∀i,i+1<O.length->eL (ae O i) (ae O (i+1))
 qq:∀i,i+1<O.length->∀j,j<k->0<=az (ae O i) (ae O (i+1)) (ae C j)/\(az (ae O i) (ae O (i+1)) (ae C j)=0->oL (ae O i) (ae C j)/\oL (ae C j) (ae O (i+1)))
abbrev G7 (C:List Pt):Prop:=∀i j,i<j->j<C.length->eL (ae C i) (ae C j)
theorem Ah {C O:List Pt} {k:Nat} {p:Pt} (h:K7 C k O) (hp:∀j,j<k->eL (ae C j) p):∀n,1<=n->n<=O.length->(∀j,j<k->oL (ae O (n-1)) (ae C j)->0<=az (ae O (n-1)) p (ae C j)) ->
  (∀j,j<k->oL (ae O (cD O p n-1)) (ae C j)->0<=az (ae O (cD O p n-1)) p (ae C j))/\1<=cD O p n/\(cD O p n=1\/0<az (ae O (cD O p n-2)) (ae O (cD O p n-1)) p)
 |0,h1,_,_=>absurd h1 (by decide)
 |1,_,_,hq=>⟨hq,Nat.le_refl _,.inl rfl⟩
 |n+2,_,hn,hq=>by
  have hq:∀j,j<k->oL (ae O (n+1)) (ae C j)->0<=az (ae O (n+1)) p (ae C j):=hq
  by_cases ht:az (ae O n) (ae O (n+1)) p<=0
  ·have e:cD O p (n+2)=cD O p (n+1):=if_pos ht
   rw[e]
   refine Ah h hp (n+1) (by omega) (by omega) λj hj hl=>?_
   have hl:oL (ae O n) (ae C j):=hl
   show 0<=az (ae O n) p (ae C j)
   have hab:=h.mono n (by omega)
   have hO:∀i,i<O.length->eL (ae O i) p:=λi hi=>by
    obtain⟨j,hj,e⟩:=h.mem i hi
    rw[e]
    exact hp j hj
   have fb:0<=az (ae O n) p (ae O (n+1)):=by rw[tI]; omega
   have fa:0<=az (ae O n) p (ae O n):=by rw[xu]; exact Int.le_refl _
   have fp:0<=az (ae O n) p p:=by rw[xw]; exact Int.le_refl _
   rcases ur (ae C j) (ae O (n+1))with hc|hc|hc
   ·exact above (hO n (by omega)) hab hl (.inl hc) fa fb (h.qq n (by omega) j hj).1
   ·exact above (hO n (by omega)) hab hl (.inr hc) fa fb (h.qq n (by omega) j hj).1
   ·exact above (hO n (by omega)) (hO (n+1) (by omega)) (.inl hc) (.inl (hp j hj)) fb fp (hq j hj (.inl hc))
  ·have e:cD O p (n+2)=n+2:=if_neg ht
   rw[e]
   exact⟨hq,by omega,.inr (by show 0<az (ae O n) (ae O (n+1)) p; omega)⟩
variable {O:List Pt} {n i:Nat}
theorem dS (hn:n<=O.length) (hi:i<n):ae (O.take n++[p]) i=ae O i:=by
 have hl:(O.take n).length=n:=by rw[List.length_take,Nat.min_eq_left hn]
 unfold ae
 rw[List.getD_eq_getElem?_getD,List.getD_eq_getElem?_getD,List.getElem?_append_left (by omega),List.getElem?_take,if_pos hi]
theorem mI (hn:n<=O.length):ae (O.take n++[p]) n=p:=by
 have hl:(O.take n).length=n:=by rw[List.length_take,Nat.min_eq_left hn]
 unfold ae
 rw[List.getD_eq_getElem?_getD,List.getElem?_append_right (by omega),hl,Nat.sub_self]
 rfl
theorem vE {C O:List Pt} {k n:Nat} {p:Pt} (h:K7 C k O) (hO:∀i,i<O.length->eL (ae O i) p) (hn:n<=O.length) (Bu:n=1\/0<az (ae O (n-2)) (ae O (n-1)) p):∀d i,i+2+d=n->0<az (ae O i) (ae O (i+1)) p
 |0,i,e=>by
  have:=Bu.resolve_left (by omega)
  rwa [show n-2=i by omega,show n-1=i+1 by omega]at this
 |d+1,i,e=>by
  have ih:=vE h hO hn Bu d (i+1) (by omega)
  have m1:=h.mono i (by omega)
  have m2:=h.mono (i+1) (by omega)
  refine Lh m1 m2 (hO (i+2) (by omega)) ?_ ih
  obtain⟨j,hj,ej⟩:=h.mem (i+2) (by omega)
  have he:=h.qq i (by omega) j hj
  rw[<-ej]at he
  rcases Int.lt_or_eq_of_le he.1 with k1|k1
  ·exact k1
  ·exact(dK (DC m2 (he.2 k1.symm).2)).elim
variable {C:List Pt} {k:Nat}
theorem CO (hC:G7 C) (h:K7 C k O) (pA:1<=k) (hk:k<C.length):K7 C (k+1) (O.take (cD O (ae C k) O.length)++[ae C k]):=by
 have hp:∀j,j<k->eL (ae C j) (ae C k):=λj hj=>hC j k hj hk
 have hO:∀i,i<O.length->eL (ae O i) (ae C k):=λi hi=>by
  obtain⟨j,hj,e⟩:=h.mem i hi
  rw[e]
  exact hp j hj
 have hpos:=h.pos
 obtain⟨hQ,Bu,Ab⟩:=Ah h hp O.length hpos (Nat.le_refl _) λj hj hl=>by
  have e:ae C j=ae O (O.length-1):=by
   rw[h.last]at hl ⊢
   rcases Nat.lt_or_ge j (k-1)with g|g
   ·exact(dK (JW hl (hC j (k-1) g (by omega)))).elim
   ·rw[show j=k-1 by omega]
  rw[e,xu]
  exact Int.le_refl _
 have hnl:=mj O (ae C k) O.length
 generalize FO:cD O (ae C k) O.length=n at *
 have hlen:(O.take n++[ae C k]).length=n+1:=by rw[List.length_append,List.length_take,Nat.min_eq_left hnl]; rfl
 have hleft:=vE h hO hnl Ab
 refine⟨by omega,λi hi=>?_,?_,?_,λi hi=>?_,λi hi j hj=>?_⟩
 ·by_cases e:i<n
  ·obtain⟨j,hj,ej⟩:=h.mem i (by omega)
   exact⟨j,by omega,by rw[dS hnl e]; exact ej⟩
  ·exact⟨k,by omega,by rw[show i=n by omega,mI hnl]⟩
 ·rw[dS hnl (by omega)]; exact h.first
 ·rw[hlen,show n+1-1=n by omega,show k+1-1=k by omega,mI hnl]
 ·by_cases e:i+1<n
  ·rw[dS hnl e,dS hnl (by omega)]
   exact h.mono i (by omega)
  ·rw[show i+1=n by omega,mI hnl,dS hnl (by omega)]
   exact hO i (by omega)
 ·by_cases e:i+1<n
  ·rw[dS hnl e,dS hnl (by omega)]
   by_cases ej:j=k
   ·subst ej
    have:=hleft (n-2-i) i (by omega)
    exact⟨Int.le_of_lt this,λg=>by omega⟩
   ·exact h.qq i (by omega) j (by omega)
  ·obtain rfl:n=i+1:=by omega
   rw[mI hnl,dS hnl (by omega)]
   have KS:=hO i (by omega)
   by_cases ej:j=k
   ·subst ej
    exact⟨by rw[xw]; exact Int.le_refl _,λ_=>⟨.inl KS,.inr rfl⟩⟩
   ·have hj':j<k:=by omega
    rcases ur (ae C j) (ae O i)with hc|hc|hc
    ·have Td:1<=i:=by
      rcases Nat.eq_zero_or_pos i with e0|e0
      ·exfalso
       subst e0
       rw[h.first]at hc
       rcases Nat.eq_zero_or_pos j with g|g
       ·rw[g]at hc; exact dK hc
       ·exact dK (eM hc (hC 0 j g (by omega)))
      ·exact e0
     have m1:=h.mono (i-1) (by omega)
     rw[show i-1+1=i by omega]at m1
     have he:=(h.qq (i-1) (by omega) j hj').1
     rw[show i-1+1=i by omega]at he
     have ht:=Ab.resolve_left (by omega)
     rw[show i+1-2=i-1 by omega,show i+1-1=i by omega]at ht
     have:=Oj m1 KS hc ht he
     exact⟨Int.le_of_lt this,λg=>by omega⟩
    ·exact⟨hQ j hj' (.inr hc.symm),λ_=>⟨.inr hc.symm,.inl (hp j hj')⟩⟩
    ·exact⟨hQ j hj' (.inl hc),λ_=>⟨.inl hc,.inl (hp j hj')⟩⟩
theorem xR {C:List Pt} (hC:G7 C):∀k,1<=k->k<=C.length->K7 C k (ah C k)
 |0,h,_=>absurd h (by decide)
 |1,_,_=>by
  refine⟨by show 0<1; decide,λi hi=>⟨0,by decide,?_⟩,rfl,rfl,λi hi=>?_,λi hi=>?_⟩
  ·have hi:i<1:=hi
   rw[show i=0 by omega]
   rfl
  ·have hi:i+1<1:=hi
   omega
  ·have hi:i+1<1:=hi
   omega
 |k+2,_,h=>CO hC (xR hC (k+1) (by omega) (by omega)) (by omega) (by omega)
def nu (p:Pt):Pt:=(-p.1,-p.2)
theorem Av (a b c:Pt):az (nu a) (nu b) (nu c)=az a b c:=by unfold az nu; grind
theorem Au (p:Pt):nu (nu p)=p:=by
 obtain⟨a,b⟩:=p
 show((- -a,- -b):Pt)=(a,b)
 rw[Int.neg_neg,Int.neg_neg]
theorem jq (L:List Pt) (i:Nat):ae (L.map nu) i=nu (ae L i):=by
 unfold ae
 rw[List.getD_eq_getElem?_getD,List.getD_eq_getElem?_getD,List.getElem?_map]
 cases L[i]?<;>rfl
theorem Ar (O:List Pt) (p:Pt):∀n,cD (O.map nu) (nu p) n=cD O p n
 |0=>rfl
 |1=>rfl
 |n+2=>by
  show(if az (ae (O.map nu) n) (ae (O.map nu) (n+1)) (nu p)<=0 then cD (O.map nu) (nu p) (n+1)else n+2)=(if az (ae O n) (ae O (n+1)) p<=0 then cD O p (n+1)else n+2)
  rw[jq,jq,Av,Ar O p (n+1)]
theorem wG (L:List Pt):∀k,ah (L.map nu) k=(ah L k).map nu
 |0=>rfl
 |k+1=>by
  show(ah (L.map nu) k).take _++[ae (L.map nu) k]=List.map nu ((ah L k).take _++[ae L k])
  rw[wG L k,jq,Ar,List.length_map,List.map_append,List.map_take]
  rfl
theorem DL:eL (nu a) (nu b)↔eL b a:=by
 unfold eL nu
 dsimp only
 omega
theorem Ir:oL (nu a) (nu b)↔oL b a:=by
 unfold oL
 rw[DL]
 constructor
 ·rintro(h|h)
  ·exact .inl h
  ·exact .inr (by rw[<-Au a,h,Au])
 ·rintro(h|h)
  ·exact .inl h
  ·exact .inr (by rw[h])
def Fp (x c y:Pt):Prop:=(oL x c/\oL c y)\/(oL y c/\oL c x)
def Cw (C:List Pt) (x y:Pt):Prop:=x≠y/\∀j,j<C.length->0<=az x y (ae C j)/\(az x y (ae C j)=0->Fp x (ae C j) y)
theorem IV (hC:G7 C) (h1:1<=C.length):0<(ah (dz C.length C) C.length).length/\ae (ah (dz C.length C) C.length) 0=ae C (C.length-1)/\ae (ah (dz C.length C) C.length) ((ah (dz C.length C) C.length).length-1)=ae C 0 /\
  (∀i,i+1<(ah (dz C.length C) C.length).length->eL (ae (ah (dz C.length C) C.length) (i+1)) (ae (ah (dz C.length C) C.length) i)/\Cw C (ae (ah (dz C.length C) C.length) i) (ae (ah (dz C.length C) C.length) (i+1))):=by
 have hs:G7 ((dz C.length C).map nu):=λi j hij hj=>by
  rw[List.length_map,mO]at hj
  rw[jq,jq,DL,jh hj,jh (by omega)]
  exact hC _ _ (by omega) (by omega)
 have k:=xR hs C.length h1 (by rw[List.length_map,mO]; exact Nat.le_refl _)
 rw[wG]at k
 generalize ah (dz C.length C) C.length=O at *
 have kp:=k.pos
 have kf:=k.first
 have kl:=k.last
 rw[List.length_map]at kp kl
 rw[jq,jq,jh (by omega)]at kf kl
 have inj:∀{a b:Pt},nu a=nu b->a=b:=λ{a b} e=>by rw[<-Au a,e,Au]
 refine⟨kp,inj kf,?_,λi hi=>?_⟩
 ·have:=inj kl
  rwa [show C.length-1-(C.length-1)=0 by omega]at this
 ·have km:=k.mono i (by rw[List.length_map]; exact hi)
  rw[jq,jq,DL]at km
  refine⟨km,λe=>dK (e▸km),λj hj=>?_⟩
  have ke:=k.qq i (by rw[List.length_map]; exact hi) (C.length-1-j) (by omega)
  rw[jq,jq,jq,Av,Ir,Ir,jh (by omega),show C.length-1-(C.length-1-j)=j by omega]at ke
  exact⟨ke.1,λe=>.inr ⟨(ke.2 e).2,(ke.2 e).1⟩⟩
theorem Il (hC:G7 C) (h1:1<=C.length):0<(ah C C.length).length/\ae (ah C C.length) 0=ae C 0/\ae (ah C C.length) ((ah C C.length).length-1)=ae C (C.length-1) /\
  (∀i,i+1<(ah C C.length).length->eL (ae (ah C C.length) i) (ae (ah C C.length) (i+1))/\Cw C (ae (ah C C.length) i) (ae (ah C C.length) (i+1))):=by
 have k:=xR hC C.length h1 (Nat.le_refl _)
 refine⟨k.pos,k.first,k.last,λi hi=>?_⟩
 have km:=k.mono i hi
 refine⟨km,λe=>dK (e▸km),λj hj=>?_⟩
 have ke:=k.qq i hi j hj
 exact⟨ke.1,λe=>.inl (ke.2 e)⟩
structure La (C H:List Pt):Prop where
 two:2<=H.length
 max:H.length<=2*C.length
 first:ae H 0=ae C 0
 rest:∀i,0<i->i<H.length->eL (ae C 0) (ae H i)
 qq:∀i,i+1<H.length->Cw C (ae H i) (ae H (i+1))
 back:Cw C (ae H (H.length-1)) (ae H 0)
 mem:∀i,i<H.length->∃j,j<C.length/\ae H i=ae C j
theorem Kz (hi:i<(ah (dz C.length C) C.length).length):∃j,j<C.length/\ae (ah (dz C.length C) C.length) i=ae C j:=by
 obtain⟨q,hq,e⟩:=iP (rF hi)
 exact⟨C.length-1-q,by omega,by rw[e,jh hq]⟩
theorem sQ {O:List Pt} (h:∀i,i+1<O.length->eL (ae O i) (ae O (i+1))):∀d i,i+d+1<O.length->eL (ae O i) (ae O (i+d+1))
 |0,i,hi=>h i hi
 |d+1,i,hi=>eM (sQ h d i (by omega)) (h (i+d+1) (by omega))
theorem sP {O:List Pt} (h:∀i,i+1<O.length->eL (ae O (i+1)) (ae O i)):∀d i,i+d+1<O.length->eL (ae O (i+d+1)) (ae O i)
 |0,i,hi=>h i hi
 |d+1,i,hi=>eM (h (i+d+1) (by omega)) (sP h d i (by omega))
theorem FR (hC:G7 C) (h2:2<=C.length):La C (di C (dz C.length C) C.length):=by
 obtain⟨a1,a2,a3,a4⟩:=Il hC (by omega)
 obtain⟨b1,b2,b3,b4⟩:=IV hC (by omega)
 have hm:∀i,i<(ah C C.length).length->∃j,j<C.length/\ae (ah C C.length) i=ae C j:=λi hi=>by
  obtain⟨q,hq,e⟩:=iP (rF hi)
  exact⟨q,hq,e⟩
 have KU:=λi=>Kz (C:=C) (i:=i)
 have hlen:=nC (S:=C) (R:=dz C.length C) (n:=C.length)
 have l1:=dw C C.length
 have l2:=dw (dz C.length C) C.length
 have e0:eL (ae C 0) (ae C (C.length-1)):=hC 0 _ (by omega) (by omega)
 have hat:∀i,i<(ah C C.length).length-1->ae (di C (dz C.length C) C.length) i=ae (ah C C.length) i:=λi hi=>by
  unfold di
  have hl:((ah C C.length).take ((ah C C.length).length-1)).length=(ah C C.length).length-1:=by rw[List.length_take,Nat.min_eq_left (Nat.sub_le _ _)]
  rw[<-pF (O:=ah C C.length) hi]
  unfold ae
  rw[List.getD_eq_getElem?_getD,List.getD_eq_getElem?_getD,List.getElem?_append_left (by omega)]
 have Bt:∀i,i<(ah (dz C.length C) C.length).length-1->ae (di C (dz C.length C) C.length) ((ah C C.length).length-1+i)=ae (ah (dz C.length C) C.length) i:=λi hi=>by
  unfold di
  have hl:((ah C C.length).take ((ah C C.length).length-1)).length=(ah C C.length).length-1:=by rw[List.length_take,Nat.min_eq_left (Nat.sub_le _ _)]
  rw[<-pF (O:=ah (dz C.length C) C.length) hi]
  unfold ae
  rw[List.getD_eq_getElem?_getD,List.getD_eq_getElem?_getD,List.getElem?_append_right (by omega),hl,Nat.add_sub_cancel_left]
 generalize di C (dz C.length C) C.length=H at *
 generalize hA:ah C C.length=A at *
 generalize hB:ah (dz C.length C) C.length=B at *
 have hA2:2<=A.length:=by
  rcases Nat.lt_or_ge A.length 2 with g|g
  ·rw[show A.length-1=0 by omega,a2]at a3
   exact(dK (a3▸e0)).elim
  ·exact g
 have hB2:2<=B.length:=by
  rcases Nat.lt_or_ge B.length 2 with g|g
  ·rw[show B.length-1=0 by omega,b2]at b3
   exact(dK (b3▸e0)).elim
  ·exact g
 have jL:ae H (A.length-1)=ae A (A.length-1):=by
  have:=Bt 0 (by omega)
  rw[Nat.add_zero]at this
  rw[this,b2,a3]
 have hlo:∀i,i<A.length->ae H i=ae A i:=λi hi=>by
  by_cases g:i<A.length-1
  ·exact hat i g
  ·rw[show i=A.length-1 by omega]; exact jL
 have Db:ae H 0=ae C 0:=by rw[hlo 0 (by omega),a2]
 refine⟨by omega,by omega,Db,λi h0 hi=>?_,λi hi=>?_,?_,λi hi=>?_⟩
 ·by_cases g:i<A.length
  ·rw[hlo i g,<-a2]
   have:=sQ (λi hi=>(a4 i hi).1) (i-1) 0 (by omega)
   rwa [show 0+(i-1)+1=i by omega]at this
  ·obtain⟨j,rfl⟩:∃j,i=A.length-1+j:=⟨i-(A.length-1),by omega⟩
   rw[Bt j (by omega),<-b3]
   have:=sP (λi hi=>(b4 i hi).1) (B.length-2-j) j (by omega)
   rwa [show j+(B.length-2-j)+1=B.length-1 by omega]at this
 ·by_cases g:i+1<A.length
  ·rw[hlo i (by omega),hlo (i+1) g]
   exact(a4 i g).2
  ·obtain⟨j,rfl⟩:∃j,i=A.length-1+j:=⟨i-(A.length-1),by omega⟩
   rw[Bt j (by omega),show A.length-1+j+1=A.length-1+(j+1) by omega,Bt (j+1) (by omega)]
   exact(b4 j (by omega)).2
 ·obtain⟨j,hj⟩:∃j,j+2=B.length:=⟨B.length-2,by omega⟩
  rw[show H.length-1=A.length-1+j by omega,Bt j (by omega),Db,<-b3,show B.length-1=j+1 by omega]
  exact(b4 j (by omega)).2
 ·by_cases g:i<A.length
  ·rw[hlo i g]
   exact hm i g
  ·obtain⟨j,rfl⟩:∃j,i=A.length-1+j:=⟨i-(A.length-1),by omega⟩
   rw[Bt j (by omega)]
   exact KU j (by omega)
variable {B:Int}
theorem FA {A a b:Int} (h:A*b=B*a) (hc:(0<A/\0<=a/\a<A)\/(A<0/\a<=0/\A<a)):a*a+b*b<A*A+B*B:=by
 have hA:0<A*A:=by
  rcases hc with hc|hc
  ·exact Int.mul_pos hc.1 hc.1
  ·exact Int.mul_pos_of_neg_of_neg hc.1 hc.1
 have h1:0<A*A-a*a:=by
  have e:A*A-a*a=(A-a)*(A+a):=by grind
  rw[e]
  rcases hc with hc|hc
  ·exact Int.mul_pos (by omega) (by omega)
  ·exact Int.mul_pos_of_neg_of_neg (by omega) (by omega)
 have hB:0<=B*B:=by
  rcases (show 0<=B\/B<=0 by omega)with g|g
  ·exact Int.mul_nonneg g g
  ·exact Int.mul_nonneg_of_nonpos_of_nonpos g g
 have h2:0<(A*A-a*a)*(A*A+B*B):=Int.mul_pos h1 (by omega)
 have e:(A*A)*((A*A+B*B)-(a*a+b*b))=(A*A-a*a)*(A*A+B*B):=by grind
 rw[<-e]at h2
 have:=D8 hA h2
 omega
theorem Ku {b:Int} (hc:(0<=b/\b<B)\/(b<=0/\B<b)):b*b<B*B:=by
 have e:B*B-b*b=(B-b)*(B+b):=by grind
 have:0<(B-b)*(B+b):=by
  rcases hc with hc|hc
  ·exact Int.mul_pos (by omega) (by omega)
  ·exact Int.mul_pos_of_neg_of_neg (by omega) (by omega)
 omega
variable {x y:Pt}
theorem C2 (ht:az x y c=0) (hb:Fp x c y) (hc:c≠y):Ev x c<Ev x y:=by
 obtain⟨x1,x2⟩:=x
 obtain⟨c1,c2⟩:=c
 obtain⟨y1,y2⟩:=y
 have hc:¬(c1=y1/\c2=y2):=λe=>hc (by rw[e.1,e.2])
 have hb:((x1<c1\/(x1=c1/\x2<c2))\/(x1=c1/\x2=c2))/\((c1<y1\/(c1=y1/\c2<y2))\/(c1=y1/\c2=y2))\/((y1<c1\/(y1=c1/\y2<c2))\/(y1=c1/\y2=c2))/\((c1<x1\/(c1=x1/\c2<x2))\/(c1=x1/\c2=x2)):=by
  unfold Fp oL eL at hb
  simpa only[Prod.mk.injEq] using hb
 have ht:(y1-x1)*(c2-x2)-(y2-x2)*(c1-x1)=0:=ht
 show(c1-x1)*(c1-x1)+(c2-x2)*(c2-x2)<(y1-x1)*(y1-x1)+(y2-x2)*(y2-x2)
 by_cases hA:y1=x1
 ·have Cq:c1=x1:=by omega
  have:=Ku (B:=y2-x2) (b:=c2-x2) (by omega)
  rw[hA,Cq,Int.sub_self]
  omega
 ·refine FA (by omega) ?_
  rcases (show x1<y1\/y1<x1 by omega)with g|g
  ·refine .inl ⟨by omega,by omega,?_⟩
   rcases (show c1<y1\/c1=y1 by omega)with k|k
   ·omega
   ·exfalso
    subst k
    have:(c1-x1)*(c2-y2)=0:=by grind
    rcases Int.mul_eq_zero.1 this with q|q<;>omega
  ·refine .inr ⟨by omega,by omega,?_⟩
   rcases (show y1<c1\/c1=y1 by omega)with k|k
   ·omega
   ·exfalso
    subst k
    have:(c1-x1)*(c2-y2)=0:=by grind
    rcases Int.mul_eq_zero.1 this with q|q<;>omega
def nT (L:List Pt) (n:Nat) (x y:Pt):Prop:=x≠y/\∀j,j<n->0<=az x y (ae L j)/\(az x y (ae L j)=0->Fp x (ae L j) y)
structure Fj (L:List Pt) (x y:Pt) (i:Nat) (z:Pt) (has:Bool):Prop where
 one:has=true->z≠x/\∃j,j<i/\ae L j=z
 hit:∀j,j<i->ae L j=y->z=y/\has=true
def vf (x z c:Pt) (s:Int):Bool:=decide (s>0)||(decide (s=0)&&decide (Ev x c>Ev x z))
abbrev NT (has:Bool) (x z c:Pt):Int:=if has=true then -eH x z c else 1
variable {L:List Pt}
theorem Ng:Fj L x y 0 x false:=⟨λh=>(by cases h),λ_ h=>absurd h (Nat.not_lt_zero _)⟩
variable {z:Pt} {has:Bool}
theorem EK (hxy:x≠y) (h:Fj L x y i z has) (e:ae L i=x):Fj L x y (i+1) z has:=
 ⟨λk=>⟨(h.one k).1,(h.one k).2.elim λj hj=>⟨j,by omega,hj.2⟩⟩,λj hj ej=>if g:j=i then absurd (by rw[<-e,<-g,ej]) hxy else h.hit j (by omega) ej⟩
theorem Ep (h:0<az x y c):eH x y c=1:=by
 unfold eH
 rw[if_neg (by omega),if_pos h]
theorem En (h:az x y c=0):eH x y c=0:=by
 unfold eH
 rw[if_neg (by omega),if_neg (by omega)]
theorem Eo (h:az x y c<0):eH x y c = -1:=by
 unfold eH
 rw[if_pos h]
theorem Jb (he:nT L n x y) (hi:i<n):vf x y (ae L i) (NT true x y (ae L i))=false:=by
 obtain⟨h1,h2⟩:=he.2 i hi
 show vf x y (ae L i) (-eH x y (ae L i))=false
 unfold vf
 rcases (show 0<az x y (ae L i)\/az x y (ae L i)=0 by omega)with g|g
 ·rw[Ep g]
  rfl
 ·rw[En g]
  have:¬Ev x (ae L i)>Ev x y:=by
   by_cases e:ae L i=y
   ·rw[e]; omega
   ·have:=C2 g (h2 g) e
    omega
  rw[decide_eq_false this]
  rfl
theorem Fo (he:nT L n x y) (h:Fj L x y i z has) (hin:i<=n) (hz:¬(z=y/\has=true)):vf x z y (NT has x z y)=true:=by
 cases has
 ·rfl
 ·obtain⟨k1,j,hj,ej⟩:=h.one rfl
  have uo:z≠y:=λe=>hz ⟨e,rfl⟩
  obtain⟨h1,h2⟩:=he.2 j (by omega)
  rw[ej]at h1 h2
  have ht:=tI x y z
  show vf x z y (-eH x z y)=true
  unfold vf
  rcases (show 0<az x y z\/az x y z=0 by omega)with g|g
  ·rw[Eo (show az x z y<0 by omega)]
   rfl
  ·rw[En (show az x z y=0 by omega)]
   have:=C2 g (h2 g) uo
   rw[decide_eq_true (show Ev x y>Ev x z by omega)]
   rfl
theorem A8 (he:nT L n x y) (h:Fj L x y i z has) (hi:i<n) (hx:ae L i≠x) (hb:vf x z (ae L i) (NT has x z (ae L i))=true):Fj L x y (i+1) (ae L i) true:=
 ⟨λ_=>⟨hx,i,by omega,rfl⟩,λj hj ej=>by
  refine⟨?_,rfl⟩
  by_cases g:j=i
  ·rw[<-g]; exact ej
  ·obtain⟨rfl,rfl⟩:=h.hit j (by omega) ej
   rw[Jb he hi]at hb
   cases hb⟩
theorem EJ (he:nT L n x y) (h:Fj L x y i z has) (hi:i<n) (hb:vf x z (ae L i) (NT has x z (ae L i))=false):Fj L x y (i+1) z has:=
 ⟨λk=>⟨(h.one k).1,(h.one k).2.elim λj hj=>⟨j,by omega,hj.2⟩⟩,λj hj ej=>by
  by_cases g:j=i
  ·subst g
   by_cases hz:z=y/\has=true
   ·exact hz
   ·rw[ej,Fo he h (by omega) hz]at hb
    cases hb
  ·exact h.hit j (by omega) ej⟩
def dH (S:List Pt):Nat->List Pt
 |0=>[]
 |1=>[ae S 0]
 |k+2=>if ae S (k+1)=ae S k then dH S (k+1)else dH S (k+1)++[ae S (k+1)]
variable {S:List Pt}
theorem xS (h:ae S (k+1)=ae S k):dH S (k+2)=dH S (k+1):=if_pos h
theorem xT (h:ae S (k+1)≠ae S k):dH S (k+2)=dH S (k+1)++[ae S (k+1)]:=if_neg h
theorem dG:(O++[p]).length=O.length+1:=by rw[List.length_append]; rfl
theorem lj (hi:i<O.length):ae (O++[p]) i=ae O i:=by
 unfold ae
 rw[List.getD_eq_getElem?_getD,List.getD_eq_getElem?_getD,List.getElem?_append_left hi]
theorem kA:ae (O++[p]) O.length=p:=by
 unfold ae
 rw[List.getD_eq_getElem?_getD,List.getElem?_append_right (Nat.le_refl _),Nat.sub_self]
 rfl
structure NU (S:List Pt) (k:Nat) (C:List Pt):Prop where
 pos:0<C.length
 le:C.length<=k
 last:ae C (C.length-1)=ae S (k-1)
 mem:∀i,i<C.length->∃j,j<k/\ae C i=ae S j
 all:∀j,j<k->∃i,i<C.length/\ae C i=ae S j
 K5:G7 C
theorem CT {S:List Pt} {n:Nat} (hS:∀i,i+1<n->oL (ae S i) (ae S (i+1))):∀k,1<=k->k<=n->NU S k (dH S k)
 |0,h,_=>absurd h (by decide)
 |1,_,_=>by
  refine⟨by show 0<1; decide,Nat.le_refl _,rfl,λi hi=>?_,λj hj=>?_,λi j hij hj=>?_⟩
  ·have hi:i<1:=hi
   exact⟨0,by decide,by rw[show i=0 by omega]; rfl⟩
  ·exact⟨0,by show 0<1; decide,by rw[show j=0 by omega]; rfl⟩
  ·have hj:j<1:=hj
   omega
 |k+2,_,h=>by
  have ih:=CT hS (k+1) (by omega) (by omega)
  by_cases e:ae S (k+1)=ae S k
  ·rw[xS e]
   refine⟨ih.pos,by have:=ih.le; omega,by rw[ih.last]; exact e.symm,λi hi=>?_,λj hj=>?_,ih.K5⟩
   ·obtain⟨j,hj,ej⟩:=ih.mem i hi
    exact⟨j,by omega,ej⟩
   ·by_cases g:j=k+1
    ·obtain⟨i,hi,ei⟩:=ih.all k (by omega)
     exact⟨i,hi,by rw[ei,g,e]⟩
    ·exact ih.all j (by omega)
  ·rw[xT e]
   have hp:=ih.pos
   have hlt:eL (ae (dH S (k+1)) ((dH S (k+1)).length-1)) (ae S (k+1)):=by
    rw[ih.last]
    rcases hS k (by omega)with g|g
    ·exact g
    ·exact absurd g.symm e
   generalize dH S (k+1)=C at *
   refine⟨by rw[dG]; omega,by rw[dG]; have:=ih.le; omega,?_,λi hi=>?_,λj hj=>?_,λi j hij hj=>?_⟩
   ·rw[dG,Nat.add_sub_cancel,kA]
    rfl
   ·rw[dG]at hi
    by_cases g:i<C.length
    ·obtain⟨j,hj,ej⟩:=ih.mem i g
     exact⟨j,by omega,by rw[lj g]; exact ej⟩
    ·exact⟨k+1,by omega,by rw[show i=C.length by omega,kA]⟩
   ·by_cases g:j=k+1
    ·exact⟨C.length,by rw[dG]; omega,by rw[kA,g]⟩
    ·obtain⟨i,hi,ei⟩:=ih.all j (by omega)
     exact⟨i,by rw[dG]; omega,by rw[lj hi]; exact ei⟩
   ·rw[dG]at hj
    by_cases g:j<C.length
    ·rw[lj g,lj (by omega)]
     exact ih.K5 i j hij g
    ·rw[show j=C.length by omega,kA,lj (by omega)]
     by_cases q:i=C.length-1
     ·rw[q]; exact hlt
     ·exact eM (ih.K5 i (C.length-1) (by omega) (by omega)) hlt
theorem ql {S:List Pt}:∀{k:Nat},(∀j,1<=j->j<k->ae S j≠ae S (j-1))->(dH S k).length=k/\∀i,i<k->ae (dH S k) i=ae S i
 |0,_=>⟨rfl,λi h=>absurd h (Nat.not_lt_zero _)⟩
 |1,_=>⟨rfl,λi h=>by rw[show i=0 by omega]; rfl⟩
 |k+2,h=>by
  obtain⟨h1,h2⟩:=ql (k:=k+1) λj a b=>h j a (by omega)
  rw[xT (h (k+1) (by omega) (by omega))]
  refine⟨by rw[dG,h1],λi hi=>?_⟩
  by_cases g:i<k+1
  ·rw[lj (by omega)]; exact h2 i g
  ·have:i=(dH S (k+1)).length:=by omega
   rw[this,kA,h1]
theorem Fw {j:Nat} (h:NU S k C) (hi:i<k) (hj:j<k) (hne:ae S i≠ae S j):2<=C.length:=by
 obtain⟨a,ha,ea⟩:=h.all i hi
 obtain⟨b,hb,eb⟩:=h.all j hj
 rcases Nat.lt_or_ge C.length 2 with g|g
 ·exact absurd (by rw[<-ea,<-eb,show a=b by omega]) hne
 ·exact g
theorem vQ (h:Cw C x y) (hL:∀j,j<n->∃i,i<C.length/\ae L j=ae C i):nT L n x y:=
 ⟨h.1,λj hj=>by
  obtain⟨i,hi,e⟩:=hL j hj
  rw[e]
  exact h.2 i hi⟩
end Wx
