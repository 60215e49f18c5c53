import Derived.Test.YtikkgpljpglnbaaGreatJRM40
namespace Wx
open Go Go.RowKit Go.Proofs
set_option linter.unusedVariables false
abbrev en (a b:Pt):Prop:=a.1<b.1\/(a.1=b.1/\a.2<b.2)
abbrev sP (a b:Pt):Prop:=en a b\/a=b
variable {a b c:Pt}
theorem dR (h1:en a b) (h2:en b c):en a c:=by
 unfold en at *; omega
theorem dA (h:en a a):False:=by
 unfold en at h; omega
theorem AX (h1:sP a b) (h2:en b c):en a c:=by
 rcases h1 with h|rfl
 ·exact dR h h2
 ·exact h2
theorem AZ (h1:en a b) (h2:sP b c):en a c:=by
 rcases h2 with h|rfl
 ·exact dR h1 h
 ·exact h1
theorem CA (a b:Pt):en a b\/a=b\/en b a:=by
 obtain⟨a1,a2⟩:=a
 obtain⟨b1,b2⟩:=b
 have:(a1<b1\/(a1=b1/\a2<b2))\/(a1=b1/\a2=b2)\/(b1<a1\/(b1=a1/\b2<a2)):=by omega
 rcases this with h|⟨rfl,rfl⟩|h
 ·exact .inl h
 ·exact .inr (.inl rfl)
 ·exact .inr (.inr h)
variable {x:Int}
theorem MX {a:Int} (ha:0<a) (h:0<a*x):0<x:=by
 rcases (show 0<x\/x<=0 by omega)with k|k
 ·exact k
 ·have:=Int.mul_le_mul_of_nonneg_left k (Int.le_of_lt ha)
  rw[Int.mul_zero]at this
  omega
theorem KT {a:Int} (ha:0<a) (h:0<=a*x):0<=x:=by
 rcases (show x<0\/0<=x by omega)with k|k
 ·have:=Int.mul_lt_mul_of_pos_left k ha
  rw[Int.mul_zero]at this
  omega
 ·exact k
theorem qn {s1 s2 w1 w2 r1 r2:Int} (hs:0<s1\/(0=s1/\0<s2)) (hw:0<w1\/(0=w1/\0<w2)) (hr:0<r1\/(0=r1/\0<r2)) (h1:0<=s1*w2-s2*w1) (h2:0<w1*r2-w2*r1):0<s1*r2-s2*r1:=by
 have hs0:0<=s1:=by omega
 have QE:0<=r1:=by omega
 rcases hw with hw|⟨hw,FI⟩
 ·have id:w1*(s1*r2-s2*r1)=s1*(w1*r2-w2*r1)+r1*(s1*w2-s2*w1):=by grind
  rcases hs with hs|⟨hs,hs2⟩
  ·have k1:0<s1*(w1*r2-w2*r1):=Int.mul_pos hs h2
   have k2:0<=r1*(s1*w2-s2*w1):=Int.mul_nonneg QE h1
   have k3:0<w1*(s1*r2-s2*r1):=by omega
   exact MX hw k3
  ·subst hs
   have:0<s2*w1:=Int.mul_pos hs2 hw
   rw[Int.zero_mul]at h1
   omega
 ·subst hw
  have:=Int.mul_nonneg (Int.le_of_lt FI) QE
  rw[Int.zero_mul]at h2
  omega
theorem vK (a b c:Pt):ai a c b = -ai a b c:=by unfold ai; grind
theorem Et (a c:Pt):ai a a c=0:=by unfold ai; grind
theorem oV (a b:Pt):ai a b b=0:=by unfold ai; grind
theorem lK (a b:Pt):ai a b a=0:=by unfold ai; grind
variable {e p:Pt}
theorem above (NA:en e p) (hab:en a b) (h1:sP a c) (h2:sP c b) (fa:0<=ai e p a) (fb:0<=ai e p b) (hc:0<=ai a b c):0<=ai e p c:=by
 rcases h1 with h1|rfl
 ·rcases h2 with h2|rfl
  ·have hx1:a.1<=c.1:=by unfold en at h1; omega
   have hx2:c.1<=b.1:=by unfold en at h2; omega
   have hu:e.1<=p.1:=by unfold en at NA; omega
   rcases hab with hab|⟨hab,VZ⟩
   ·have id:(b.1-a.1)*ai e p c=(b.1-c.1)*ai e p a+(c.1-a.1)*ai e p b+(p.1-e.1)*ai a b c:=by unfold ai; grind
    have k1:=Int.mul_nonneg (show 0<=b.1-c.1 by omega) fa
    have k2:=Int.mul_nonneg (show 0<=c.1-a.1 by omega) fb
    have k3:=Int.mul_nonneg (show 0<=p.1-e.1 by omega) hc
    exact KT (show 0<b.1-a.1 by omega) (by omega)
   ·have e1:c.1=a.1:=by omega
    have y1:a.2<c.2:=by unfold en at h1; omega
    have y2:c.2<b.2:=by unfold en at h2; omega
    have id:(b.2-a.2)*ai e p c=(b.2-c.2)*ai e p a+(c.2-a.2)*ai e p b:=by
     unfold ai
     rw[e1,<-hab]
     grind
    have k1:=Int.mul_nonneg (show 0<=b.2-c.2 by omega) fa
    have k2:=Int.mul_nonneg (show 0<=c.2-a.2 by omega) fb
    exact KT (show 0<b.2-a.2 by omega) (by omega)
  ·exact fb
 ·exact fa
theorem Rc (OY:en a e) (NA:en e p) (hce:en c e) (h1:0<ai a e p) (h2:0<=ai a e c):0<ai e p c:=by
 have k:=qn (s1:=e.1-c.1) (s2:=e.2-c.2) (w1:=e.1-a.1) (w2:=e.2-a.2) (r1:=p.1-e.1) (r2:=p.2-e.2) (by unfold en at hce; omega) (by unfold en at OY; omega) (by unfold en at NA; omega)
  (by
   have:(e.1-c.1)*(e.2-a.2)-(e.2-c.2)*(e.1-a.1)=ai a e c:=by unfold ai; grind
   omega)
  (by
   have:(e.1-a.1)*(p.2-e.2)-(e.2-a.2)*(p.1-e.1)=ai a e p:=by unfold ai; grind
   omega)
 have:(e.1-c.1)*(p.2-e.2)-(e.2-c.2)*(p.1-e.1)=ai e p c:=by unfold ai; grind
 omega
theorem Oa (hab:en a b) (hbc:en b c) (O6:en c p) (h1:0<ai a b c) (h2:0<ai b c p):0<ai a b p:=by
 have k:=qn (s1:=b.1-a.1) (s2:=b.2-a.2) (w1:=c.1-b.1) (w2:=c.2-b.2) (r1:=p.1-c.1) (r2:=p.2-c.2) (by unfold en at hab; omega) (by unfold en at hbc; omega) (by unfold en at O6; omega)
  (by
   have:(b.1-a.1)*(c.2-b.2)-(b.2-a.2)*(c.1-b.1)=ai a b c:=by unfold ai; grind
   omega)
  (by
   have:(c.1-b.1)*(p.2-c.2)-(c.2-b.2)*(p.1-c.1)=ai b c p:=by unfold ai; grind
   omega)
 have:ai a b p=ai a b c+((b.1-a.1)*(p.2-c.2)-(b.2-a.2)*(p.1-c.1)):=by unfold ai; grind
 omega
structure NS (C:List Pt) (k:Nat) (O:List Pt):Prop where
 pos:0<O.length
 mem:∀i,i<O.length->∃j,j<k/\ae O i=ae C j
 first:ae O 0=ae C 0
 last:ae O (O.length-1)=ae C (k-1)
 mono:∀i,i+1<O.length->en (ae O i) (ae O (i+1))
 mU:∀i,i+1<O.length->∀j,j<k->0<=ai (ae O i) (ae O (i+1)) (ae C j)/\(ai (ae O i) (ae O (i+1)) (ae C j)=0->sP (ae O i) (ae C j)/\sP (ae C j) (ae O (i+1)))
abbrev Kb (C:List Pt):Prop:=∀i j,i<j->j<C.length->en (ae C i) (ae C j)
theorem Cv {C O:List Pt} {k:Nat} {p:Pt} (h:NS C k O) (hp:∀j,j<k->en (ae C j) p):∀n,1<=n->n<=O.length->(∀j,j<k->sP (ae O (n-1)) (ae C j)->0<=ai (ae O (n-1)) p (ae C j)) ->
  (∀j,j<k->sP (ae O (cP O p n-1)) (ae C j)->0<=ai (ae O (cP O p n-1)) p (ae C j))/\1<=cP O p n/\(cP O p n=1\/0<ai (ae O (cP O p n-2)) (ae O (cP O p n-1)) p)
 |0,h1,_,_=>absurd h1 (by decide)
 |1,_,_,hq=>⟨hq,Nat.le_refl _,.inl rfl⟩
 |n+2,_,hn,hq=>by
  have hq:∀j,j<k->sP (ae O (n+1)) (ae C j)->0<=ai (ae O (n+1)) p (ae C j):=hq
  by_cases ht:ai (ae O n) (ae O (n+1)) p<=0
  ·have e:cP O p (n+2)=cP O p (n+1):=if_pos ht
   rw[e]
   refine Cv h hp (n+1) (by omega) (by omega) λj hj hl=>?_
   have hl:sP (ae O n) (ae C j):=hl
   show 0<=ai (ae O n) p (ae C j)
   have hab:=h.mono n (by omega)
   have hO:∀i,i<O.length->en (ae O i) p:=λi hi=>by
    obtain⟨j,hj,e⟩:=h.mem i hi
    rw[e]
    exact hp j hj
   have fb:0<=ai (ae O n) p (ae O (n+1)):=by rw[vK]; omega
   have fa:0<=ai (ae O n) p (ae O n):=by rw[lK]; exact Int.le_refl _
   have fp:0<=ai (ae O n) p p:=by rw[oV]; exact Int.le_refl _
   rcases CA (ae C j) (ae O (n+1))with hc|hc|hc
   ·exact above (hO n (by omega)) hab hl (.inl hc) fa fb (h.mU n (by omega) j hj).1
   ·exact above (hO n (by omega)) hab hl (.inr hc) fa fb (h.mU n (by omega) j hj).1
   ·exact above (hO n (by omega)) (hO (n+1) (by omega)) (.inl hc) (.inl (hp j hj)) fb fp (hq j hj (.inl hc))
  ·have e:cP O p (n+2)=n+2:=if_neg ht
   rw[e]
   exact⟨hq,by omega,.inr (by show 0<ai (ae O n) (ae O (n+1)) p; omega)⟩
variable {O:List Pt} {n i:Nat}
theorem eM (hn:n<=O.length) (hi:i<n):ae (O.take n++[p]) i=ae O i:=by
 have hl:(O.take n).length=n:=by rw[List.length_take,Nat.min_eq_left hn]
 unfold ae
 rw[List.getD_eq_getElem?_getD,List.getD_eq_getElem?_getD,List.getElem?_append_left (by omega),List.getElem?_take,if_pos hi]
theorem oG (hn:n<=O.length):ae (O.take n++[p]) n=p:=by
 have hl:(O.take n).length=n:=by rw[List.length_take,Nat.min_eq_left hn]
 unfold ae
 rw[List.getD_eq_getElem?_getD,List.getElem?_append_right (by omega),hl,Nat.sub_self]
 rfl
theorem xT {C O:List Pt} {k n:Nat} {p:Pt} (h:NS C k O) (hO:∀i,i<O.length->en (ae O i) p) (hn:n<=O.length) (Dy:n=1\/0<ai (ae O (n-2)) (ae O (n-1)) p):∀d i,i+2+d=n->0<ai (ae O i) (ae O (i+1)) p
 |0,i,e=>by
  have:=Dy.resolve_left (by omega)
  rwa [show n-2=i by omega,show n-1=i+1 by omega]at this
 |d+1,i,e=>by
  have ih:=xT h hO hn Dy d (i+1) (by omega)
  have m1:=h.mono i (by omega)
  have m2:=h.mono (i+1) (by omega)
  refine Oa m1 m2 (hO (i+2) (by omega)) ?_ ih
  obtain⟨j,hj,ej⟩:=h.mem (i+2) (by omega)
  have he:=h.mU i (by omega) j hj
  rw[<-ej]at he
  rcases Int.lt_or_eq_of_le he.1 with k1|k1
  ·exact k1
  ·exact(dA (AZ m2 (he.2 k1.symm).2)).elim
variable {C:List Pt} {k:Nat}
theorem E6 (hC:Kb C) (h:NS C k O) (lZ:1<=k) (hk:k<C.length):NS C (k+1) (O.take (cP O (ae C k) O.length)++[ae C k]):=by
 have hp:∀j,j<k->en (ae C j) (ae C k):=λj hj=>hC j k hj hk
 have hO:∀i,i<O.length->en (ae O i) (ae C k):=λi hi=>by
  obtain⟨j,hj,e⟩:=h.mem i hi
  rw[e]
  exact hp j hj
 have hpos:=h.pos
 obtain⟨hQ,Dy,zV⟩:=Cv h hp O.length hpos (Nat.le_refl _) λj hj hl=>by
  have e:ae C j=ae O (O.length-1):=by
   rw[h.last]at hl ⊢
   rcases Nat.lt_or_ge j (k-1)with g|g
   ·exact(dA (AX hl (hC j (k-1) g (by omega)))).elim
   ·rw[show j=k-1 by omega]
  rw[e,lK]
  exact Int.le_refl _
 have hnl:=oc O (ae C k) O.length
 generalize IZ:cP O (ae C k) O.length=n at *
 have hlen:(O.take n++[ae C k]).length=n+1:=by rw[List.length_append,List.length_take,Nat.min_eq_left hnl]; rfl
 have hleft:=xT h hO hnl zV
 refine⟨by omega,λi hi=>?_,?_,?_,λi hi=>?_,λi hi j hj=>?_⟩
 ·by_cases e:i<n
  ·obtain⟨j,hj,ej⟩:=h.mem i (by omega)
   exact⟨j,by omega,by rw[eM hnl e]; exact ej⟩
  ·exact⟨k,by omega,by rw[show i=n by omega,oG hnl]⟩
 ·rw[eM hnl (by omega)]; exact h.first
 ·rw[hlen,show n+1-1=n by omega,show k+1-1=k by omega,oG hnl]
 ·by_cases e:i+1<n
  ·rw[eM hnl e,eM hnl (by omega)]
   exact h.mono i (by omega)
  ·rw[show i+1=n by omega,oG hnl,eM hnl (by omega)]
   exact hO i (by omega)
 ·by_cases e:i+1<n
  ·rw[eM hnl e,eM hnl (by omega)]
   by_cases ej:j=k
   ·subst ej
    have:=hleft (n-2-i) i (by omega)
    exact⟨Int.le_of_lt this,λg=>by omega⟩
   ·exact h.mU i (by omega) j (by omega)
  ·obtain rfl:n=i+1:=by omega
   rw[oG hnl,eM hnl (by omega)]
   have NA:=hO i (by omega)
   by_cases ej:j=k
   ·subst ej
    exact⟨by rw[oV]; exact Int.le_refl _,λ_=>⟨.inl NA,.inr rfl⟩⟩
   ·have hj':j<k:=by omega
    rcases CA (ae C j) (ae O i)with hc|hc|hc
    ·have Pg:1<=i:=by
      rcases Nat.eq_zero_or_pos i with e0|e0
      ·exfalso
       subst e0
       rw[h.first]at hc
       rcases Nat.eq_zero_or_pos j with g|g
       ·rw[g]at hc; exact dA hc
       ·exact dA (dR hc (hC 0 j g (by omega)))
      ·exact e0
     have m1:=h.mono (i-1) (by omega)
     rw[show i-1+1=i by omega]at m1
     have he:=(h.mU (i-1) (by omega) j hj').1
     rw[show i-1+1=i by omega]at he
     have ht:=zV.resolve_left (by omega)
     rw[show i+1-2=i-1 by omega,show i+1-1=i by omega]at ht
     have:=Rc m1 NA hc ht he
     exact⟨Int.le_of_lt this,λg=>by omega⟩
    ·exact⟨hQ j hj' (.inr hc.symm),λ_=>⟨.inr hc.symm,.inl (hp j hj')⟩⟩
    ·exact⟨hQ j hj' (.inl hc),λ_=>⟨.inl hc,.inl (hp j hj')⟩⟩
theorem Ap {C:List Pt} (hC:Kb C):∀k,1<=k->k<=C.length->NS C k (aj C k)
 |0,h,_=>absurd h (by decide)
 |1,_,_=>by
  refine⟨by show 0<1; decide,λi hi=>⟨0,by decide,?_⟩,rfl,rfl,λi hi=>?_,λi hi=>?_⟩
  ·have hi:i<1:=hi
   rw[show i=0 by omega]
   rfl
  ·have hi:i+1<1:=hi
   omega
  ·have hi:i+1<1:=hi
   omega
 |k+2,_,h=>E6 hC (Ap hC (k+1) (by omega) (by omega)) (by omega) (by omega)
def pz (p:Pt):Pt:=(-p.1,-p.2)
theorem CH (a b c:Pt):ai (pz a) (pz b) (pz c)=ai a b c:=by unfold ai pz; grind
theorem CG (p:Pt):pz (pz p)=p:=by
 obtain⟨a,b⟩:=p
 show((- -a,- -b):Pt)=(a,b)
 rw[Int.neg_neg,Int.neg_neg]
theorem ku (L:List Pt) (i:Nat):ae (L.map pz) i=pz (ae L i):=by
 unfold ae
 rw[List.getD_eq_getElem?_getD,List.getD_eq_getElem?_getD,List.getElem?_map]
 cases L[i]?<;>rfl
theorem CF (O:List Pt) (p:Pt):∀n,cP (O.map pz) (pz p) n=cP O p n
 |0=>rfl
 |1=>rfl
 |n+2=>by
  show(if ai (ae (O.map pz) n) (ae (O.map pz) (n+1)) (pz p)<=0 then cP (O.map pz) (pz p) (n+1)else n+2)=(if ai (ae O n) (ae O (n+1)) p<=0 then cP O p (n+1)else n+2)
  rw[ku,ku,CH,CF O p (n+1)]
theorem yY (L:List Pt):∀k,aj (L.map pz) k=(aj L k).map pz
 |0=>rfl
 |k+1=>by
  show(aj (L.map pz) k).take _++[ae (L.map pz) k]=List.map pz ((aj L k).take _++[ae L k])
  rw[yY L k,ku,CF,List.length_map,List.map_append,List.map_take]
  rfl
theorem Gg:en (pz a) (pz b)↔en b a:=by
 unfold en pz
 dsimp only
 omega
theorem KS:sP (pz a) (pz b)↔sP b a:=by
 unfold sP
 rw[Gg]
 constructor
 ·rintro(h|h)
  ·exact .inl h
  ·exact .inr (by rw[<-CG a,h,CG])
 ·rintro(h|h)
  ·exact .inl h
  ·exact .inr (by rw[h])
def xK (x c y:Pt):Prop:=(sP x c/\sP c y)\/(sP y c/\sP c x)
def EE (C:List Pt) (x y:Pt):Prop:=x≠y/\∀j,j<C.length->0<=ai x y (ae C j)/\(ai x y (ae C j)=0->xK x (ae C j) y)
theorem Lj (hC:Kb C) (h1:1<=C.length):0<(aj (dV C.length C) C.length).length/\ae (aj (dV C.length C) C.length) 0=ae C (C.length-1)/\ae (aj (dV C.length C) C.length) ((aj (dV C.length C) C.length).length-1)=ae C 0 /\
  (∀i,i+1<(aj (dV C.length C) C.length).length->en (ae (aj (dV C.length C) C.length) (i+1)) (ae (aj (dV C.length C) C.length) i)/\EE C (ae (aj (dV C.length C) C.length) i) (ae (aj (dV C.length C) C.length) (i+1))):=by
 have hs:Kb ((dV C.length C).map pz):=λi j hij hj=>by
  rw[List.length_map,oL]at hj
  rw[ku,ku,Gg,jZ hj,jZ (by omega)]
  exact hC _ _ (by omega) (by omega)
 have k:=Ap hs C.length h1 (by rw[List.length_map,oL]; exact Nat.le_refl _)
 rw[yY]at k
 generalize aj (dV C.length C) C.length=O at *
 have kp:=k.pos
 have kf:=k.first
 have kl:=k.last
 rw[List.length_map]at kp kl
 rw[ku,ku,jZ (by omega)]at kf kl
 have inj:∀{a b:Pt},pz a=pz b->a=b:=λ{a b} e=>by rw[<-CG a,e,CG]
 refine⟨kp,inj kf,?_,λi hi=>?_⟩
 ·have:=inj kl
  rwa [show C.length-1-(C.length-1)=0 by omega]at this
 ·have km:=k.mono i (by rw[List.length_map]; exact hi)
  rw[ku,ku,Gg]at km
  refine⟨km,λe=>dA (e▸km),λj hj=>?_⟩
  have ke:=k.mU i (by rw[List.length_map]; exact hi) (C.length-1-j) (by omega)
  rw[ku,ku,ku,CH,KS,KS,jZ (by omega),show C.length-1-(C.length-1-j)=j by omega]at ke
  exact⟨ke.1,λe=>.inr ⟨(ke.2 e).2,(ke.2 e).1⟩⟩
theorem KP (hC:Kb C) (h1:1<=C.length):0<(aj C C.length).length/\ae (aj C C.length) 0=ae C 0/\ae (aj C C.length) ((aj C C.length).length-1)=ae C (C.length-1) /\
  (∀i,i+1<(aj C C.length).length->en (ae (aj C C.length) i) (ae (aj C C.length) (i+1))/\EE C (ae (aj C C.length) i) (ae (aj C C.length) (i+1))):=by
 have k:=Ap hC C.length h1 (Nat.le_refl _)
 refine⟨k.pos,k.first,k.last,λi hi=>?_⟩
 have km:=k.mono i hi
 refine⟨km,λe=>dA (e▸km),λj hj=>?_⟩
 have ke:=k.mU i hi j hj
 exact⟨ke.1,λe=>.inl (ke.2 e)⟩
structure NW (C H:List Pt):Prop where
 two:2<=H.length
 max:H.length<=2*C.length
 first:ae H 0=ae C 0
 rest:∀i,0<i->i<H.length->en (ae C 0) (ae H i)
 mU:∀i,i+1<H.length->EE C (ae H i) (ae H (i+1))
 back:EE C (ae H (H.length-1)) (ae H 0)
 mem:∀i,i<H.length->∃j,j<C.length/\ae H i=ae C j
theorem Nj (hi:i<(aj (dV C.length C) C.length).length):∃j,j<C.length/\ae (aj (dV C.length C) C.length) i=ae C j:=by
 obtain⟨q,hq,e⟩:=jF (tB hi)
 exact⟨C.length-1-q,by omega,by rw[e,jZ hq]⟩
theorem uK {O:List Pt} (h:∀i,i+1<O.length->en (ae O i) (ae O (i+1))):∀d i,i+d+1<O.length->en (ae O i) (ae O (i+d+1))
 |0,i,hi=>h i hi
 |d+1,i,hi=>dR (uK h d i (by omega)) (h (i+d+1) (by omega))
theorem uJ {O:List Pt} (h:∀i,i+1<O.length->en (ae O (i+1)) (ae O i)):∀d i,i+d+1<O.length->en (ae O (i+d+1)) (ae O i)
 |0,i,hi=>h i hi
 |d+1,i,hi=>dR (h (i+d+1) (by omega)) (uJ h d i (by omega))
theorem I3 (hC:Kb C) (h2:2<=C.length):NW C (dL C (dV C.length C) C.length):=by
 obtain⟨a1,a2,a3,a4⟩:=KP hC (by omega)
 obtain⟨b1,b2,b3,b4⟩:=Lj hC (by omega)
 have hm:∀i,i<(aj C C.length).length->∃j,j<C.length/\ae (aj C C.length) i=ae C j:=λi hi=>by
  obtain⟨q,hq,e⟩:=jF (tB hi)
  exact⟨q,hq,e⟩
 have NC:=λi=>Nj (C:=C) (i:=i)
 have hlen:=pO (S:=C) (R:=dV C.length C) (n:=C.length)
 have l1:=dP C C.length
 have l2:=dP (dV C.length C) C.length
 have e0:en (ae C 0) (ae C (C.length-1)):=hC 0 _ (by omega) (by omega)
 have hat:∀i,i<(aj C C.length).length-1->ae (dL C (dV C.length C) C.length) i=ae (aj C C.length) i:=λi hi=>by
  unfold dL
  have hl:((aj C C.length).take ((aj C C.length).length-1)).length=(aj C C.length).length-1:=by rw[List.length_take,Nat.min_eq_left (Nat.sub_le _ _)]
  rw[<-rD (O:=aj C C.length) hi]
  unfold ae
  rw[List.getD_eq_getElem?_getD,List.getD_eq_getElem?_getD,List.getElem?_append_left (by omega)]
 have Dw:∀i,i<(aj (dV C.length C) C.length).length-1->ae (dL C (dV C.length C) C.length) ((aj C C.length).length-1+i)=ae (aj (dV C.length C) C.length) i:=λi hi=>by
  unfold dL
  have hl:((aj C C.length).take ((aj C C.length).length-1)).length=(aj C C.length).length-1:=by rw[List.length_take,Nat.min_eq_left (Nat.sub_le _ _)]
  rw[<-rD (O:=aj (dV C.length C) C.length) hi]
  unfold ae
  rw[List.getD_eq_getElem?_getD,List.getD_eq_getElem?_getD,List.getElem?_append_right (by omega),hl,Nat.add_sub_cancel_left]
 generalize dL C (dV C.length C) C.length=H at *
 generalize hA:aj C C.length=A at *
 generalize hB:aj (dV C.length C) C.length=B at *
 have hA2:2<=A.length:=by
  rcases Nat.lt_or_ge A.length 2 with g|g
  ·rw[show A.length-1=0 by omega,a2]at a3
   exact(dA (a3▸e0)).elim
  ·exact g
 have hB2:2<=B.length:=by
  rcases Nat.lt_or_ge B.length 2 with g|g
  ·rw[show B.length-1=0 by omega,b2]at b3
   exact(dA (b3▸e0)).elim
  ·exact g
 have kE:ae H (A.length-1)=ae A (A.length-1):=by
  have:=Dw 0 (by omega)
  rw[Nat.add_zero]at this
  rw[this,b2,a3]
 have hlo:∀i,i<A.length->ae H i=ae A i:=λi hi=>by
  by_cases g:i<A.length-1
  ·exact hat i g
  ·rw[show i=A.length-1 by omega]; exact kE
 have Fz:ae H 0=ae C 0:=by rw[hlo 0 (by omega),a2]
 refine⟨by omega,by omega,Fz,λi h0 hi=>?_,λi hi=>?_,?_,λi hi=>?_⟩
 ·by_cases g:i<A.length
  ·rw[hlo i g,<-a2]
   have:=uK (λi hi=>(a4 i hi).1) (i-1) 0 (by omega)
   rwa [show 0+(i-1)+1=i by omega]at this
  ·obtain⟨j,rfl⟩:∃j,i=A.length-1+j:=⟨i-(A.length-1),by omega⟩
   rw[Dw j (by omega),<-b3]
   have:=uJ (λi hi=>(b4 i hi).1) (B.length-2-j) j (by omega)
   rwa [show j+(B.length-2-j)+1=B.length-1 by omega]at this
 ·by_cases g:i+1<A.length
  ·rw[hlo i (by omega),hlo (i+1) g]
   exact(a4 i g).2
  ·obtain⟨j,rfl⟩:∃j,i=A.length-1+j:=⟨i-(A.length-1),by omega⟩
   rw[Dw j (by omega),show A.length-1+j+1=A.length-1+(j+1) by omega,Dw (j+1) (by omega)]
   exact(b4 j (by omega)).2
 ·obtain⟨j,hj⟩:∃j,j+2=B.length:=⟨B.length-2,by omega⟩
  rw[show H.length-1=A.length-1+j by omega,Dw j (by omega),Fz,<-b3,show B.length-1=j+1 by omega]
  exact(b4 j (by omega)).2
 ·by_cases g:i<A.length
  ·rw[hlo i g]
   exact hm i g
  ·obtain⟨j,rfl⟩:∃j,i=A.length-1+j:=⟨i-(A.length-1),by omega⟩
   rw[Dw j (by omega)]
   exact NC j (by omega)
def uB (L:List Pt) (n:Nat) (x y:Pt):Prop:=x≠y/\∀j,j<n->0<=ai x y (ae L j)/\(ai x y (ae L j)=0->xK x (ae L j) y)
def eu (S:List Pt):Nat->List Pt
 |0=>[]
 |1=>[ae S 0]
 |k+2=>if ae S (k+1)=ae S k then eu S (k+1)else eu S (k+1)++[ae S (k+1)]
variable {S:List Pt}
theorem Ar (h:ae S (k+1)=ae S k):eu S (k+2)=eu S (k+1):=if_pos h
theorem Au (h:ae S (k+1)≠ae S k):eu S (k+2)=eu S (k+1)++[ae S (k+1)]:=if_neg h
theorem er:(O++[p]).length=O.length+1:=by rw[List.length_append]; rfl
theorem mM (hi:i<O.length):ae (O++[p]) i=ae O i:=by
 unfold ae
 rw[List.getD_eq_getElem?_getD,List.getD_eq_getElem?_getD,List.getElem?_append_left hi]
theorem lT:ae (O++[p]) O.length=p:=by
 unfold ae
 rw[List.getD_eq_getElem?_getD,List.getElem?_append_right (Nat.le_refl _),Nat.sub_self]
 rfl
structure QM (S:List Pt) (k:Nat) (C:List Pt):Prop where
 pos:0<C.length
 le:C.length<=k
 last:ae C (C.length-1)=ae S (k-1)
 mem:∀i,i<C.length->∃j,j<k/\ae C i=ae S j
 all:∀j,j<k->∃i,i<C.length/\ae C i=ae S j
 NK:Kb C
theorem Fb {S:List Pt} {n:Nat} (hS:∀i,i+1<n->sP (ae S i) (ae S (i+1))):∀k,1<=k->k<=n->QM S k (eu S k)
 |0,h,_=>absurd h (by decide)
 |1,_,_=>by
  refine⟨by show 0<1; decide,Nat.le_refl _,rfl,λi hi=>?_,λj hj=>?_,λi j hij hj=>?_⟩
  ·have hi:i<1:=hi
   exact⟨0,by decide,by rw[show i=0 by omega]; rfl⟩
  ·exact⟨0,by show 0<1; decide,by rw[show j=0 by omega]; rfl⟩
  ·have hj:j<1:=hj
   omega
 |k+2,_,h=>by
  have ih:=Fb hS (k+1) (by omega) (by omega)
  by_cases e:ae S (k+1)=ae S k
  ·rw[Ar e]
   refine⟨ih.pos,by have:=ih.le; omega,by rw[ih.last]; exact e.symm,λi hi=>?_,λj hj=>?_,ih.NK⟩
   ·obtain⟨j,hj,ej⟩:=ih.mem i hi
    exact⟨j,by omega,ej⟩
   ·by_cases g:j=k+1
    ·obtain⟨i,hi,ei⟩:=ih.all k (by omega)
     exact⟨i,hi,by rw[ei,g,e]⟩
    ·exact ih.all j (by omega)
  ·rw[Au e]
   have hp:=ih.pos
   have hlt:en (ae (eu S (k+1)) ((eu S (k+1)).length-1)) (ae S (k+1)):=by
    rw[ih.last]
    rcases hS k (by omega)with g|g
    ·exact g
    ·exact absurd g.symm e
   generalize eu S (k+1)=C at *
   refine⟨by rw[er]; omega,by rw[er]; have:=ih.le; omega,?_,λi hi=>?_,λj hj=>?_,λi j hij hj=>?_⟩
   ·rw[er,Nat.add_sub_cancel,lT]
    rfl
   ·rw[er]at hi
    by_cases g:i<C.length
    ·obtain⟨j,hj,ej⟩:=ih.mem i g
     exact⟨j,by omega,by rw[mM g]; exact ej⟩
    ·exact⟨k+1,by omega,by rw[show i=C.length by omega,lT]⟩
   ·by_cases g:j=k+1
    ·exact⟨C.length,by rw[er]; omega,by rw[lT,g]⟩
    ·obtain⟨i,hi,ei⟩:=ih.all j (by omega)
     exact⟨i,by rw[er]; omega,by rw[mM hi]; exact ei⟩
   ·rw[er]at hj
    by_cases g:j<C.length
    ·rw[mM g,mM (by omega)]
     exact ih.NK i j hij g
    ·rw[show j=C.length by omega,lT,mM (by omega)]
     by_cases q:i=C.length-1
     ·rw[q]; exact hlt
     ·exact dR (ih.NK i (C.length-1) (by omega) (by omega)) hlt
theorem rZ {S:List Pt}:∀{k:Nat},(∀j,1<=j->j<k->ae S j≠ae S (j-1))->(eu S k).length=k/\∀i,i<k->ae (eu S k) i=ae S i
 |0,_=>⟨rfl,λi h=>absurd h (Nat.not_lt_zero _)⟩
 |1,_=>⟨rfl,λi h=>by rw[show i=0 by omega]; rfl⟩
 |k+2,h=>by
  obtain⟨h1,h2⟩:=rZ (k:=k+1) λj a b=>h j a (by omega)
  rw[Au (h (k+1) (by omega) (by omega))]
  refine⟨by rw[er,h1],λi hi=>?_⟩
  by_cases g:i<k+1
  ·rw[mM (by omega)]; exact h2 i g
  ·have:i=(eu S (k+1)).length:=by omega
   rw[this,lT,h1]
theorem IA {j:Nat} (h:QM S k C) (hi:i<k) (hj:j<k) (hne:ae S i≠ae S j):2<=C.length:=by
 obtain⟨a,ha,ea⟩:=h.all i hi
 obtain⟨b,hb,eb⟩:=h.all j hj
 rcases Nat.lt_or_ge C.length 2 with g|g
 ·exact absurd (by rw[<-ea,<-eb,show a=b by omega]) hne
 ·exact g
theorem yh {L:List Pt} {x y:Pt} (h:EE C x y) (hL:∀j,j<n->∃i,i<C.length/\ae L j=ae C i):uB L n x y:=
 ⟨h.1,λj hj=>by
  obtain⟨i,hi,e⟩:=hL j hj
  rw[e]
  exact h.2 i hi⟩
end Wx
