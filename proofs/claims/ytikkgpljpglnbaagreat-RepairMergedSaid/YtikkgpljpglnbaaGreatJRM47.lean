import Derived.Test.YtikkgpljpglnbaaGreatJRM45
namespace Wx
open Go Go.RowKit Go.Proofs
set_option linter.unusedVariables false
def sn (x:Int):Int:=if x<0 then -1 else if x>0 then 1 else 0
theorem lH (x:Int):(x<0/\sn x = -1)\/(x=0/\sn x=0)\/(x>0/\sn x=1):=by
 unfold sn
 split
 ·exact .inl ⟨by omega,rfl⟩
 ·split
  ·exact .inr (.inr ⟨by omega,rfl⟩)
  ·exact .inr (.inl ⟨by omega,rfl⟩)
theorem C1 (x:Int):0<=x*x:=by
 rcases Int.le_total 0 x with h|h
 ·exact Int.mul_nonneg h h
 ·exact Int.mul_nonneg_of_nonpos_of_nonpos h h
variable {x:Int}
theorem Qa (h:x*x<=0):x=0:=by
 rcases Int.lt_trichotomy x 0 with k|k|k
 ·have:=Int.mul_pos_of_neg_of_neg k k; omega
 ·exact k
 ·have:=Int.mul_pos k k; omega
theorem Nf (a b:Pt):0<=uc a b:=Int.add_nonneg (C1 _) (C1 _)
variable {a b:Pt}
theorem P9 (h:uc a b<=0):a=b:=by
 have h1:=C1 (b.1-a.1)
 have h2:=C1 (b.2-a.2)
 unfold uc at h
 have e1:b.1-a.1=0:=Qa (by omega)
 have e2:b.2-a.2=0:=Qa (by omega)
 exact Prod.ext (by omega) (by omega)
theorem JR (h:a≠b):0<uc a b:=by
 rcases Int.lt_or_le 0 (uc a b)with k|k
 ·exact k
 ·exact absurd (P9 k) h
def H7 (a b c d:Pt):Prop:=((max a.1 b.1>=min c.1 d.1/\max c.1 d.1>=min a.1 b.1)/\max a.2 b.2>=min c.2 d.2)/\max c.2 d.2>=min a.2 b.2
def mJ (u v x y:Pt):Prop:=if ai u v x=0/\ai u v y=0 then H7 u v x y else sn (ai u v x)≠sn (ai u v y)/\sn (ai x y u)≠sn (ai x y v)
theorem Tr (h:sn x=0):x=0:=by rcases lH x with⟨k,q⟩|⟨k,q⟩|⟨k,q⟩<;>omega
end Wx

namespace Wx
open Go Go.RowKit Go.Proofs
set_option linter.unusedVariables false
theorem Nc (x:Int):zI x=sn x:=by
 unfold zI sn dh jT
 repeat' split
 all_goals omega
variable {a b c d:Pt}
theorem ET:Io a b c d=true↔H7 a b c d:=by
 have e1:∀x y:Int,dh x y=max x y:=λx y=>by unfold dh; split<;>omega
 have e2:∀x y:Int,jT x y=min x y:=λx y=>by unfold jT; split<;>omega
 unfold Io H7
 simp only[e1,e2,Bool.and_eq_true,decide_eq_true_eq]
theorem iu:jd a b c d=true↔mJ a b c d:=by
 unfold jd mJ
 simp only[Nc]
 have z:∀x:Int,sn x=0↔x=0:=λx=>⟨Tr,λh=>by rw[h]; rfl⟩
 by_cases h:ai a b c=0/\ai a b d=0
 ·rw[if_pos h,if_pos (by rw[h.1,h.2]; rfl)]
  exact ET
 ·rw[if_neg h,if_neg (by simp only[Bool.and_eq_true,decide_eq_true_eq,z]; exact h)]
  simp only[Bool.and_eq_true,decide_eq_true_eq]
theorem nJ {a b:Int}:((a:Rat)<(b:Rat))↔a<b:=Rat.intCast_lt_intCast
theorem Gf {p:Pt} {f:Int} (hab:a≠b):lz a b p f=decide (mP (CE a b p) ((f:Rat)*(f:Rat))<0):=by
 have hS:=JR hab
 rw[show decide (mP (CE a b p) ((f:Rat)*(f:Rat))<0)=decide (CE a b p<(f:Rat)*(f:Rat))from decide_eq_decide.2 kO]
 unfold lz CE
 by_cases h1:ik a b p<=0
 ·rw[if_pos h1,if_pos h1,<-Rat.intCast_mul]
  exact decide_eq_decide.2 nJ.symm
 ·rw[if_neg h1,if_neg h1]
  by_cases h2:ik a b p>=uc a b
  ·rw[if_pos h2,if_pos h2,<-Rat.intCast_mul]
   exact decide_eq_decide.2 nJ.symm
  ·rw[if_neg h2,if_neg h2]
   unfold Ah
   have hp:(0:Rat)<((uc a b:Int):Rat):=by rw[<-Rat.intCast_zero]; exact nJ.2 hS
   rw[<-decide_not]
   refine decide_eq_decide.2 ?_
   rw[Rat.div_lt_iff hp,<-kO]
   omega
theorem rh {L:List Pt} (h:bJ L=0) {k:Nat} (hk:k<L.length):ae L k≠ae L (dS L.length k):=λe=>by
 obtain⟨hn,_,he⟩:=bY h
 have hj:=Bb (n:=L.length) (k:=dS L.length k) (by omega)
 obtain⟨n1,n2,n3⟩:=Bc hn hk
 have:=he k hk (dS L.length (dS L.length k)) hj n2 n3
 rw[<-e]at this
 unfold ai at this
 simp at this
end Wx

namespace Wx
open Go Go.RowKit Go.Proofs
set_option linter.unusedVariables false
variable {n k:Nat}
theorem KV (h:2<=n):dS n k<n:=Nat.mod_lt _ (by omega)
theorem zb (h:k+1<n):dS n k=k+1:=Nat.mod_eq_of_lt h
theorem Gj (h:k+1=n):dS n k=0:=by unfold dS; rw[h]; exact Nat.mod_self n
variable {L H:List Pt}
theorem tY (h:uD L H) {k:Nat} (hk:k<H.length):uB L L.length (ae H k) (ae H (dS H.length k)):=by
 by_cases g:k+1<H.length
 ·rw[zb g]; exact h.mU k g
 ·rw[Gj (by omega)]
  have:=h.back
  rwa [show H.length-1=k by omega]at this
variable {a b:Pt}
theorem yS (h1:en a b) (h2:en b a):False:=dA (dR h1 h2)
theorem oq (h1:sP a b) (h2:sP b a):a=b:=by
 rcases h1 with h1|h1
 ·rcases h2 with h2|h2
  ·exact(yS h1 h2).elim
  ·exact h2.symm
 ·exact h1
variable {x y z:Pt}
theorem uP (hy:uB L L.length x y) (hz:uB L L.length x z) (my:∃j,j<L.length/\ae L j=y) (mz:∃j,j<L.length/\ae L j=z):y=z:=by
 obtain⟨i,hi,ei⟩:=my
 obtain⟨j,hj,ej⟩:=mz
 have h1:=hy.2 j hj
 have h2:=hz.2 i hi
 rw[ej]at h1
 rw[ei]at h2
 have hs:=vK x y z
 have b1:=h1.2 (by omega)
 have b2:=h2.2 (by omega)
 have hxy:=hy.1
 have hxz:=hz.1
 unfold xK at b1 b2
 rcases b1 with⟨a1,a2⟩|⟨a1,a2⟩
 ·rcases b2 with⟨c1,c2⟩|⟨c1,c2⟩
  ·exact oq c2 a2
  ·exact absurd (oq a1 (by rcases c1 with c|c<;>rcases c2 with d|d<;>first|exact .inl (dR c d)|(subst c; exact .inl d)|(subst d; exact .inl c)|(subst c; exact .inr d))) hxz
 ·rcases b2 with⟨c1,c2⟩|⟨c1,c2⟩
  ·exact absurd (oq (by rcases c1 with c|c<;>rcases c2 with d|d<;>first|exact .inl (dR c d)|(subst c; exact .inl d)|(subst d; exact .inl c)|(subst c; exact .inr d)) a2) hxz
  ·exact oq a1 c1
theorem yG (h:uD L H) {i j:Nat} (hij:i<j) (hj:j<H.length):ae H i≠ae H j:=λe=>by
 have key:∀t,j+t<H.length->ae H (i+t)=ae H (j+t):=by
  intro t
  induction t with
  |zero=>intro _; exact e
  |succ t ih=>
   intro ht
   have e1:=ih (by omega)
   have h1:=h.mU (i+t) (by omega)
   have h2:=h.mU (j+t) (by omega)
   rw[e1]at h1
   exact uP h1 h2 (h.mem _ (by omega)) (h.mem _ (by omega))
 have e1:=key (H.length-1-j) (by omega)
 have h1:=h.mU (i+(H.length-1-j)) (by omega)
 have h2:=h.back
 rw[e1,show j+(H.length-1-j)=H.length-1 by omega]at h1
 have e2:=uP h1 h2 (h.mem _ (by omega)) (h.mem 0 (by have:=h.two; omega))
 exact h.rest _ (by omega) (by omega) e2
theorem Cr (h:uD L H) {i j:Nat} (hij:i≠j) (hi:i<H.length) (hj:j<H.length):ae H i≠ae H j:=by
 rcases Nat.lt_or_gt_of_ne hij with g|g
 ·exact yG h g hj
 ·exactλe=>yG h g hi e.symm
variable {c:Pt}
theorem xL (hb:xK x c y) (h1:c≠x) (h2:c≠y):(en x c/\en c y)\/(en y c/\en c x):=by
 unfold xK at hb
 rcases hb with⟨a,b⟩|⟨a,b⟩
 ·exact .inl ⟨a.resolve_right λe=>h1 e.symm,b.resolve_right h2⟩
 ·exact .inr ⟨a.resolve_right λe=>h2 e.symm,b.resolve_right h1⟩
theorem Gv {a1 a2 b1 b2 w1 w2:Int} (hab:a1*b2-a2*b1=0) (ha:a1<0\/(a1=0/\a2<0)) (hb:0<b1\/(0=b1/\0<b2)) (h1:0<=w1*a2-w2*a1) (h2:0<=w1*b2-w2*b1):w1*a2-w2*a1=0/\w1*b2-w2*b1=0:=by
 have i1:b1*(w1*a2-w2*a1)=a1*(w1*b2-w2*b1):=by grind
 have i2:b2*(w1*a2-w2*a1)=a2*(w1*b2-w2*b1):=by grind
 generalize w1*a2-w2*a1=A at *
 generalize w1*b2-w2*b1=B at *
 have fin:∀{p q:Int},q<0->0<p->p*A=q*B->A=0/\B=0:=λ{p q} hq hp e=>by
  have k1:0<=p*A:=Int.mul_nonneg (Int.le_of_lt hp) h1
  have k2:q*B<=0:=by
   have:=Int.mul_nonneg (show 0 <= -q by omega) h2
   rw[Int.neg_mul]at this
   omega
  have k3:p*A=0:=by omega
  have k4:q*B=0:=by omega
  rcases Int.mul_eq_zero.1 k3 with g|g
  ·omega
  ·rcases Int.mul_eq_zero.1 k4 with g2|g2
   ·omega
   ·exact⟨g,g2⟩
 rcases hb with hb|⟨hb,hb2⟩
 ·rcases ha with ha|⟨ha,ha2⟩
  ·exact fin ha hb i1
  ·exfalso
   subst ha
   have:=Int.mul_pos_of_neg_of_neg (show a2<0 from ha2) (show -b1<0 by omega)
   rw[Int.zero_mul]at hab
   rw[Int.mul_neg]at this
   omega
 ·subst hb
  have e:a1*b2=0:=by rw[Int.mul_zero]at hab; omega
  rcases Int.mul_eq_zero.1 e with g|g
  ·exact fin (by omega) hb2 i2
  ·omega
theorem tN (hxy:ai x y c=0) (h:en x c/\en c y) (h1:0<=ai c z x) (h2:0<=ai c z y):ai c z x=0/\ai c z y=0:=by
 have e1:ai c z x=(z.1-c.1)*(x.2-c.2)-(z.2-c.2)*(x.1-c.1):=rfl
 have e2:ai c z y=(z.1-c.1)*(y.2-c.2)-(z.2-c.2)*(y.1-c.1):=rfl
 rw[e1]at h1 ⊢
 rw[e2]at h2 ⊢
 have hx:x.1-c.1<0\/(x.1-c.1=0/\x.2-c.2<0):=by have:=h.1; unfold en at this; omega
 have hy:0<y.1-c.1\/(0=y.1-c.1/\0<y.2-c.2):=by have:=h.2; unfold en at this; omega
 exact Gv (by unfold ai at hxy; grind) hx hy h1 h2
theorem yH (h:uD L H) {k:Nat} (hk:k<H.length):kS H k:=λq hq n1 n2=>by
 have h2:=h.two
 have he:=tY h hk
 obtain⟨j,hj,ej⟩:=h.mem q hq
 have hc:=he.2 j hj
 rw[ej]at hc
 rcases Int.lt_or_eq_of_le hc.1 with g|g
 ·exact g
 ·exfalso
  have hb:=xL (hc.2 g.symm) (Cr h n1 hq hk) (Cr h n2 hq (KV h2))
  have hz:=tY h hq
  obtain⟨jx,Wo,ex⟩:=h.mem k hk
  obtain⟨jy,Wp,ey⟩:=h.mem (dS H.length k) (KV h2)
  have zx:=hz.2 jx Wo
  have zy:=hz.2 jy Wp
  rw[ex]at zx
  rw[ey]at zy
  generalize ae H (dS H.length k)=y at *
  generalize ae H (dS H.length q)=z at *
  generalize ae H k=x at *
  generalize ae H q=c at *
  have fin:∀{x y:Pt},(en x c/\en c y)->xK c x z->xK c y z->False:=λ{x y} hb b1 b2=>by
   unfold xK at b1 b2
   have c1:en z c:=by
    rcases b1 with⟨a,_⟩|⟨a,b⟩
    ·exact(dA (AX a hb.1)).elim
    ·exact AX a hb.1
   have c2:en c z:=by
    rcases b2 with⟨_,b⟩|⟨a,b⟩
    ·exact AZ hb.2 b
    ·exact(dA (AZ hb.2 b)).elim
   exact yS c1 c2
  rcases hb with hb|hb
  ·obtain⟨t1,t2⟩:=tN g.symm hb zx.1 zy.1
   exact fin hb (zx.2 t1) (zy.2 t2)
  ·have qO:ai y x c=0:=by
    have:ai y x c = -ai x y c:=by unfold ai; grind
    omega
   obtain⟨t1,t2⟩:=tN qO hb zy.1 zx.1
   exact fin hb (zy.2 t1) (zx.2 t2)
theorem mb (hxy:x≠y) (ha:ai x y a=0) (hb:ai x y b=0) (hc:ai x y c=0):ai a b c=0:=by
 have h1:(y.1-x.1)*ai a b c=0:=by unfold ai at *; grind
 have h2:(y.2-x.2)*ai a b c=0:=by unfold ai at *; grind
 rcases Int.mul_eq_zero.1 h1 with g|g
 ·rcases Int.mul_eq_zero.1 h2 with g2|g2
  ·exact absurd (Prod.ext (by omega) (by omega)) hxy
  ·exact g2
 ·exact g
theorem AP (h:uD L H) {i j k:Nat} (hi:i<L.length) (hj:j<L.length) (hk:k<L.length) (ht:ai (ae L i) (ae L j) (ae L k)≠0):3<=H.length:=by
 have h2:=h.two
 rcases Nat.lt_or_ge H.length 3 with g|g
 ·exfalso
  have e0:=h.mU 0 (by omega)
  have e1:=h.back
  rw[show H.length-1=0+1 by omega]at e1
  have z:∀q,q<L.length->ai (ae H 0) (ae H (0+1)) (ae L q)=0:=λq hq=>by
   have a1:=(e0.2 q hq).1
   have a2:=(e1.2 q hq).1
   have:ai (ae H (0+1)) (ae H 0) (ae L q) = -ai (ae H 0) (ae H (0+1)) (ae L q):=by unfold ai; grind
   omega
  exact ht (mb e0.1 (z i hi) (z j hj) (z k hk))
 ·exact g
end Wx

namespace Wx
open Go Go.RowKit Go.Proofs
set_option linter.unusedVariables false
variable {L:List Pt} {d:Int}
theorem uN (h:aR L d=0):1<=d/\d<=64:=by
 have hp:=aP h
 unfold aR at h
 rw[if_neg (λg=>g hp)]at h
 by_cases g:(decide (d<1)||decide (d>64))=true
 ·rw[if_pos g]at h; exact absurd h (by decide)
 ·simp only[Bool.or_eq_true,decide_eq_true_eq]at g
  omega
theorem IB (h:bJ L=0) (h1:1<=d/\d<=64):aR L d=0:=by
 unfold aR
 rw[if_neg (λg=>g h),if_neg]
 simp only[Bool.or_eq_true,decide_eq_true_eq]
 omega
variable {K:List Pt} {k l:Int}
theorem pX (h:bN K L k l=0):aR K k=0/\aR L l=0/\(hL (K++L)).length<=10:=by
 unfold bN at h
 by_cases h1:aR K k=0
 ·rw[if_neg (λg=>g h1)]at h
  by_cases h2:aR L l=0
  ·rw[if_neg (λg=>g h2)]at h
   by_cases h3:(hL (K++L)).length>10
   ·rw[if_pos h3]at h; exact absurd h (by decide)
   ·exact⟨h1,h2,by omega⟩
  ·rw[if_pos h2]at h; exact absurd h h2
 ·rw[if_pos h1]at h; exact absurd h h1
abbrev nF (p:Pt):Prop :=-1048576<=p.1/\p.1<=1048576 /\ -1048576<=p.2/\p.2<=1048576
theorem Am (h1:bJ K=0) (h2:bJ L=0):∀q,q<(K++L).length->nF (ae (K++L) q):=λq hq=>by
 have hlen:(K++L).length=K.length+L.length:=List.length_append
 by_cases g:q<K.length
 ·rw[kN g]; exact(bY h1).2.1 q g
 ·rw[Ak (by omega)]; exact(bY h2).2.1 _ (by omega)
variable {p:Pt}
theorem FO (h:nF p):yl p=false:=by
 unfold yl Dp
 simp only[Bool.or_eq_false_iff,decide_eq_false_iff_not]
 unfold nF at h
 omega
theorem sN (h:nF p):Bo p=false:=by
 unfold Bo dh jT
 unfold nF at h
 simp only[Bool.or_eq_false_iff,decide_eq_false_iff_not]
 split<;>split<;>split<;>split<;>omega
theorem Gc (h:bN K L k l=0):bJ (hL (K++L))=0:=by
 obtain⟨h1,h2,h3⟩:=pX h
 have p1:=aP h1
 have p2:=aP h2
 have W:=Kt (nX h1 h2)
 have n1:=cA p1
 have hlen:(K++L).length=K.length+L.length:=List.length_append
 have hn:=AP W (i:=0) (j:=1) (k:=2) (by omega) (by omega) (by omega) (by
  rw[kN (by omega),kN (by omega),kN (by omega)]
  have e:=(bY p1).2.2 0 (by omega) 2 (by omega) (by omega) (by rw[zb (by omega)]; omega)
  rw[zb (by omega)]at e
  exactλz=>absurd (z▸e) (by omega))
 unfold bJ
 rw[if_neg (by unfold sQ; simp only[Bool.or_eq_true,decide_eq_true_eq]; omega),if_neg,if_pos λk hk=>yH W hk]
 rw[show AA (hL (K++L)) = -1 from nY λq hq=>by
  obtain⟨j,hj,e⟩:=W.mem q hq
  rw[<-e]
  exact FO (Am p1 p2 j hj)]
 decide
theorem Jm (h1:1<=k/\k<=64) (h2:1<=l/\l<=64):1<=dh k l/\dh k l<=64:=by
 unfold dh; split<;>omega
theorem CB (h:bN K L k l=0):aR (js K L k l) (nh K L k l)=0:=by
 obtain⟨h1,h2,h3⟩:=pX h
 unfold js nh
 rw[if_pos h,if_pos h]
 exact IB (Gc h) (Jm (uN h1) (uN h2))
theorem MG (h:bN K L k l=0) {q:Nat} (hq:q<(K++L).length):mV (js K L k l) (nh K L k l) (ae (K++L) q)=true:=by
 obtain⟨h1,h2,h3⟩:=pX h
 unfold mV
 rw[decide_eq_true (CB h),sN (Am (aP h1) (aP h2) q hq)]
 show ua _ _=true
 unfold js ua
 rw[if_pos h]
 exact decide_eq_true λk hk=>((tY (Kt (nX h1 h2)) hk).2 q hq).1
theorem Ga (h1:aR K k=0) (h2:aR L l=0) (h:bN K L k l≠0):bN K L k l=4:=by
 by_cases h3:(hL (K++L)).length>10
 ·exact KQ h1 h2 h3
 ·exact absurd (KR h1 h2 h3) h
theorem tD (L:List Pt):((List.range L.length).map λi=>ae L i)=L:=by
 refine List.ext_getElem (by rw[List.length_map,List.length_range]) λi h1 h2=>?_
 rw[List.getElem_map,List.getElem_range,lE h2]
theorem JI (hn:∀q,q<(K++L).length->bG 16777216 (ae (K++L) q)) (zV:∀q,q<(L++K).length->bG 16777216 (ae (L++K) q)):sL (K++L)=sL (L++K):=by
 refine zJ hn ?_ (zK _ _)
 refine(tL zV).trans ?_
 rw[tD,tD]
 exact List.perm_append_comm
theorem Cl (h1:aR K k=0) (h2:aR L l=0):hL (K++L)=hL (L++K):=by
 have e1:=JI (nX h1 h2).near (nX h2 h1).near
 have e2:(K++L).length=(L++K).length:=by rw[List.length_append,List.length_append,Nat.add_comm]
 have e3:cL (K++L)=cL (L++K):=by unfold cL; rw[e1,e2]
 unfold hL
 rw[e3]
theorem pW (h1:aR K k=0) (h2:aR L l=0):bN K L k l=bN L K l k:=by
 unfold bN
 rw[Cl h1 h2]
 simp only[h1,h2,ne_eq,not_true_eq_false,if_false]
theorem DT (h1:aR K k=0) (h2:aR L l=0):js K L k l=js L K l k:=by
 unfold js
 rw[pW h1 h2,Cl h1 h2]
theorem DS (h1:aR K k=0) (h2:aR L l=0):nh K L k l=nh L K l k:=by
 unfold nh
 rw[pW h1 h2,show dh k l=dh l k by unfold dh; split<;>split<;>omega]
end Wx

namespace Wx
open Go Go.RowKit Go.Proofs
set_option linter.unusedVariables false
variable {u v x y:Pt}
theorem xV (hu:u≠v) (A:ai u v x=0) (B:ai u v y=0):ai x y u=0/\ai x y v=0:=
 ⟨mb hu A B (lK u v),mb hu A B (oV u v)⟩
theorem qm (hu:u≠v) (hx:x≠y) (h:mJ u v x y):mJ x y u v:=by
 unfold mJ at h ⊢
 by_cases g:ai u v x=0/\ai u v y=0
 ·rw[if_pos g]at h
  rw[if_pos (xV hu g.1 g.2)]
  unfold H7 at h ⊢
  omega
 ·rw[if_neg g]at h
  rw[if_neg λk=>g (xV hx k.1 k.2)]
  exact⟨h.2,h.1⟩
theorem xW (hu:u≠v) (hx:x≠y):jd u v x y=jd x y u v:=
 Bool.eq_iff_iff.2 ⟨λh=>iu.2 (qm hu hx (iu.1 h)),λh=>iu.2 (qm hx hu (iu.1 h))⟩
variable {K L:List Pt} {f:Int}
theorem meet_comm (hK:bJ K=0) (hL:bJ L=0) {k i:Nat} (hk:k<K.length) (hi:i<L.length) (h:fI K L f k i):fI L K f i k:=by
 unfold fI at h ⊢
 rw[xW (rh hL hi) (rh hK hk)]
 rw[Bool.or_assoc,Bool.or_comm (lz _ _ _ _),<-Bool.or_assoc]
 exact h
theorem Fl (hK:bJ K=0) (hL:bJ L=0):yj K L f=yj L K f:=by
 unfold yj
 exact decide_eq_decide.2 ⟨λh i hi k hk=>meet_comm hK hL hk hi (h k hk i hi),λh k hk i hi=>meet_comm hL hK hi hk (h i hi k hk)⟩
theorem Af (hK:bJ K=0) (hL:bJ L=0):cH K L f=cH L K f:=by
 unfold cH
 rw[Fl hK hL,Bool.or_comm]
variable {g:Int}
theorem GZ (h1:0<=g) (h2:g<=f):g*g<=f*f:=Int.mul_le_mul h2 h2 h1 (by omega)
variable {a b p:Pt}
theorem vh (hab:a≠b) (h1:0<=g) (h2:g<=f) (h:lz a b p g=true):lz a b p f=true:=by
 rw[Gf hab,decide_eq_true_eq,kO]at h ⊢
 refine Std.lt_of_lt_of_le h ?_
 rw[<-Rat.intCast_mul,<-Rat.intCast_mul]
 exact Rat.intCast_le_intCast.2 (GZ h1 h2)
theorem Ag (hK:bJ K=0) (hL:bJ L=0) (h1:0<=g) (h2:g<=f) (h:cH K L f=true):cH K L g=true:=by
 unfold cH at h ⊢
 rw[Bool.and_eq_true]at h ⊢
 refine⟨h.1,?_⟩
 have h:=h.2
 unfold yj at h ⊢
 rw[decide_eq_true_eq]at h ⊢
 intro k hk i hi
 have e:=h k hk i hi
 unfold fI at e ⊢
 simp only[Bool.or_eq_false_iff]at e ⊢
 exact⟨⟨e.1.1,Bool.eq_false_iff.2 λq=>absurd (vh (rh hK hk) h1 h2 q) (by rw[e.1.2]; decide)⟩,Bool.eq_false_iff.2 λq=>absurd (vh (rh hL hi) h1 h2 q) (by rw[e.2]; decide)⟩
theorem Ng (P:Nat->Prop) [DecidablePred P] (s t:Nat->Int) {n:Nat} (hex:∃k,k<n/\P k) (hs:∀k,k<n->P k->0<s k):∃k,(k<n/\P k)/\∀j,j<n->P j->t j*s k<=t k*s j:=by
 have hm:∀{x},x∈(List.range n).filter (λk=>decide (P k))↔x<n/\P x:=by
  intro x
  rw[List.mem_filter,List.mem_range,decide_eq_true_eq]
 generalize (List.range n).filter (λk=>decide (P k))=F at hm
 have hg:∀a,a<F.length->F.getD a 0∈F:=λa ha=>by
  rw[List.getD_eq_getElem?_getD,List.getElem?_eq_getElem ha]
  exact List.getElem_mem ha
 have hpos:0<F.length:=by
  obtain⟨k,hk⟩:=hex
  exact List.length_pos_of_mem (hm.2 hk)
 obtain⟨a,ha,hb⟩:=zL (λa=>s (F.getD a 0)) (λa=>t (F.getD a 0)) (F.length-1) λa ha=>by
  have:=hm.1 (hg a (by omega))
  exact hs _ this.1 this.2
 refine⟨F.getD a 0,hm.1 (hg a (by omega)),λj hj hp=>?_⟩
 obtain⟨c,hc,e⟩:=List.mem_iff_getElem.1 (hm.2 ⟨hj,hp⟩)
 have:=hb c (by omega)
 rw[show F.getD c 0=j by rw[List.getD_eq_getElem?_getD,List.getElem?_eq_getElem hc]; exact e]at this
 exact this
theorem Jt {n i:Nat} (hn:2<n) (hi:i<n):∃j,j<n/\dS n j=i:=by
 rcases Nat.eq_zero_or_pos i with g|g
 ·exact⟨n-1,by omega,by rw[Gj (by omega),g]⟩
 ·exact⟨i-1,by omega,by rw[zb (by omega)]; omega⟩
theorem I7 (a b c x y:Pt):ai a b y*ai b c x-ai a b x*ai b c y = -(ai x y b*ai b c a):=by unfold ai; grind
theorem I8 (z a b x y:Pt):ai a b y*ai z a x-ai a b x*ai z a y=ai x y a*ai z a b:=by unfold ai; grind
variable {A B:Int}
theorem PV (h:0 <= -(A*B)) (hB:0<B):A<=0:=by
 rcases Int.lt_or_le 0 A with g|g
 ·have:=Int.mul_pos g hB; omega
 ·exact g
theorem MI (h:0<=A*B) (hB:0<B):0<=A:=by
 rcases Int.lt_or_le A 0 with g|g
 ·have:=Int.mul_neg_of_neg_of_pos g hB; omega
 ·exact g
theorem Nl (hK:bJ K=0) {x y:Pt} (hx:ua K x=false) (hy:ua K y=true):∃k,k<K.length/\mJ (ae K k) (ae K (dS K.length k)) x y:=by
 obtain⟨hn,_,he⟩:=bY hK
 unfold ua at hx hy
 rw[decide_eq_false_iff_not]at hx
 rw[decide_eq_true_eq]at hy
 have hex:∃k,k<K.length/\ai (ae K k) (ae K (dS K.length k)) x<0:=Classical.byContradiction λg=>hx λk hk=>by
  rcases Int.lt_or_le (ai (ae K k) (ae K (dS K.length k)) x) 0 with q|q
  ·exact absurd ⟨k,hk,q⟩ g
  ·exact q
 obtain⟨i,⟨hi,hs⟩,hm⟩:=Ng (λk=>ai (ae K k) (ae K (dS K.length k)) x<0) (λk => -ai (ae K k) (ae K (dS K.length k)) x) (λk => -ai (ae K k) (ae K (dS K.length k)) y) hex λk _ h=>by
  show 0 < -_
  omega
 have hm:∀j,j<K.length->0<=ai (ae K i) (ae K (dS K.length i)) y*ai (ae K j) (ae K (dS K.length j)) x-ai (ae K i) (ae K (dS K.length i)) x*ai (ae K j) (ae K (dS K.length j)) y:=λj hj=>by
  have r0:=hy i hi
  have rj:=hy j hj
  rcases Int.lt_or_le (ai (ae K j) (ae K (dS K.length j)) x) 0 with q|q
  ·have:=hm j hj q
   simp only[Int.neg_mul_neg]at this
   rw[Int.mul_comm (ai (ae K j) _ y)]at this
   omega
  ·have k1:=Int.mul_nonneg r0 q
   have k2:=Int.mul_nonneg (show 0 <= -ai (ae K i) (ae K (dS K.length i)) x by omega) rj
   rw[Int.neg_mul]at k2
   omega
 refine⟨i,hi,?_⟩
 have Pg:=Bb (n:=K.length) (k:=i) (by omega)
 obtain⟨j,hj,ej⟩:=Jt hn hi
 have m1:=hm _ Pg
 have m2:=hm j hj
 have r0:=hy i hi
 obtain⟨n1,n2,n3⟩:=Bc hn hi
 obtain⟨q1,q2,q3⟩:=Bc hn hj
 have c1:=he _ Pg i hi (λe=>n1 e.symm) (λe=>n2 e.symm)
 have c2:=he j hj (dS K.length i) Pg (by rw[ej]at q2; exact q2) (by rw[ej]; exact n1)
 rw[I7]at m1
 rw[ej]at m2 c2
 rw[I8]at m2
 have t1:=PV m1 c1
 have t2:=MI m2 c2
 generalize ae K (dS K.length i)=b at *
 generalize ae K i=a at *
 unfold mJ
 rw[if_neg λg=>by have:=g.1; omega]
 refine⟨λe=>?_,λe=>?_⟩
 ·rcases lH (ai a b x)with⟨k,q⟩|⟨k,q⟩|⟨k,q⟩<;>rcases lH (ai a b y)with⟨k2,q2⟩|⟨k2,q2⟩|⟨k2,q2⟩<;>omega
 ·have hxy:x≠y:=λe=>by rw[e]at hs; omega
  have z:ai x y a=0/\ai x y b=0:=by
   rcases lH (ai x y a)with⟨k,q⟩|⟨k,q⟩|⟨k,q⟩<;>rcases lH (ai x y b)with⟨k2,q2⟩|⟨k2,q2⟩|⟨k2,q2⟩<;>omega
  have:=mb hxy z.1 z.2 (lK x y)
  omega
theorem Dd (hK:bJ K=0) (hL:bJ L=0) (h:cH K L f=true):∀i,i<L.length->ua K (ae L i)=false:=by
 unfold cH at h
 simp only[Bool.and_eq_true,Bool.not_eq_true',Bool.or_eq_false_iff]at h
 obtain⟨⟨h0,_⟩,hf⟩:=h
 unfold yj at hf
 rw[decide_eq_true_eq]at hf
 intro i
 induction i with
 |zero=>exactλ_=>h0
 |succ i ih=>
  intro hi
  refine Bool.eq_false_iff.2 λhy=>?_
  obtain⟨k,hk,hc⟩:=Nl hK (ih (by omega)) hy
  have e:=hf k hk i (by omega)
  unfold fI at e
  simp only[Bool.or_eq_false_iff]at e
  rw[zb hi]at e
  rw[iu.2 hc]at e
  exact absurd e.1.1 (by decide)
theorem EP (h1:0<=g) (h2:g<=f) (h:Ah a b p f=true):Ah a b p g=true:=by
 unfold Ah at h ⊢
 rw[decide_eq_true_eq]at h ⊢
 have h3:¬(((ai a b p:Int):Rat)*((ai a b p:Int):Rat)<((f:Rat)*(f:Rat))*((uc a b:Int):Rat)):=λq=>by have:=kO.2 q; omega
 refine Int.not_lt.1 λq=>h3 ?_
 have q:=kO.1 q
 rw[<-Rat.intCast_mul,<-Rat.intCast_mul,<-Rat.intCast_mul,nJ]at q ⊢
 have:=Int.mul_le_mul_of_nonneg_right (GZ h1 h2) (Nf a b)
 omega
theorem Ed {O:List Pt} (h1:0<=g) (h2:g<=f) (h:kB L O f=true):kB L O g=true:=by
 unfold kB at h ⊢
 rw[decide_eq_true_eq]at h ⊢
 exactλk hk i hi=>⟨(h k hk i hi).1,EP h1 h2 (h k hk i hi).2⟩
def mZ (p o:Pt):Pt:=((p.1+o.1).tdiv 2,(p.2+o.2).tdiv 2)
variable {o:Pt}
theorem yV (h1:(p.1+o.1).tmod 2=0) (h2:(p.2+o.2).tmod 2=0) (hp:0<=ai a b p) (ho:0<=ai a b o):0<=ai a b (mZ p o):=by
 have e1:2*(mZ p o).1=p.1+o.1:=by have:=Int.mul_tdiv_add_tmod (p.1+o.1) 2; unfold mZ; omega
 have e2:2*(mZ p o).2=p.2+o.2:=by have:=Int.mul_tdiv_add_tmod (p.2+o.2) 2; unfold mZ; omega
 have:2*ai a b (mZ p o)=ai a b p+ai a b o:=by unfold ai; grind
 omega
theorem uM (hK:bJ K=0) {q:Nat} (hq:q<K.length) {k:Nat} (hk:k<K.length):0<=ai (ae K k) (ae K (dS K.length k)) (ae K q):=by
 by_cases g1:q=k
 ·rw[g1,lK]; exact Int.le_refl _
 ·by_cases g2:q=dS K.length k
  ·rw[g2,oV]; exact Int.le_refl _
  ·exact Int.le_of_lt ((bY hK).2.2 k hk q hq g1 g2)
theorem sU (hp:nF p) (ho:nF o):nF (mZ p o):=by
 unfold nF mZ at *
 have a1:=Int.mul_tdiv_add_tmod (p.1+o.1) 2
 have a2:=Int.mul_tdiv_add_tmod (p.2+o.2) 2
 have b1:=Int.tmod_lt_of_pos (p.1+o.1) (show(0:Int)<2 by decide)
 have b2:=Int.tmod_lt_of_pos (p.2+o.2) (show(0:Int)<2 by decide)
 have c1:=Int.lt_tmod_of_pos (p.1+o.1) (show(0:Int)<2 by decide)
 have c2:=Int.lt_tmod_of_pos (p.2+o.2) (show(0:Int)<2 by decide)
 dsimp only
 omega
theorem F7 {d:Int} (hd:aR K d=0) {i j:Nat} (hi:i<K.length) (hj:j<K.length) (h1:((ae K i).1+(ae K j).1).tmod 2=0) (h2:((ae K i).2+(ae K j).2).tmod 2=0):mV K d (mZ (ae K i) (ae K j))=true:=by
 have hK:=aP hd
 unfold mV
 rw[decide_eq_true hd,sN (sU ((bY hK).2.1 i hi) ((bY hK).2.1 j hj))]
 show ua _ _=true
 unfold ua
 exact decide_eq_true λk hk=>yV h1 h2 (uM hK hi hk) (uM hK hj hk)
theorem F6 {k l:Int} (hk:aR K k=0) (hl:aR L l=0) (hr:kB K L f=true) {i j:Nat} (hi:i<K.length) (hj:j<K.length) (h1:((ae K i).1+(ae K j).1).tmod 2=0) (h2:((ae K i).2+(ae K j).2).tmod 2=0):mV L l (mZ (ae K i) (ae K j))=true:=by
 have hK:=aP hk
 unfold kB at hr
 rw[decide_eq_true_eq]at hr
 unfold mV
 rw[decide_eq_true hl,sN (sU ((bY hK).2.1 i hi) ((bY hK).2.1 j hj))]
 show ua _ _=true
 unfold ua
 exact decide_eq_true λk hk=>yV h1 h2 (Int.le_of_lt (hr k hk i hi).1) (Int.le_of_lt (hr k hk j hj).1)
end Wx
