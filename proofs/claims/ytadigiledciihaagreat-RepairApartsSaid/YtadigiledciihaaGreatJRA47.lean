import Derived.Test.YtadigiledciihaaGreatCRARep13
namespace Wx
open Go Go.RowKit Go.Proofs
set_option linter.unusedVariables false
section
theorem oo {u v:Rat}:gJ u v<0↔u<v:=by
 unfold gJ
 by_cases h:u<v
 ·rw[if_pos h]; exact⟨λ_=>h,λ_=>by decide⟩
 ·rw[if_neg h]
  by_cases e:u=v
  ·rw[if_pos e]; exact⟨λhh=>absurd hh (by decide),λhh=>absurd hh h⟩
  ·rw[if_neg e]; exact⟨λhh=>absurd hh (by decide),λhh=>absurd hh h⟩
variable {L:List Pt} {k:Nat}
theorem yY {p:Pt}:Jx L (p.1:Rat) (p.2:Rat) k↔0<=aA (aj L k) (aj L (gp L.length k)) p:=by
 unfold Jx aA
 rw[oo,<-Rat.intCast_sub,<-Rat.intCast_sub,<-Rat.intCast_mul,<-Rat.intCast_mul,Rat.intCast_lt_intCast]
 omega
theorem yX (L:List Pt) (p:Pt):hasB L (p.1:Rat) (p.2:Rat)=CK L p:=by
 unfold hasB CK
 exact decide_eq_decide.2 ⟨λh k hk=>yY.1 (h k hk),λh k hk=>yY.2 (h k hk)⟩
variable {n:Nat}
theorem G5 (h:0<n):gp n k<n:=Nat.mod_lt _ h
theorem Na (h:2<n) (hk:k<n):gp n k≠k/\gp n (gp n k)≠k/\gp n (gp n k)≠gp n k:=by
 have e:∀j,j<n->gp n j=if j+1=n then 0 else j+1:=λj hj=>by
  unfold gp
  by_cases c:j+1=n
  ·rw[if_pos c,c,Nat.mod_self]
  ·rw[if_neg c,Nat.mod_eq_of_lt (by omega)]
 have h1:=e k hk
 have h2:=e (gp n k) (G5 (by omega))
 by_cases c:k+1=n
 ·rw[if_pos c]at h1; rw[h1]at h2 ⊢; rw[if_neg (by omega)]at h2; omega
 ·rw[if_neg c]at h1; rw[h1]at h2 ⊢
  by_cases c2:k+1+1=n
  ·rw[if_pos c2]at h2; omega
  ·rw[if_neg c2]at h2; omega
theorem EI (h:eM L=0):2<L.length/\(∀k,k<L.length -> -1048576<=(aj L k).1/\(aj L k).1<=1048576 /\ -1048576<=(aj L k).2/\(aj L k).2<=1048576)/\∀k,k<L.length->jz L k:=by
 unfold eM at h
 by_cases h1:oK L=true
 ·rw[if_pos h1]at h; exact absurd h (by decide)
 rw[if_neg h1]at h
 by_cases h2:sC L>=0
 ·rw[if_pos h2]at h; exact absurd h (by decide)
 rw[if_neg h2]at h
 by_cases h3:∀k,k<L.length->jz L k
 ·refine⟨?_,λk hk=>?_,h3⟩
  ·unfold oK at h1
   simp only[Bool.or_eq_true,decide_eq_true_eq]at h1
   omega
  ·have:=jS h2 k hk
   unfold wH DS at this
   simp only[Bool.or_eq_false_iff,decide_eq_false_iff_not]at this
   omega
 ·rw[if_neg h3]at h; exact absurd h (by decide)
end
end Wx

namespace Wx
open Go Go.RowKit Go.Proofs
set_option linter.unusedVariables false
def sn (x:Int):Int:=if x<0 then -1 else if x>0 then 1 else 0
theorem cJ (x:Int):(x<0/\sn x = -1)\/(x=0/\sn x=0)\/(x>0/\sn x=1):=by
 unfold sn
 split
 ·exact .inl ⟨by omega,rfl⟩
 ·split
  ·exact .inr (.inr ⟨by omega,rfl⟩)
  ·exact .inr (.inl ⟨by omega,rfl⟩)
theorem xH (x y:Int):sn (x*y)=sn x*sn y:=by
 rcases cJ x with⟨h,e⟩|⟨h,e⟩|⟨h,e⟩<;>rcases cJ y with⟨g,f⟩|⟨g,f⟩|⟨g,f⟩<;>rw[e,f]
 ·have:=Int.mul_pos_of_neg_of_neg h g
  rcases cJ (x*y)with⟨k,q⟩|⟨k,q⟩|⟨k,q⟩<;>first|exact q|omega
 ·rw[g,Int.mul_zero]; rfl
 ·have:=Int.mul_neg_of_neg_of_pos h g
  rcases cJ (x*y)with⟨k,q⟩|⟨k,q⟩|⟨k,q⟩<;>first|exact q|omega
 ·rw[h,Int.zero_mul]; rfl
 ·rw[h,Int.zero_mul]; rfl
 ·rw[h,Int.zero_mul]; rfl
 ·have:=Int.mul_neg_of_pos_of_neg h g
  rcases cJ (x*y)with⟨k,q⟩|⟨k,q⟩|⟨k,q⟩<;>first|exact q|omega
 ·rw[g,Int.mul_zero]; rfl
 ·have:=Int.mul_pos h g
  rcases cJ (x*y)with⟨k,q⟩|⟨k,q⟩|⟨k,q⟩<;>first|exact q|omega
def On (a b p:Pt):Prop:=aA a b p=0/\0<=aD a b p/\aD a b p<=eP a b
theorem vS (x:Int):0<=x*x:=by
 rcases Int.le_total 0 x with h|h
 ·exact Int.mul_nonneg h h
 ·exact Int.mul_nonneg_of_nonpos_of_nonpos h h
theorem EZ {x:Int} (h:x*x<=0):x=0:=by
 rcases Int.lt_trichotomy x 0 with k|k|k
 ·have:=Int.mul_pos_of_neg_of_neg k k; omega
 ·exact k
 ·have:=Int.mul_pos k k; omega
variable {a b:Pt}
theorem Ly (h:eP a b<=0):a=b:=by
 have h1:=vS (b.1-a.1)
 have h2:=vS (b.2-a.2)
 unfold eP at h
 have e1:b.1-a.1=0:=EZ (by omega)
 have e2:b.2-a.2=0:=EZ (by omega)
 exact Prod.ext (by omega) (by omega)
theorem kU (h:a≠b):0<eP a b:=by
 rcases Int.lt_or_le 0 (eP a b)with k|k
 ·exact k
 ·exact absurd (Ly k) h
theorem UK (a b p:Pt):eP a b*eP a p=aD a b p*aD a b p+aA a b p*aA a b p:=by unfold eP aD aA; grind
theorem PX (a b p:Pt):eP a b*eP b p=(aD a b p-eP a b)*(aD a b p-eP a b)+aA a b p*aA a b p:=by unfold eP aD aA; grind
theorem Jw (u v x y:Pt):eP u v*aA x y u=aD u v x*aA u v y-aD u v y*aA u v x/\eP u v*aA x y v=(aD u v x-eP u v)*aA u v y-(aD u v y-eP u v)*aA u v x:=by
 unfold eP aD aA
 constructor<;>grind
theorem Il {t S b c e:Int} (hS:0<S) (hb:b≠0) (h1:S*c=t*b) (h2:S*e=(t-S)*b):sn c≠sn e↔0<=t/\t<=S:=by
 have e1:sn c=sn t*sn b:=by rw[<-xH,<-h1,xH]; rcases cJ S with h|h|h<;>first|omega|(rw[h.2,Int.one_mul])
 have e2:sn e=sn (t-S)*sn b:=by rw[<-xH,<-h2,xH]; rcases cJ S with h|h|h<;>first|omega|(rw[h.2,Int.one_mul])
 rw[e1,e2]
 rcases cJ b with⟨h,q⟩|⟨h,q⟩|⟨h,q⟩<;>rcases cJ t with⟨h3,q3⟩|⟨h3,q3⟩|⟨h3,q3⟩<;>rcases cJ (t-S)with⟨h4,q4⟩|⟨h4,q4⟩|⟨h4,q4⟩<;>rw[q,q3,q4]<;>omega
variable {x u v y:Pt}
theorem KH (hu:u≠v) (hx:aA u v x=0) (hy:aA u v y≠0):sn (aA x y u)≠sn (aA x y v)↔On u v x:=by
 obtain⟨h1,h2⟩:=Jw u v x y
 rw[hx,Int.mul_zero,Int.sub_zero]at h1
 rw[hx,Int.mul_zero,Int.sub_zero]at h2
 rw[Il (kU hu) hy h1 h2]
 exact⟨λh=>⟨hx,h⟩,λh=>h.2⟩
theorem Cy (hu:u≠v) (hy:aA u v y=0) (hx:aA u v x≠0):sn (aA x y u)≠sn (aA x y v)↔On u v y:=by
 obtain⟨h1,h2⟩:=Jw u v x y
 rw[hy,Int.mul_zero,Int.zero_sub,<-Int.mul_neg]at h1
 rw[hy,Int.mul_zero,Int.zero_sub,<-Int.mul_neg]at h2
 rw[Il (kU hu) (by omega) h1 h2]
 exact⟨λh=>⟨hy,h⟩,λh=>h.2⟩
theorem kP {p:Pt} (h:On a b p) (hab:a≠b):(min a.1 b.1<=p.1/\p.1<=max a.1 b.1)/\min a.2 b.2<=p.2/\p.2<=max a.2 b.2:=by
 obtain⟨h0,h1,h2⟩:=h
 have hS:=kU hab
 have e1:eP a b*(p.1-a.1)=aD a b p*(b.1-a.1):=by
  have:eP a b*(p.1-a.1)=aD a b p*(b.1-a.1)-aA a b p*(b.2-a.2):=by unfold eP aD aA; grind
  rw[this,h0]; omega
 have e2:eP a b*(p.2-a.2)=aD a b p*(b.2-a.2):=by
  have:eP a b*(p.2-a.2)=aD a b p*(b.2-a.2)+aA a b p*(b.1-a.1):=by unfold eP aD aA; grind
  rw[this,h0]; omega
 have key:∀(S t d z:Int),0<S->0<=t->t<=S->S*z=t*d->(0<=d->0<=z/\z<=d)/\(d<=0->d<=z/\z<=0):=by
  intro S t d z hS ht hts e
  have e':S*(d-z)=(S-t)*d:=by rw[Int.mul_sub,e,Int.sub_mul]
  constructor
  ·intro hd
   have k1:0<=S*z:=by rw[e]; exact Int.mul_nonneg ht hd
   have k2:0<=S*(d-z):=by rw[e']; exact Int.mul_nonneg (by omega) hd
   have k3:=Int.nonneg_of_mul_nonneg_right k1 hS
   have k4:=Int.nonneg_of_mul_nonneg_right k2 hS
   omega
  ·intro hd
   have k1:0<=S*(-z):=by rw[Int.mul_neg,e,<-Int.mul_neg]; exact Int.mul_nonneg ht (by omega)
   have k2:0<=S*(-(d-z)):=by rw[Int.mul_neg,e',<-Int.mul_neg]; exact Int.mul_nonneg (by omega) (by omega)
   have k3:=Int.nonneg_of_mul_nonneg_right k1 hS
   have k4:=Int.nonneg_of_mul_nonneg_right k2 hS
   omega
 obtain⟨k1,k2⟩:=key _ _ _ _ hS h1 h2 e1
 obtain⟨k3,k4⟩:=key _ _ _ _ hS h1 h2 e2
 constructor
 ·rcases Int.le_total 0 (b.1-a.1)with h|h
  ·have:=k1 h; omega
  ·have:=k2 h; omega
 ·rcases Int.le_total 0 (b.2-a.2)with h|h
  ·have:=k3 h; omega
  ·have:=k4 h; omega
def Aw (a b c d:Pt):Prop:=((max a.1 b.1>=min c.1 d.1/\max c.1 d.1>=min a.1 b.1)/\max a.2 b.2>=min c.2 d.2)/\max c.2 d.2>=min a.2 b.2
theorem FK (hu:u≠v) (hx:x≠y) (h:((On u v x\/On u v y)\/On x y u)\/On x y v):Aw u v x y:=by
 unfold Aw
 rcases h with((h|h)|h)|h
 ·have:=kP h hu; omega
 ·have:=kP h hu; omega
 ·have:=kP h hx; omega
 ·have:=kP h hx; omega
theorem Nb (hu:u≠v) (hx:x≠y) (A:aA u v x=0) (B:aA u v y=0) (h:Aw u v x y):((On u v x\/On u v y)\/On x y u)\/On x y v:=by
 have hS:=kU hu
 have C:aA x y u=0:=by
  have:=(Jw u v x y).1
  rw[A,B,Int.mul_zero,Int.mul_zero]at this
  rcases Int.mul_eq_zero.1 (this.trans (by omega:(0:Int)-0=0))with k|k
  ·omega
  ·exact k
 by_cases h1:0<=aD u v x/\aD u v x<=eP u v
 ·exact .inl (.inl (.inl ⟨A,h1⟩))
 by_cases h2:0<=aD u v y/\aD u v y<=eP u v
 ·exact .inl (.inl (.inr ⟨B,h2⟩))
 -- the ends of the other QN: on both sides, or both on one
 have t1:eP u v*aD x y u=(0-aD u v x)*(aD u v y-aD u v x):=by
  have:eP u v*aD x y u=(0-aD u v x)*(aD u v y-aD u v x)-aA u v x*(aA u v y-aA u v x):=by unfold eP aD aA; grind
  rw[this,A]; omega
 have t2:eP u v*(eP x y-aD x y u)=aD u v y*(aD u v y-aD u v x):=by
  have:eP u v*(eP x y-aD x y u)=aD u v y*(aD u v y-aD u v x)+aA u v y*(aA u v y-aA u v x):=by unfold eP aD aA; grind
  rw[this,B]; omega
 have on:(0<=(0-aD u v x)*(aD u v y-aD u v x))->0<=aD u v y*(aD u v y-aD u v x)->On x y u:=λk1 k2=>by
  rw[<-t1]at k1
  rw[<-t2]at k2
  have k3:=Int.nonneg_of_mul_nonneg_right k1 hS
  have k4:=Int.nonneg_of_mul_nonneg_right k2 hS
  exact⟨C,k3,by omega⟩
 have e1:∀p:Pt,aA u v p=0->eP u v*(p.1-u.1)=aD u v p*(v.1-u.1)/\eP u v*(p.2-u.2)=aD u v p*(v.2-u.2):=λp h0=>by
  have q1:eP u v*(p.1-u.1)=aD u v p*(v.1-u.1)-aA u v p*(v.2-u.2):=by unfold eP aD aA; grind
  have q2:eP u v*(p.2-u.2)=aD u v p*(v.2-u.2)+aA u v p*(v.1-u.1):=by unfold eP aD aA; grind
  rw[q1,q2,h0]; omega
 have hd:v.1-u.1≠0\/v.2-u.2≠0:=by
  rcases Decidable.em (v.1-u.1=0)with k|k
  ·exact .inr λk'=>hu (Prod.ext (by omega) (by omega))
  ·exact .inl k
 have low:∀(S t d z:Int),0<S->t<0->S*z=t*d->(0<d->z<0)/\(d<0->0<z):=by
  intro S t d z hS ht e
  constructor
  ·intro hd
   have k:S*z<0:=by rw[e]; exact Int.mul_neg_of_neg_of_pos ht hd
   rcases Int.lt_or_le z 0 with q|q
   ·exact q
   ·have:=Int.mul_nonneg (Int.le_of_lt hS) q; omega
  ·intro hd
   have k:0<S*z:=by rw[e]; exact Int.mul_pos_of_neg_of_neg ht hd
   rcases Int.lt_or_le 0 z with q|q
   ·exact q
   ·have:=Int.mul_nonpos_of_nonneg_of_nonpos (Int.le_of_lt hS) q; omega
 have high:∀(S t d z:Int),0<S->S<t->S*z=t*d->(0<d->d<z)/\(d<0->z<d):=by
  intro S t d z hS ht e
  have e':S*(d-z)=(S-t)*d:=by rw[Int.mul_sub,e,Int.sub_mul]
  have:=low S (S-t) d (d-z) hS (by omega) e'
  constructor
  ·intro hd; have:=this.1 hd; omega
  ·intro hd; have:=this.2 hd; omega
 obtain⟨x1,x2⟩:=e1 x A
 obtain⟨y1,y2⟩:=e1 y B
 unfold Aw at h
 rcases Int.lt_or_le (aD u v x) 0 with p|p
 ·rcases Int.lt_or_le (aD u v y) 0 with q|q
  ·exfalso
   have a1:=low _ _ _ _ hS p x1
   have a2:=low _ _ _ _ hS p x2
   have a3:=low _ _ _ _ hS q y1
   have a4:=low _ _ _ _ hS q y2
   rcases hd with k|k
   ·rcases Int.lt_or_gt_of_ne k with g|g
    ·have:=a1.2 g; have:=a3.2 g; omega
    ·have:=a1.1 g; have:=a3.1 g; omega
   ·rcases Int.lt_or_gt_of_ne k with g|g
    ·have:=a2.2 g; have:=a4.2 g; omega
    ·have:=a2.1 g; have:=a4.1 g; omega
  ·exact .inl (.inr (on (Int.mul_nonneg (by omega) (by omega)) (Int.mul_nonneg (by omega) (by omega))))
 ·have p:eP u v<aD u v x:=by omega
  rcases Int.lt_or_le (aD u v y) 0 with q|q
  ·exact .inl (.inr (on (Int.mul_nonneg_of_nonpos_of_nonpos (by omega) (by omega)) (Int.mul_nonneg_of_nonpos_of_nonpos (by omega) (by omega))))
  ·exfalso
   have q:eP u v<aD u v y:=by omega
   have a1:=high _ _ _ _ hS p x1
   have a2:=high _ _ _ _ hS p x2
   have a3:=high _ _ _ _ hS q y1
   have a4:=high _ _ _ _ hS q y2
   rcases hd with k|k
   ·rcases Int.lt_or_gt_of_ne k with g|g
    ·have:=a1.2 g; have:=a3.2 g; omega
    ·have:=a1.1 g; have:=a3.1 g; omega
   ·rcases Int.lt_or_gt_of_ne k with g|g
    ·have:=a2.2 g; have:=a4.2 g; omega
    ·have:=a2.1 g; have:=a4.1 g; omega
def lF (u v x y:Pt):Prop:=if aA u v x=0/\aA u v y=0 then Aw u v x y else sn (aA u v x)≠sn (aA u v y)/\sn (aA x y u)≠sn (aA x y v)
def Cg (u v x y:Pt):Prop:=(sn (aA u v x)*sn (aA u v y)<0/\sn (aA x y u)*sn (aA x y v)<0)\/(((On u v x\/On u v y)\/On x y u)\/On x y v)
theorem NC {x:Int} (h:sn x=0):x=0:=by rcases cJ x with⟨k,q⟩|⟨k,q⟩|⟨k,q⟩<;>omega
theorem Dm {a b:Int} (ha:a≠0) (hb:b≠0) (h:sn a≠sn b):sn a*sn b<0:=by
 rcases cJ a with⟨k,q⟩|⟨k,q⟩|⟨k,q⟩<;>rcases cJ b with⟨k2,q2⟩|⟨k2,q2⟩|⟨k2,q2⟩<;>rw[q,q2]at h ⊢<;>omega
theorem nW {a b:Int} (h:sn a*sn b<0):sn a≠sn b/\a≠0:=by
 rcases cJ a with⟨k,q⟩|⟨k,q⟩|⟨k,q⟩<;>rcases cJ b with⟨k2,q2⟩|⟨k2,q2⟩|⟨k2,q2⟩<;>rw[q,q2]at h ⊢<;>omega
theorem AP (hu:u≠v) (hx:x≠y) (h:lF u v x y):Cg u v x y:=by
 unfold lF at h
 by_cases h0:aA u v x=0/\aA u v y=0
 ·rw[if_pos h0]at h
  exact .inr (Nb hu hx h0.1 h0.2 h)
 rw[if_neg h0]at h
 obtain⟨h1,h2⟩:=h
 by_cases A:aA u v x=0
 ·exact .inr (.inl (.inl (.inl ((KH hu A λB=>h0 ⟨A,B⟩).1 h2))))
 by_cases B:aA u v y=0
 ·exact .inr (.inl (.inl (.inr ((Cy hu B A).1 h2))))
 by_cases C:aA x y u=0
 ·exact .inr (.inl (.inr ((KH hx C λE=>h2 (by rw[C,E])).1 h1)))
 by_cases E:aA x y v=0
 ·exact .inr (.inr ((Cy hx E C).1 h1))
 exact .inl ⟨Dm A B h1,Dm C E h2⟩
theorem Br (hu:u≠v) (hx:x≠y) (h:Cg u v x y):(lF u v x y\/On u v x)\/On x y u:=by
 rcases h with⟨h1,h2⟩|((h|h)|h)|h
 ·refine .inl (.inl ?_)
  unfold lF
  rw[if_neg λk=>(nW h1).2 k.1]
  exact⟨(nW h1).1,(nW h2).1⟩
 ·exact .inl (.inr h)
 ·refine .inl (.inl ?_)
  unfold lF
  by_cases A:aA u v x=0
  ·rw[if_pos ⟨A,h.1⟩]
   exact FK hu hx (.inl (.inl (.inr h)))
  ·rw[if_neg λk=>A k.1]
   exact⟨λe=>A (NC (by rw[e,h.1]; rfl)),(Cy hu h.1 A).2 h⟩
 ·exact .inr h
 ·refine .inl (.inl ?_)
  unfold lF
  by_cases A:aA u v x=0/\aA u v y=0
  ·rw[if_pos A]
   exact FK hu hx (.inr h)
  ·rw[if_neg A]
   have C:aA x y u≠0:=λC=>A (by
    obtain⟨k1,k2⟩:=Jw x y u v
    rw[C,h.1,Int.mul_zero,Int.mul_zero]at k1 k2
    have hS:=kU hx
    constructor
    ·rcases Int.mul_eq_zero.1 (k1.trans (by omega:(0:Int)-0=0))with k|k
     ·omega
     ·exact k
    ·rcases Int.mul_eq_zero.1 (k2.trans (by omega:(0:Int)-0=0))with k|k
     ·omega
     ·exact k)
   exact⟨(Cy hx h.1 C).2 h,λe=>C (NC (by rw[e,h.1]; rfl))⟩
end Wx

namespace Wx
open Go Go.RowKit Go.Proofs
set_option linter.unusedVariables false
theorem Nz (x:Int):Ac x=sn x:=by
 unfold Ac sn gn nO
 repeat' split
 all_goals omega
variable {a b c d:Pt}
theorem FJ:I6 a b c d=true↔Aw a b c d:=by
 have e1:∀x y:Int,gn x y=max x y:=λx y=>by unfold gn; split<;>omega
 have e2:∀x y:Int,nO x y=min x y:=λx y=>by unfold nO; split<;>omega
 unfold I6 Aw
 simp only[e1,e2,Bool.and_eq_true,decide_eq_true_eq]
theorem sj:kD a b c d=true↔lF a b c d:=by
 unfold kD lF
 simp only[Nz]
 have z:∀x:Int,sn x=0↔x=0:=λx=>⟨NC,λh=>by rw[h]; rfl⟩
 by_cases h:aA a b c=0/\aA a b d=0
 ·rw[if_pos h,if_pos (by rw[h.1,h.2]; rfl)]
  exact FJ
 ·rw[if_neg h,if_neg (by simp only[Bool.and_eq_true,decide_eq_true_eq,z]; exact h)]
  simp only[Bool.and_eq_true,decide_eq_true_eq]
theorem oh {a b:Int}:((a:Rat)<(b:Rat))↔a<b:=Rat.intCast_lt_intCast
variable {p:Pt}
theorem sY (hab:a≠b):gh a b p=0↔On a b p:=by
 have hS:=kU hab
 have z:∀n:Int,((n:Int):Rat)=0↔n=0:=λn=>by rw[<-Rat.intCast_zero,Rat.intCast_inj]
 unfold gh On
 by_cases h1:aD a b p<=0
 ·rw[if_pos h1,z]
  constructor
  ·intro h
   obtain rfl:=Ly (Int.le_of_eq h)
   have e:=UK a b a
   rw[h,Int.mul_zero]at e
   have k1:=vS (aD a b a)
   have k2:=vS (aA a b a)
   have e1:aD a b a=0:=EZ (by omega)
   have e2:aA a b a=0:=EZ (by omega)
   exact⟨e2,by omega,by omega⟩
  ·rintro⟨h0,h2,_⟩
   have e:=UK a b p
   rw[h0,show aD a b p=0 by omega]at e
   rcases Int.mul_eq_zero.1 (e.trans (by decide:(0:Int)*0+0*0=0))with k|k
   ·omega
   ·exact k
 ·rw[if_neg h1]
  by_cases h2:aD a b p>=eP a b
  ·rw[if_pos h2,z]
   constructor
   ·intro h
    have e:=PX a b p
    rw[h,Int.mul_zero]at e
    have k1:=vS (aD a b p-eP a b)
    have k2:=vS (aA a b p)
    have e1:aD a b p-eP a b=0:=EZ (by omega)
    have e2:aA a b p=0:=EZ (by omega)
    exact⟨e2,by omega,by omega⟩
   ·rintro⟨h0,_,h3⟩
    have e:=PX a b p
    rw[h0,show aD a b p-eP a b=0 by omega]at e
    rcases Int.mul_eq_zero.1 (e.trans (by decide:(0:Int)*0+0*0=0))with k|k
    ·omega
    ·exact k
  ·rw[if_neg h2]
   have hn:((eP a b:Int):Rat)≠0:=λh=>by have:=(z _).1 h; omega
   constructor
   ·intro h
    refine⟨?_,by omega,by omega⟩
    have h3:(((aA a b p:Int):Rat)*((aA a b p:Int):Rat))=0:=by
     have:=congrArg (·*((eP a b:Int):Rat)) h
     simp only[Rat.zero_mul]at this
     rw[Rat.div_mul_cancel hn]at this
     exact this
    rcases Rat.mul_eq_zero.1 h3 with k|k<;>exact(z _).1 k
   ·rintro⟨h0,_⟩
    rw[h0,Rat.div_def]
    show(((0:Int):Rat)*((0:Int):Rat))*_=0
    rw[Rat.intCast_zero,Rat.zero_mul,Rat.zero_mul]
theorem vz (hab:a≠b) (hcd:c≠d):sV a b c d=true↔Cg a b c d:=by
 unfold sV Cg
 by_cases h:(decide (fg a b c*fg a b d<0)&&decide (fg c d a*fg c d b<0))=true
 ·rw[if_pos h]
  simp only[Bool.and_eq_true,decide_eq_true_eq]at h
  exact⟨λ_=>.inl h,λ_=>rfl⟩
 ·rw[if_neg h]
  simp only[Bool.and_eq_true,decide_eq_true_eq]at h
  simp only[Bool.or_eq_true,decide_eq_true_eq,sY hab,sY hcd]
  exact⟨.inr,λk=>k.resolve_left h⟩
variable {f:Int}
theorem sX (hab:a≠b):jX a b p f=decide (gJ (gh a b p) ((f:Rat)*(f:Rat))<0):=by
 have hS:=kU hab
 rw[show decide (gJ (gh a b p) ((f:Rat)*(f:Rat))<0)=decide (gh a b p<(f:Rat)*(f:Rat))from decide_eq_decide.2 oo]
 unfold jX gh
 by_cases h1:aD a b p<=0
 ·rw[if_pos h1,if_pos h1,<-Rat.intCast_mul]
  exact decide_eq_decide.2 oh.symm
 ·rw[if_neg h1,if_neg h1]
  by_cases h2:aD a b p>=eP a b
  ·rw[if_pos h2,if_pos h2,<-Rat.intCast_mul]
   exact decide_eq_decide.2 oh.symm
  ·rw[if_neg h2,if_neg h2]
   unfold LS
   have hp:(0:Rat)<((eP a b:Int):Rat):=by rw[<-Rat.intCast_zero]; exact oh.2 hS
   rw[<-decide_not]
   refine decide_eq_decide.2 ?_
   rw[Rat.div_lt_iff hp,<-oo]
   omega
theorem CY (hab:a≠b) (hf:1<=f) (h:On a b p):jX a b p f=true:=by
 rw[sX hab,(sY hab).2 h]
 refine decide_eq_true (oo.2 ?_)
 rw[<-Rat.intCast_mul,<-Rat.intCast_zero]
 exact oh.2 (Int.mul_pos (by omega) (by omega))
theorem Db {u v x y:Pt} (hu:u≠v) (hx:x≠y) (hf:1<=f):(kD u v x y||jX u v x f||jX x y u f)=((sV u v x y||decide (gJ (gh u v x) ((f:Rat)*(f:Rat))<0))||decide (gJ (gh x y u) ((f:Rat)*(f:Rat))<0)):=by
 rw[<-sX hu,<-sX hx]
 by_cases h1:jX u v x f=true
 ·rw[h1]; simp
 by_cases h2:jX x y u f=true
 ·rw[h2]; simp
 rw[Bool.eq_false_iff.2 h1,Bool.eq_false_iff.2 h2]
 simp only[Bool.or_false]
 refine Bool.eq_iff_iff.2 ⟨λh=>(vz hu hx).2 (AP hu hx (sj.1 h)),λh=>?_⟩
 rcases Br hu hx ((vz hu hx).1 h)with(k|k)|k
 ·exact sj.2 k
 ·exact absurd (CY hu hf k) h1
 ·exact absurd (CY hx hf k) h2
variable {L:List Pt}
theorem rj (h:eM L=0) {k:Nat} (hk:k<L.length):aj L k≠aj L (gp L.length k):=λe=>by
 obtain⟨hn,_,he⟩:=EI h
 have hj:=G5 (n:=L.length) (k:=gp L.length k) (by omega)
 obtain⟨n1,n2,n3⟩:=Na hn hk
 have:=he k hk (gp L.length (gp L.length k)) hj n2 n3
 rw[<-e]at this
 unfold aA at this
 simp at this
variable {K:List Pt}
theorem FE (hK:eM K=0) (hL:eM L=0) (hf:1<=f):gV K L f=lK K L f:=by
 have e:F5 K L f=F6 K L f:=by
  unfold F5 F6
  refine decide_eq_decide.2 ⟨λh k hk i hi=>?_,λh k hk i hi=>?_⟩
  ·have:=h k hk i hi
   unfold ji at this
   rw[Db (rj hK hk) (rj hL hi) hf]at this
   exact this
  ·have:=h k hk i hi
   unfold zw at this
   rw[<-Db (rj hK hk) (rj hL hi) hf]at this
   exact this
 unfold gV lK A8
 rw[e,yX,yX]
theorem DT {k l:Int}:(decide (cE K k L l f=0)&&gV K L f)=(decide (cE K k L l f=0)&&lK K L f):=by
 by_cases h:cE K k L l f=0
 ·rw[decide_eq_true h,Bool.true_and,Bool.true_and]
  unfold cE at h
  by_cases h1:ct K k≠0
  ·rw[if_pos h1]at h; exact absurd h h1
  rw[if_neg h1]at h
  by_cases h2:ct L l≠0
  ·rw[if_pos h2]at h; exact absurd h h2
  rw[if_neg h2]at h
  by_cases h3:(decide (f<1)||decide (f>2097152))=true
  ·rw[if_pos h3]at h; exact absurd h (by decide)
  simp only[Bool.or_eq_true,decide_eq_true_eq]at h3
  exact FE (cN (Decidable.not_not.1 h1)) (cN (Decidable.not_not.1 h2)) (by omega)
 ·rw[decide_eq_false h,Bool.false_and,Bool.false_and]
end Wx
