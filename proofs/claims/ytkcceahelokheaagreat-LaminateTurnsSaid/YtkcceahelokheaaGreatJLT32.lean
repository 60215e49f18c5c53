import Derived.Test.YtkcceahelokheaaGreatJLT31
namespace Wx
open Go Go.RowKit Go.Proofs
def vS (x y:Rat):Int:=if x<y then -1 else if x=y then 0 else 1
theorem jj (q:Rat):q.num<0↔q<0:=by
 rw[Rat.lt_iff]
 simp
theorem KW (q:Rat):dK q=vS q 0:=by
 unfold dK vS
 by_cases h:q<0
 ·rw[if_pos ((jj q).2 h),if_pos h]
 ·rw[if_neg (λh'=>h ((jj q).1 h')),if_neg h]
variable {x y:Rat}
theorem lN (h:x<y):vS x y = -1:=if_pos h
theorem pz (h:x=y):vS x y=0:=by unfold vS; rw[if_neg (by grind),if_pos h]
theorem lM (h:y<x):vS x y=1:=by unfold vS; rw[if_neg (by grind),if_neg (by grind)]
theorem ZX (x y:Rat):x<y\/x=y\/y<x:=by grind
theorem EM (h:x.num*y.den=y.num*x.den):x=y:=by
 rcases ZX x y with h1|h1|h1
 ·rw[Rat.lt_iff]at h1; omega
 ·exact h1
 ·rw[Rat.lt_iff]at h1; omega
theorem EJ (m n:Nat):(m<n/\bZ m n = -1)\/(m=n/\bZ m n=0)\/(n<m/\bZ m n=1):=by
 unfold bZ
 rcases Nat.lt_trichotomy m n with h|h|h
 ·left; exact⟨h,if_pos h⟩
 ·right; left; exact⟨h,by rw[if_neg (by omega),if_neg (by omega)]⟩
 ·right; right; exact⟨h,by rw[if_neg (by omega),if_pos h]⟩
theorem Rn (x y:Rat):Rm x y=vS x y:=by
 have TK:(0:Int)<x.den:=by have:=x.den_pos; omega
 have Vi:(0:Int)<y.den:=by have:=y.den_pos; omega
 have ax:((x.num.natAbs*y.den:Nat):Int)=(x.num.natAbs:Int)*y.den:=by simp
 have ay:((y.num.natAbs*x.den:Nat):Int)=(y.num.natAbs:Int)*x.den:=by simp
 unfold Rm
 rw[KW,KW]
 rcases ZX x 0 with hx|hx|hx
 ·have nx:x.num<0:=(jj x).2 hx
  have bx':(x.num.natAbs:Int) = -x.num:=by omega
  rw[lN hx]
  rcases ZX y 0 with hy|hy|hy
  ·have ny:y.num<0:=(jj y).2 hy
   have by':(y.num.natAbs:Int) = -y.num:=by omega
   rw[lN hy,if_pos rfl]
   rw[bx',Int.neg_mul]at ax
   rw[by',Int.neg_mul]at ay
   rcases EJ (x.num.natAbs*y.den) (y.num.natAbs*x.den)with⟨h,e⟩|⟨h,e⟩|⟨h,e⟩
   ·rw[e,lM (by rw[Rat.lt_iff]; omega)]; rfl
   ·rw[e,pz (EM (by omega))]; rfl
   ·rw[e,lN (by rw[Rat.lt_iff]; omega)]; rfl
  ·rw[pz hy,if_neg (by omega),if_pos (by omega),lN (by grind)]
  ·rw[lM hy,if_neg (by omega),if_pos (by omega),lN (by grind)]
 ·rw[pz hx]
  rcases ZX y 0 with hy|hy|hy
  ·rw[lN hy,if_neg (by omega),if_neg (by omega),lM (by grind)]
  ·rw[pz hy,if_pos rfl,pz (by grind),Int.mul_zero]
  ·rw[lM hy,if_neg (by omega),if_pos (by omega),lN (by grind)]
 ·have nx:0<x.num:=by
   have h1:=mt (jj x).1 (by grind)
   have h2:x.num≠0:=λh=>by have:=Rat.num_eq_zero.1 h; grind
   omega
  have bx':(x.num.natAbs:Int)=x.num:=by omega
  rw[lM hx]
  rcases ZX y 0 with hy|hy|hy
  ·rw[lN hy,if_neg (by omega),if_neg (by omega),lM (by grind)]
  ·rw[pz hy,if_neg (by omega),if_neg (by omega),lM (by grind)]
  ·have ny:0<y.num:=by
    have h1:=mt (jj y).1 (by grind)
    have h2:y.num≠0:=λh=>by have:=Rat.num_eq_zero.1 h; grind
    omega
   have by':(y.num.natAbs:Int)=y.num:=by omega
   rw[lM hy,if_pos rfl,Int.mul_one]
   rw[bx']at ax
   rw[by']at ay
   rcases EJ (x.num.natAbs*y.den) (y.num.natAbs*x.den)with⟨h,e⟩|⟨h,e⟩|⟨h,e⟩
   ·rw[e,lN (by rw[Rat.lt_iff]; omega)]
   ·rw[e,pz (EM (by omega))]
   ·rw[e,lM (by rw[Rat.lt_iff]; omega)]
end Wx

namespace Wx
open Go Go.RowKit Go.Proofs
theorem XH {x y:Rat} {j k:Nat} (hx:aZ j x) (hy:aZ k y) (h:j+k<=100000000):∀w v1 v2,au x w v1->au y w v2->Calls Tryz.prog 35 #[v1,v2] w (ie (pI (vS x y)) w):=
 λw v1 v2 h1 h2=>(Ro w v1 v2 x y h1 h2 hx hy h).mono λ_ _ h=>by rw[Rn]at h; exact Ab h
end Wx

namespace Wx
open Go Go.RowKit Go.Proofs
variable {j k:Nat} {x y:Rat}
theorem aZ.qx (h:aZ j x) (g:aZ k y):aZ (j+k+1) (x+y):=by
 have a:=h.1.mul g.2
 have b:=g.1.mul h.2
 have d:=h.2.mul g.2
 have hd:=Nat.mul_pos x.den_pos y.den_pos
 have ab:Bd (j+k+1) (x.num.natAbs*y.den+y.num.natAbs*x.den):=by
  unfold Bd at *
  rw[Nat.add_comm k j]at b
  rw[Nat.pow_succ]
  omega
 have d':Bd (j+k+1) (x.den*y.den):=d.mono (by omega)
 by_cases hs:decide (x.num<0)=decide (y.num<0)
 ·rw[add_same x y hs]; exact l5 hd ab d'
 ·by_cases hge:y.num.natAbs*x.den<=x.num.natAbs*y.den
  ·rw[GL x y hs hge]; exact l5 hd (ab.le (by omega)) d'
  ·rw[GM x y hs (by omega)]; exact l5 hd (ab.le (by omega)) d'
theorem aZ.wV (h:aZ j x) (g:aZ k y):aZ (j+k+1) (x-y):=by rw[Rat.sub_eq_add_neg]; exact h.qx g.neg
theorem ie.map {p q:Pred} {w:World} (h:∀w v,p w v->q w v):∀{e:Ending} {w':World},ie p w e w'->ie q w e w':=λ⟨v,e,hp,hb⟩=>⟨v,e,h _ _ hp,hb⟩
variable {x y:Rat} {j k:Nat}
theorem ow (h:j+k<=40000000):∀w v1 v2,pR j x w v1->pR k y w v2->Calls Tryz.prog 17 #[v1,v2] w (ie (pR (j+k+1) (x+y)) w):=λw v1 v2 h1 h2=>(XG h1.1 h2.1 (by omega) w v1 v2 h1.2 h2.2).mono λ_ _=>ie.map (xw (h1.1.qx h2.1))
theorem sA (h:j+k<=40000000):∀w v1 v2,pR j x w v1->pR k y w v2->Calls Tryz.prog 23 #[v1,v2] w (ie (pR (j+k+1) (x-y)) w):=λw v1 v2 h1 h2=>(To h1.1 h2.1 (by omega) w v1 v2 h1.2 h2.2).mono λ_ _=>ie.map (xw (h1.1.wV h2.1))
theorem cg (h:j+k<=100000000):∀w v1 v2,pR j x w v1->pR k y w v2->Calls Tryz.prog 21 #[v1,v2] w (ie (pR (j+k) (x*y)) w):=λw v1 v2 h1 h2=>(Tn h1.1 h2.1 h w v1 v2 h1.2 h2.2).mono λ_ _=>ie.map (xw (h1.1.mul h2.1))
theorem XA (h:j+k<=100000000):∀w v1 v2,pR j x w v1->pR k y w v2->Calls Tryz.prog 22 #[v1,v2] w (ie (cN (pR (j+k) (x/y)) (pI (if y=0 then 3 else 0))) w):=λw v1 v2 h1 h2=>(XI h1.1 h2.1 h w v1 v2 h1.2 h2.2).mono λ_ _=>ie.map λ_ _ ⟨a,b,e,p,q⟩=>⟨a,b,e,⟨h1.1.quo h2.1,p⟩,q⟩
theorem w8 (_:True):∀w v1,pR j x w v1->Calls Tryz.prog 39 #[v1] w (ie (pR j (-x)) w):=λw v1 h1=>(XK x w v1 h1.2).mono λ_ _=>ie.map (xw h1.1.neg)
theorem UA (_:True):∀w v1,pR j x w v1->Calls Tryz.prog 42 #[v1] w (ie (pB (decide (x=0))) w):=λw v1 h1=>G8 x w v1 h1.2
theorem sU (_:True):∀w v1 v2,pR j x w v1->pR k y w v2->Calls Tryz.prog 19 #[v1,v2] w (ie (pB (decide (x=y))) w):=λw v1 v2 h1 h2=>UN x y w v1 v2 h1.2 h2.2
theorem GI (_:True):∀w v1,pR j x w v1->Calls Tryz.prog 81 #[v1] w (ie (pI (dK x)) w):=λw v1 h1=>UO x w v1 h1.2
theorem Xz (h:j+k<=100000000):∀w v1 v2,pR j x w v1->pR k y w v2->Calls Tryz.prog 35 #[v1,v2] w (ie (pI (vS x y)) w):=λw v1 v2 h1 h2=>XH h1.1 h2.1 h w v1 v2 h1.2 h2.2
theorem Rh {z:Int} (h1:-9223372036854775808<=z) (h2:z<=9223372036854775807):aZ 64 (z:Rat):=⟨by unfold Bd; rw[Rat.num_intCast]; omega,by unfold Bd; rw[Rat.den_intCast]; omega⟩
theorem Bt {n:Int} (h:-9223372036854775808<=n/\n<=9223372036854775807):∀w v1,pI n w v1->Calls Tryz.prog 15 #[v1] w (ie (pR 64 (n:Rat)) w):=λw v1 h1=>(XJ n h.1 h.2 w v1 h1).mono λ_ _=>ie.map (xw (Rh h.1 h.2))
theorem UH (h:aZ j x):aZ j (yL x):=by
 unfold yL
 split
 ·exact h.neg
 ·exact h
theorem Xy (_:True):∀w v1,pR j x w v1->Calls Tryz.prog 128 #[v1] w (ie (pR j (yL x)) w):=λw v1 h1=>(Rg w v1 x h1.2).mono λe w' h=>ie.map (xw (UH h1.1)) (show ie (au (yL x)) w e w' from h)
theorem yJ {J:Nat} (hb:aZ J (x+y)) (h:j+k<=40000000):∀w v1 v2,pR j x w v1->pR k y w v2->Calls Tryz.prog 17 #[v1,v2] w (ie (pR J (x+y)) w):=λw v1 v2 h1 h2=>(ow h w v1 v2 h1 h2).mono λ_ _=>ie.map λ_ _ q=>⟨hb,q.2⟩
end Wx

namespace Wx
def vP (m:List Rat):Rat:=m.getD 0 0-m.getD 3 0*m.getD 3 0*m.getD 1 0
def iS (m:List Rat):List Rat:=[m.getD 0 0*m.getD 0 0/vP m,m.getD 0 0*m.getD 1 0/vP m,m.getD 3 0*(m.getD 0 0*m.getD 1 0/vP m),m.getD 2 0]
def cR (p q:Int):List Rat:=[((p*p:Int):Rat)/((p*p+q*q:Int):Rat),((q*q:Int):Rat)/((p*p+q*q:Int):Rat),((p*q:Int):Rat)/((p*p+q*q:Int):Rat)]
abbrev lF:Rat:=((2:Int):Rat)
abbrev BL:Rat:=((4:Int):Rat)
def Rx (c s m:Rat):List Rat:=
  [c*c,s*s,lF*(m*m),BL*(m*m),m*m,m*m,c*c+s*s,-(BL*(m*m)),c*m,-(s*m),-((c-s)*m),-(lF*((c-s)*m)),
   m*m,m*m,c*c+s*s,-(BL*(m*m)),s*s,c*c,lF*(m*m),BL*(m*m),s*m,-(c*m),(c-s)*m,lF*((c-s)*m),
   c*m,-(s*m),-((c-s)*m),-(lF*((c-s)*m)),s*m,-(c*m),(c-s)*m,lF*((c-s)*m),m*m,m*m,-(lF*(m*m)),(c-s)*(c-s)]
def nY (s:List Rat):List Rat:=Rx (s.getD 0 0) (s.getD 1 0) (s.getD 2 0)
def xD (b f:List Rat) (t:Nat):Nat->Rat
  |0=>0
  |j+1=>xD b f t j+b.getD j 0*f.getD (4*t+j) 0
def kP (b f:List Rat):List Rat:=(List.range 9).map λt=>xD b f t 4
def jL (b f:List Rat) (t j:Nat):List Rat:=(List.range 9).map λu=>if u<t then xD b f u 4 else if u=t then xD b f t j else 0
section
variable {b f:List Rat} {t j J K n:Nat}{g:Nat->Rat} {i:Nat}
theorem eM (h:i<n):((List.range n).map g).getD i 0=g i:=AX h
theorem dS:((List.range n).map g).length=n:=by rw[List.length_map,List.length_range]
variable {h:Nat->Rat}
theorem gz (e:∀i,i<n->g i=h i):(List.range n).map g=(List.range n).map h:=List.map_congr_left λi hi=>e i (List.mem_range.1 hi)
theorem yB {x:Rat} (hi:i<n) (e:∀u,u<n->h u=if u=i then x else g u):((List.range n).map g).set i x=(List.range n).map h:=by
  apply List.ext_getElem?
  intro u
  rw[List.getElem?_set]
  by_cases hu:u<n
  · rw[List.getElem?_map,List.getElem?_map,List.getElem?_range hu]
    simp only[Option.map_some]
    rw[e u hu]
    by_cases h2:u=i
    · rw[if_pos h2.symm,if_pos h2,if_pos (by rw[dS]; exact hi)]
    · rw[if_neg (Ne.symm h2),if_neg h2]
  · rw[if_neg (by omega),List.getElem?_eq_none (by rw[dS]; omega),List.getElem?_eq_none (by rw[dS]; omega)]
theorem JA:jL b f 0 0=List.replicate 9 0:=by
  show(List.range 9).map _=_
  rw[show List.replicate 9 (0:Rat)=(List.range 9).map λ_=>0 by rfl]
  exact gz λi _=>by
    rw[if_neg (Nat.not_lt_zero _)]
    split<;>rfl
theorem Jz (ht:t<9):(jL b f t j).set t ((jL b f t j).getD t 0+b.getD j 0*f.getD (4*t+j) 0)=jL b f t (j+1):=by
  unfold jL
  rw[eM ht,if_neg (Nat.lt_irrefl _),if_pos rfl]
  exact yB ht λu _=>by
    by_cases h:u=t
    · rw[if_pos h,if_neg (by omega),if_pos h]; rfl
    · rw[if_neg h,if_neg h,if_neg h]
theorem Jy:jL b f t 4=jL b f (t+1) 0:=gz λu _=>by
  by_cases h:u<t
  · rw[if_pos h,if_pos (by omega)]
  · rw[if_neg h]
    by_cases h2:u=t
    · rw[if_pos h2,if_pos (by omega),h2]
    · rw[if_neg h2,if_neg (by omega)]
      split<;>rfl
theorem Nk:jL b f 9 0=kP b f:=gz λu hu=>by rw[if_pos hu]
theorem QE (ht:t<9):(jL b f t j).getD t 0=xD b f t j:=by unfold jL; rw[eM ht,if_neg (Nat.lt_irrefl _),if_pos rfl]
theorem Nl:(jL b f t j).length=9:=dS
theorem Ox {s:List Rat}:(nY s).length=36:=rfl
theorem jT {m:List Rat}:(iS m).length=4:=rfl
theorem Jk {p q:Int}:(cR p q).length=3:=rfl
theorem nP:(kP b f).length=9:=dS
theorem Eg:aZ 1 (0:Rat):=⟨by show(0:Rat).num.natAbs<2^1; decide,by show(0:Rat).den<2^1; decide⟩
theorem yO (hb:∀i,aZ J (b.getD i 0)) (hf:∀i,aZ K (f.getD i 0)):∀j,aZ (1+j*(J+K+1)) (xD b f t j)
  |0=>by rw[Nat.zero_mul]; exact Eg
  |j+1=>by
    have h:=(yO hb hf j).qx ((hb j).mul (hf (4*t+j)))
    exact h.mono (by rw[Nat.succ_mul]; omega)
end
section
variable {m x:List Rat} {r:Rat} {t:Nat}
end
structure bK where
  gP:Int
  p:Int
  q:Int
  t:Int
def FW:bK:=⟨0,0,0,0⟩
def ai (S:List bK) (i:Nat):bK:=S.getD i FW
def cU (S:List bK):Nat->Int
  |0=>0
  |i+1=>cU S i+(ai S i).t
def ia (S:List bK):Nat->Rat
  |0=>((-(cU S S.length):Int):Rat)/lF
  |i+1=>ia S i+(((ai S i).t:Int):Rat)
def tw (l u:Rat):List Rat:=[u-l,(u*u-l*l)/((2:Int):Rat),(u*u*u-l*l*l)/((3:Int):Rat)]
def su (ms:Nat->List Rat) (S:List bK) (i:Nat):List Rat:=kP (iS (ms (ai S i).gP.toNat)) (nY (cR (ai S i).p (ai S i).q))
def tT (ms:Nat->List Rat) (S:List bK) (n t:Nat):Nat->Rat
  |0=>0
  |i+1=>tT ms S n t i+(su ms S i).getD t 0*(tw (ia S i) (ia S (i+1))).getD n 0
def BM (m:List Rat) (p q:Int):List Rat:=
  [m.getD 4 0*(cR p q).getD 0 0+m.getD 5 0*(cR p q).getD 1 0,m.getD 4 0*(cR p q).getD 1 0+m.getD 5 0*(cR p q).getD 0 0,lF*(m.getD 4 0-m.getD 5 0)*(cR p q).getD 2 0]
def Ar (m v:List Rat) (i:Nat):Nat->Rat
  |0=>0
  |k+1=>Ar m v i k+m.getD (3*i+k) 0*v.getD k 0
def tL (m v:List Rat):List Rat:=(List.range 3).map λi=>Ar m v i 3
def xy (v w:List Rat) (r:Rat):List Rat:=(List.range 3).map λu=>v.getD u 0+w.getD u 0*r
def ZV (ms:Nat->List Rat) (S:List bK) (i:Nat):List Rat:=tL (su ms S i) (BM (ms (ai S i).gP.toNat) (ai S i).p (ai S i).q)
def WD (ms:Nat->List Rat) (S:List bK) (w:Rat) (n t:Nat):Nat->Rat
  |0=>0
  |i+1=>WD ms S w n t i+(ZV ms S i).getD t 0*((tw (ia S i) (ia S (i+1))).getD n 0*w)
def qn (ms:Nat->List Rat) (S:List bK) (w:Rat) (n k:Nat):List Rat:=(List.range 3).map λt=>WD ms S w n t k
def xN (ms:Nat->List Rat) (S:List bK) (k:Nat):List Rat:=(List.range 27).map λu=>tT ms S (u/9) (u%9) k
end Wx

namespace Wx
open Go Go.RowKit Go.Proofs
instance tyC0:rH Tryz.prog 3 false 1:=⟨aY (by kernel_rfl)⟩
instance tyC1:rH Tryz.prog 4 false 1:=⟨aY (by kernel_rfl)⟩
instance tyC2:rH Tryz.prog 2 false 1:=⟨aY (by kernel_rfl)⟩
instance tyC3:rH Tryz.prog 53 false 1:=⟨aY (by kernel_rfl)⟩
instance tyC4:rH Tryz.prog 40 true 3:=⟨aY (by kernel_rfl)⟩
instance tyC5:rH Tryz.prog 46 true 3:=⟨aY (by kernel_rfl)⟩
instance tyC6:rH Tryz.prog 25 true 2:=⟨aY (by kernel_rfl)⟩
instance tyC7:rH Tryz.prog 66 true 2:=⟨aY (by kernel_rfl)⟩
instance tyC9:rH Tryz.prog 68 true 4:=⟨aY (by kernel_rfl)⟩
instance afm:rH Tryz.prog 43 true 9:=⟨aY (by kernel_rfl)⟩
instance afn:rH Tryz.prog 75 true 27:=⟨aY (by kernel_rfl)⟩
instance afo:rH Tryz.prog 52 true 18:=⟨aY (by kernel_rfl)⟩
instance afp:rH Tryz.prog 71 true 18:=⟨aY (by kernel_rfl)⟩
instance afq:rH Tryz.prog 77 true 81:=⟨aY (by kernel_rfl)⟩
instance afr:rH Tryz.prog 97 true 48:=⟨aY (by kernel_rfl)⟩
instance afs:rH Tryz.prog 94 true 6:=⟨aY (by kernel_rfl)⟩
instance afu:rH Tryz.prog 42 true 9:=⟨aY (by kernel_rfl)⟩
instance afv:rH Tryz.prog 182 true 12:=⟨aY (by kernel_rfl)⟩
instance afw:rH Tryz.prog 95 true 15:=⟨aY (by kernel_rfl)⟩
instance afx:rH Tryz.prog 186 true 9:=⟨aY (by kernel_rfl)⟩
instance afy:rH Tryz.prog 48 true 9:=⟨aY (by kernel_rfl)⟩
instance afz:rH Tryz.prog 145 true 48:=⟨aY (by kernel_rfl)⟩
instance afA:rH Tryz.prog 142 true 6:=⟨aY (by kernel_rfl)⟩
instance afB:rH Tryz.prog 47 true 9:=⟨aY (by kernel_rfl)⟩
instance afC:rH Tryz.prog 143 true 15:=⟨aY (by kernel_rfl)⟩
instance afD:rH Tryz.prog 112 true 4:=⟨aY (by kernel_rfl)⟩
instance afE:rH Tryz.prog 111 true 8:=⟨aY (by kernel_rfl)⟩
instance afF:rH Tryz.prog 113 true 10:=⟨aY (by kernel_rfl)⟩
end Wx

namespace Wx
set_option maxRecDepth 100000
set_option maxHeartbeats 1000000
open Go Go.RowKit Go.Proofs
set_option linter.unusedVariables false
attribute [local irreducible] OpOk
theorem gT {n:Int} (h:-9223372036854775808<=n/\n<=9223372036854775807):K1 Tryz.prog 84 (pI n) (pR 64 (n:Rat)):=by
 intro M w0 v0 hM hv0
 refine om (N:=5) Tryz.func84 rfl rfl rfl hM hv0 λa hI=>?_
 refine bf hI 1 [⟨2,2,some 0,none,.ptr,40,3,true,pv _,[]⟩] [] [] .z (.k .z) ⟨fB [.r],trivial⟩ (.k .z) (.k .z) λa w hI=>?_
 refine bf hI 3 [] [] [Uc 0 3 _,Uc 1 4 _] (.u none [(2,pv _)] .z) (.k .z) ⟨mv,qi Bt,dM,trivial⟩ (.s .o .z) (.qy .z) λa w hI=>?_
 refine aL ?_
 exact ck hI rfl r7
variable {j:Nat}
theorem mD {x y:Rat} {k:Nat} (h:j+k<=100000000):K2 Tryz.prog 127 (pR j x) (pR k y) (pR (j+k) (x/y)):=by
 intro M w0 v0 v1 hM hv0 eI
 refine rG (N:=14) Tryz.func127 rfl rfl rfl hM hv0 eI λa hI=>?_
 refine bf hI 3 [⟨2,2,some 0,none,.ptr,40,3,true,pv _,[]⟩,⟨3,3,some 1,none,.ptr,40,3,true,pv _,[]⟩,⟨4,4,some 2,none,.ptr,40,3,true,pv _,[]⟩] [] [] .z (.kk .z) ⟨bo,bo,fB [.r],trivial⟩ (.k (.k (.k .z))) (.dd .z) λa w hI=>?_
 refine bf hI 9 [⟨5,5,some 6,none,.ptr,40,3,true,pv _,[(7,pv _)]⟩] [] [Uc 0 8 _,Uc 1 9 _,Uc 2 10 _,Uc 3 7 _,Uc 4 11 _,Uc 5 12 _,Uc 8 6 _] (.k (.k (.k .z))) .z ⟨ld,ld,fZ XA,mv,ext,ext,fB [.r],dM,mv,trivial⟩ (.d (.d (.k (.s .o .z)))) (.bh (.qy .z)) λa w hI=>?_
 refine bf hI 2 [] [] [Uc 0 13 _] (.u none [(1,pv _)] (.k .z)) .z ⟨ld,dM,trivial⟩ (.s .o (.d .z)) (.d .z) λa w hI=>?_
 refine aL ?_
 exact ck hI rfl r7
theorem BZ {l u:Rat} (h:j<=1000000):K1 Tryz.prog 108 (pS [⟨true,3,pR j l⟩,⟨true,3,pR j u⟩]) (pV au (6*j+68) (tw l u)):=by
 intro M w0 v0 hM hv0
 refine om (N:=39) Tryz.func108 rfl rfl rfl hM hv0 λa hI=>?_
 refine bf hI 2 [⟨1,1,some 0,none,.ptr,94,6,true,pv _,[]⟩,⟨2,2,some 1,none,.ptr,42,9,true,pv _,[]⟩] [] [] .z (.k .z) ⟨bo,fB [.r,.r,.r],trivial⟩ (.k (.k .z)) (.d .z) λa w hI=>?_
 refine mR hI [0,1,0,4,0,0,51,127] [⟨3,3,some 4,none,.ptr,40,3,true,pv _,[(6,pv _)]⟩,⟨4,4,some 5,none,.ptr,40,3,true,pv _,[(7,pv _)]⟩] [⟨some 0,7,1,0,True⟩,⟨some 2,9,1,3,True⟩] [Uc 1 8 _,Uc 3 10 _] (.k (.k .z)) .z ⟨fa,ld,fa,ld,fB [.r],fB [.r],dM,dM,trivial⟩ (.d (.k (.s .o (.s .o .z)))) (.dd .z) λa w hI=>?_
 refine mR hI [0,0,3,0,0,31,63,0,255] [⟨5,5,some 7,none,.ptr,40,3,true,pv _,[(8,pv _)]⟩] [] [Uc 0 11 _,Uc 1 12 _,Uc 2 13 _,Uc 3 14 _,Uc 4 15 _,Uc 5 16 _,Uc 6 17 _] (.k (.k (.k .z))) .z ⟨ld,ld,fZ cg,ld,ld,fZ cg,fZ sA,fB [.r],dM,trivial⟩ (.k (.k (.k (.s .o .z)))) (.bh (.qy .z)) λa w hI=>?_
 refine mR hI [0,0,3,0,15,0,0,127,0,511,1023,0,4095] [⟨6,6,some 11,none,.ptr,40,3,true,pv _,[(12,pv _)]⟩] [] [Uc 0 18 _,Uc 1 19 _,Uc 2 20 _,Uc 3 21 _,Uc 4 22 _,Uc 5 23 _,Uc 6 24 _,Uc 7 25 _,Uc 8 26 _,Uc 9 27 _,Uc 10 28 _] (.k (.k (.k (.k .z)))) .z ⟨ld,ld,fZ cg,ld,fZ cg,ld,ld,fZ cg,ld,fZ cg,fZ sA,fB [.r],dM,trivial⟩ (.k (.k (.k (.k (.s .o .z))))) (.d8 (.qy .z)) λa w hI=>?_
 refine mR hI [0,0,3,0,7,31,0,63,255,511,1023] [] [] [Uc 0 29 _,Uc 1 30 _,Uc 2 31 _,Uc 3 32 _,Uc 4 33 _,Uc 5 34 _,Uc 6 35 _,Uc 7 36 _,Uc 8 37 _,Uc 9 38 _] (.u none [(10,pv _)] (.k (.k (.k (.k .z))))) .z ⟨ld,ld,fZ sA,ld,mS gT,pq mD,ld,mS gT,pq mD,GR 3 [.o .r,.o .r,.o .r] [(0,_),(1,_),(2,_)],dM,trivial⟩ (.s .o (.d (.d (.d (.d .z))))) (.d8 (.dd .z)) λa w hI=>?_
 refine aL ?_
 exact ck hI rfl r7
theorem wk {p q:Int} (h:-1048576<=p/\p<=1048576 /\ -1048576<=q/\q<=1048576):K1 Tryz.prog 96 (pS [⟨false,1,pI p⟩,⟨false,1,pI q⟩]) (pV au 128 (cR p q)):=by
 intro M w0 v0 hM hv0
 have m1:=n9 1048576 h.1 h.2.1 h.1 h.2.1
 have m2:=n9 1048576 h.2.2.1 h.2.2.2 h.2.2.1 h.2.2.2
 have m3:=n9 1048576 h.1 h.2.1 h.2.2.1 h.2.2.2
 refine om (N:=41) Tryz.func96 rfl rfl rfl hM hv0 λa hI=>?_
 refine bf hI 2 [⟨1,1,some 0,none,.ptr,66,2,true,pv _,[]⟩,⟨2,2,some 1,none,.ptr,186,9,true,pv _,[]⟩] [] [] .z (.k .z) ⟨bo,fB [.r,.r,.r],trivial⟩ (.k (.k .z)) (.d .z) λa w hI=>?_
 refine bf hI 14 [⟨3,3,some 12,none,.ptr,40,3,true,pv _,[(13,pv _)]⟩] [⟨some 0,4,1,0,True⟩,⟨some 2,6,1,0,True⟩,⟨some 5,9,1,1,True⟩,⟨some 7,11,1,1,True⟩] [Uc 1 5 _,Uc 3 7 _,Uc 4 8 _,Uc 6 10 _,Uc 8 12 _,Uc 9 13 _,Uc 10 14 _,Uc 11 15 _] (.k (.k .z)) .z ⟨fa,ld,fa,ld,bn,fa,ld,fa,ld,bn,bn,mS gT,fB [.r],dM,trivial⟩ (.k (.k (.s .o .z))) (.d8 .z) λa w hI=>?_
 refine mR hI [0,1,0,4,15,31,0,127,0,256,0,1024,3840,8191,0,32767,0,65536,0,262144,983040,2097151,0,8388607,16777215,33554431] [] [⟨some 0,16,1,0,True⟩,⟨some 2,18,1,0,True⟩,⟨some 8,24,1,1,True⟩,⟨some 10,26,1,1,True⟩,⟨some 16,32,1,0,True⟩,⟨some 18,34,1,1,True⟩] [Uc 1 17 _,Uc 3 19 _,Uc 4 20 _,Uc 5 21 _,Uc 6 22 _,Uc 7 23 _,Uc 9 25 _,Uc 11 27 _,Uc 12 28 _,Uc 13 29 _,Uc 14 30 _,Uc 15 31 _,Uc 17 33 _,Uc 19 35 _,Uc 20 36 _,Uc 21 37 _,Uc 22 38 _,Uc 23 39 _,Uc 24 40 _] (.k (.u none [(25,pv _)] (.k .z))) .z ⟨fa,ld,fa,ld,bn,mS gT,ld,pq mD,fa,ld,fa,ld,bn,mS gT,ld,pq mD,fa,ld,fa,ld,bn,mS gT,ld,pq mD,bd [.o .r,.o .r,.o .r] [(0,_),(1,_),(2,_)],dM,trivial⟩ (.d (.s .o (.d .z))) (.d8 (.d8 (.qy .z))) λa w hI=>?_
 refine aL ?_
 exact ck hI rfl r7
end Wx

namespace Wx
set_option maxRecDepth 100000
set_option maxHeartbeats 1000000
open Go Go.RowKit Go.Proofs
set_option linter.unusedVariables false
attribute [local irreducible] OpOk
def Oy (x:Int):Bool:=decide (x < -1048576)||decide (x>1048576)
def fM (p q:Int):Bool:=((!Oy p)&&(!Oy q))&&(decide (p≠0)||decide (q≠0))
def I3 (p q t:Int):Int:=if((!fM p q)||decide (t<1))||decide (t>10000)then 1 else 0
theorem T4 {x:Int} (_:True):K1 Tryz.prog 126 (pI x) (pB (Oy x)):=by
 intro M w0 v0 hM hv0
 refine om (N:=9) Tryz.func126 rfl rfl rfl hM hv0 λa hI=>?_
 refine bM hI 1 [Uc 0 2 _] (.k .z) ⟨mv,trivial⟩ (.kk .z) λa w hI=>?_
 refine bM hI 7 [Uc 0 3 _,Uc 1 4 _,Uc 2 5 _,Uc 3 6 _,Uc 4 7 _,Uc 5 8 _,Uc 6 2 _] (.k (.t 6 .z)) ⟨mv,bn,mv,gd λh=>yf h,gd λh=>ya h,pk,mv,trivial⟩ (.d8 (.k .z)) λa w hI=>?_
 refine aL ?_
 exact ck hI rfl iu
variable {p q:Int}
theorem yo (_:True):K1 Tryz.prog 75 (pS [⟨false,1,pI p⟩,⟨false,1,pI q⟩]) (pB (fM p q)):=by
 intro M w0 v0 hM hv0
 refine om (N:=26) Tryz.func75 rfl rfl rfl hM hv0 λa hI=>?_
 refine bf hI 2 [⟨1,1,some 0,none,.ptr,66,2,true,pv _,[]⟩] [] [Uc 1 2 _] .z (.k .z) ⟨bo,mv,trivial⟩ (.k .z) (.dk .z) λa w hI=>?_
 refine bf hI 1 [] [] [Uc 0 3 _] (.k .z) (.k .z) ⟨mv,trivial⟩ (.k .z) (.kk .z) λa w hI=>?_
 refine bf hI 23 [] [⟨some 1,5,1,0,True⟩,⟨some 7,11,1,1,_⟩,⟨some 13,17,1,0,_⟩,⟨some 17,21,1,1,_⟩] [Uc 0 4 _,Uc 2 6 _,Uc 3 7 _,Uc 4 8 _,Uc 5 9 _,Uc 6 10 _,Uc 8 12 _,Uc 9 13 _,Uc 10 14 _,Uc 11 15 _,Uc 12 16 _,Uc 14 18 _,Uc 15 19 _,Uc 16 20 _,Uc 18 22 _,Uc 19 23 _,Uc 20 24 _,Uc 21 25 _,Uc 22 2 _] (.k .z) (.t 22 (.k .z)) ⟨mv,fa,ld,XP T4,nt,mv,gd λh=>yf h,gd λh=>mZ h,gd λh=>Fa h,gd λh=>U6 h T4,gd λh=>RF h,pk,mv,gd λh=>mZ h,gd λh=>Fa h,gd λh=>ya h,gd λh=>yf h,TC λh=>mZ h,TC λh=>Fa h,TC λh=>ya h,gd λh=>gpk h,pk,mv,trivial⟩ (.d .z) (.d8 (.d8 (.bh (.k .z)))) λa w hI=>?_
 refine aL ?_
 exact ck hI rfl iu
theorem zD {m t:Int} (_:True):K1 Tryz.prog 125 (pS [⟨false,1,pI m⟩,⟨false,1,pI p⟩,⟨false,1,pI q⟩,⟨false,1,pI t⟩]) (pI (I3 p q t)):=by
 intro M w0 v0 hM hv0
 refine om (N:=17) Tryz.func125 rfl rfl rfl hM hv0 λa hI=>?_
 refine bf hI 2 [⟨1,1,some 0,none,.ptr,68,4,true,pv _,[]⟩] [] [Uc 1 2 _] .z (.k .z) ⟨bo,mv,trivial⟩ (.k .z) (.dk .z) λa w hI=>?_
 refine az ?_
 refine bf hI 14 [] [⟨some 0,3,1,1,True⟩,⟨some 5,8,1,3,_⟩,⟨some 10,13,1,3,_⟩] [Uc 1 4 _,Uc 2 5 _,Uc 3 6 _,Uc 4 7 _,Uc 6 9 _,Uc 7 10 _,Uc 8 11 _,Uc 9 12 _,Uc 11 14 _,Uc 12 15 _,Uc 13 16 _] (.k .z) (.k .z) ⟨fa,ld,mS yo,nt,mv,gd λh=>mZ h,gd λh=>Fa h,gd λh=>ya h,pk,mv,gd λh=>mZ h,gd λh=>Fa h,gd λh=>ya h,pk,trivial⟩ (.d .z) (.dx (.bh (.dw .z))) λa w hI=>?_
 refine Cy hI (λt1=>?_) (λt1=>?_)
 ·
  refine bM hI 1 [Uc 0 2 _] (.t 0 (.k .z)) ⟨mv,trivial⟩ (.lQ .z) λa w hI=>?_
  refine aL ?_
  refine aB ?_
  exact ck hI rfl (iu (hq:=bk (by unfold I3; rw[if_pos t1])))
 ·
  refine aJ ?_
  refine ae ?_
  refine bM hI 1 [Uc 0 2 _] (.t 0 (.k .z)) ⟨mv,trivial⟩ (.lQ .z) λa w hI=>?_
  refine aL ?_
  exact ck hI rfl (iu (hq:=bk (by unfold I3; rw[if_neg (by rw[t1]; exact Bool.false_ne_true)])))
def cP (x:bK):Pred:=pS [⟨false,1,pI x.gP⟩,⟨false,1,pI x.p⟩,⟨false,1,pI x.q⟩,⟨false,1,pI x.t⟩]
structure GH (S:List bK):Prop where
 len:S.length<=1000
 pos:∀i,0<=(ai S i).t/\(ai S i).t<=10000
variable {S:List bK}
theorem GH.sum (h:GH S):∀i:Nat,0<=cU S i/\cU S i<=10000*(i:Int)
 |0=>⟨Int.le_refl _,Int.le_refl _⟩
 |i+1=>by
  have h1:=h.sum i
  have h2:=h.pos i
  show 0<=cU S i+(ai S i).t/\cU S i+(ai S i).t<=_
  omega
theorem Fo (h:GH S):K1 Tryz.prog 140 (aA 4 true S.length λi=>cP (ai S i)) (pI (cU S S.length)):=by
 intro M w0 v0 hM hv0
 have hl:=h.len
 refine om (N:=18) Tryz.func140 rfl rfl rfl hM hv0 λa hI=>?_
 refine bM hI 1 [Uc 0 2 _] (.k .z) ⟨mv,trivial⟩ (.kk .z) λa w hI=>?_
 refine bM hI 1 [Uc 0 3 _] (.kk .z) ⟨mv,trivial⟩ (.bS .z) λa w hI=>?_
 refine az ?_
 refine bM hI 3 [Uc 0 6 _,Uc 1 7 _,Uc 2 8 _] (.bS .z) ⟨mv,ln,mv,trivial⟩ (.mw (.kk .z)) λa w hI=>?_
 refine aC ?_
 refine tN [] [Uz 2 _,Uz 6 _,Uz 7 _] (λ(i:Nat)=>[]) (λ(i:Nat)=>[Uz 8 (pI (i:Int)),Uz 3 (pI (cU S i))]) (λ(i:Nat)=>i<=S.length) (λ(i:Nat)=>S.length-i) (0) (Nat.zero_le _) hI trivial ⟨gi,gi,gi,gc,gc,trivial⟩ ?_
 intro i a w hi hI
 refine bM hI 1 [Uc 0 9 _] (.ah (.k .z)) ⟨bn,trivial⟩ (.ah (.kk .z)) λa w hI=>?_
 refine az ?_
 refine mj hI (λt1=>?_) (λt1=>?_)
 ·
  refine aJ ?_
  refine ae ?_
  refine az ?_
  refine aC ?_
  have k1:=h.sum i
  have k2:=h.pos i
  refine bf hI 4 [⟨5,5,some 2,none,.ptr,68,4,true,pv _,[(3,pv _)]⟩] [] [Uc 0 10 _,Uc 1 11 _] .z (.ah (.kk .z)) ⟨ix,ld,fB [.i,.i,.i,.i],dM,trivial⟩ (.s .o .z) (.ah (.dx .z)) λa w hI=>?_
  refine qq hI 5 [] [⟨some 1,13,5,3,True⟩] [Uc 0 12 _,Uc 2 14 _,Uc 3 15 _,Uc 4 3 _] (.k .z) (.ah (.t 4 .z)) ⟨mv,fa,ld,bn,mv,trivial⟩ (.d .z) (.ah (.bh (.k .z))) λa w hI=>?_
  refine aG ?_
  refine ae ?_
  refine Ed hI 2 [Uc 0 16 _,Uc 1 8 _] (.bS (.t 1 (.k .z))) ⟨bn,mv,trivial⟩ (.cA (.L8 .z)) λa w hI=>?_
  refine ae ?_
  exact qR (i+1) (by omega) hI trivial ⟨gc,gc,gc,gc,gc,trivial⟩ (by omega)
 ·
  refine bO ?_
  refine ak ?_
  refine ak ?_
  refine aH ?_
  refine ae ?_
  obtain rfl:i=S.length:=by omega
  refine bM hI 2 [Uc 0 17 _,Uc 1 2 _] (.t 1 (.ah (.k .z))) ⟨mv,mv,trivial⟩ (.bh (.dw .z)) λa w hI=>?_
  refine aL ?_
  exact ck hI rfl iu
def lZ (x:bK):Int:=I3 x.p x.q x.t
def pF:List bK->Int
 |[]=>0
 |x::S=>if lZ x=0 then pF S else lZ x
theorem tf:∀{S:List bK},(∀q,q<S.length->lZ (ai S q)=0)->pF S=0
 |[],_=>rfl
 |x::S,h=>by
  show(if lZ x=0 then pF S else lZ x)=0
  rw[if_pos (show lZ x=0 from h 0 (by rw[List.length_cons]; omega))]
  exact tf λq hq=>h (q+1) (by rw[List.length_cons]; omega)
theorem BJ:∀{S:List bK} {i:Nat},i<S.length->(∀q,q<i->lZ (ai S q)=0)->lZ (ai S i)≠0->pF S=lZ (ai S i)
 |[],_,h,_,_=>absurd h (Nat.not_lt_zero _)
 |x::S,0,_,_,hn=>by
  show(if lZ x=0 then pF S else lZ x)=lZ x
  rw[if_neg (show ¬lZ x=0 from hn)]
 |x::S,i+1,hi,h,hn=>by
  show(if lZ x=0 then pF S else lZ x)=lZ (ai S i)
  rw[if_pos (show lZ x=0 from h 0 (by omega))]
  exact BJ (by rw[List.length_cons]at hi; omega) (λq hq=>h (q+1) (by omega)) hn
def kB (S:List bK):Int:=if decide ((S.length:Int)<1)||decide ((S.length:Int)>64)then 4 else pF S
theorem Dt (_:True):K1 Tryz.prog 74 (aA 4 true S.length λi=>cP (ai S i)) (pI (kB S)):=by
 intro M w0 v0 hM hv0
 refine om (N:=26) Tryz.func74 rfl rfl rfl hM hv0 λa hI=>?_
 refine bM hI 1 [Uc 0 2 _] (.k .z) ⟨mv,trivial⟩ (.kk .z) λa w hI=>?_
 refine az ?_
 refine bM hI 8 [Uc 0 6 _,Uc 1 7 _,Uc 2 8 _,Uc 3 9 _,Uc 4 10 _,Uc 5 11 _,Uc 6 12 _,Uc 7 13 _] (.kk .z) ⟨mv,ln,bn,mv,gd λh=>yf h,gd λh=>W4 h,gd λh=>ya h,pk,trivial⟩ (.dI (.bh (.dk .z))) λa w hI=>?_
 refine Cy hI (λt1=>?_) (λt1=>?_)
 ·
  refine bM hI 1 [Uc 0 2 _] (.k (.t 0 (.k .z))) ⟨mv,trivial⟩ (.nh .z) λa w hI=>?_
  refine aL ?_
  refine aB ?_
  exact ck hI rfl (iu (hq:=bk (by unfold kB; rw[if_pos t1])))
 ·
  have hl:S.length<=64:=by
   have k1:=of_decide_eq_false (Bool.or_eq_false_iff.1 t1).2
   omega
  refine aJ ?_
  refine ae ?_
  refine az ?_
  refine bM hI 3 [Uc 0 14 _,Uc 1 15 _,Uc 2 16 _] (.bS .z) ⟨mv,ln,mv,trivial⟩ (.abm (.kk .z)) λa w hI=>?_
  refine aC ?_
  refine tN [] [Uz 14 _,Uz 15 _] (λ(i:Nat)=>[]) (λ(i:Nat)=>[Uz 16 (pI (i:Int))]) (λ(i:Nat)=>i<=S.length/\∀q,q<i->lZ (ai S q)=0) (λ(i:Nat)=>S.length-i) (0) ⟨Nat.zero_le _,λ_ h=>absurd h (Nat.not_lt_zero _)⟩ hI trivial ⟨gi,gi,gc,trivial⟩ ?_
  intro i a w hi hI
  refine bM hI 1 [Uc 0 17 _] (.bS .z) ⟨bn,trivial⟩ (.ah .z) λa w hI=>?_
  refine az ?_
  refine mj hI (λt2=>?_) (λt2=>?_)
  ·
   refine aJ ?_
   refine ae ?_
   refine az ?_
   refine aC ?_
   refine bf hI 4 [⟨4,4,some 2,none,.ptr,68,4,true,pv _,[(3,pv _)]⟩] [] [Uc 0 18 _,Uc 1 19 _] .z (.ah .z) ⟨ix,ld,fB [.i,.i,.i,.i],dM,trivial⟩ (.s .o .z) (.cA (.dd .z)) λa w hI=>?_
   refine bf hI 3 [] [] [Uc 0 20 _,Uc 1 21 _,Uc 2 5 _] (.k .z) (.bS .z) ⟨ld,mS zD,mv,trivial⟩ (.d .z) (.cA (.dk .z)) λa w hI=>?_
   refine bM hI 2 [Uc 0 22 _,Uc 1 23 _] (.ah .z) ⟨mv,bn,trivial⟩ (.ah (.dk .z)) λa w hI=>?_
   refine mj hI (λt3=>?_) (λt3=>?_)
   ·
    refine bM hI 2 [Uc 0 24 _,Uc 1 2 _] (.ah (.k .z)) ⟨mv,mv,trivial⟩ (.cA (.lQ .z)) λa w hI=>?_
    refine aL ?_
    refine bj ?_
    refine aB ?_
    refine aB ?_
    refine bj ?_
    refine aB ?_
    exact ck hI rfl (iu (hq:=bk (by unfold kB; rw[if_neg (by rw[t1]; exact Bool.false_ne_true)]; exact(BJ (by omega) hi.2 t3).symm)))
   ·
    refine aJ ?_
    refine aG ?_
    refine ae ?_
    refine Ed hI 2 [Uc 0 25 _,Uc 1 16 _] (.kk (.t 1 (.kk .z))) ⟨bn,mv,trivial⟩ (.dI (.lQ .z)) λa w hI=>?_
    refine ae ?_
    exact qR (i+1) ⟨by omega,λq hq=>if e:q=i then by rw[e]; exact Decidable.not_not.1 t3 else hi.2 q (by omega)⟩ hI trivial ⟨gc,gc,gc,trivial⟩ (by omega)
  ·
   refine bO ?_
   refine ak ?_
   refine ak ?_
   refine aH ?_
   refine ae ?_
   refine bM hI 1 [Uc 0 2 _] (.ah .z) ⟨mv,trivial⟩ (.bh (.k .z)) λa w hI=>?_
   refine aL ?_
   exact ck hI rfl (iu (hq:=bk (by unfold kB; rw[if_neg (by rw[t1]; exact Bool.false_ne_true),tf λq hq=>hi.2 q (by omega)])))
end Wx
