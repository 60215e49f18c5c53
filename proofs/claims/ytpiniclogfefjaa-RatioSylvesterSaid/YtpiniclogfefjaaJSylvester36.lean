import Derived.Test.YtpiniclogfefjaaJSylvester35
import Derived.Test.YtpiniclogfefjaaJSylvester34
namespace Wx

section
variable {X:List (List Rat)} {n c k:Nat}
theorem redAt_ent {x y:List Rat} {f:Rat} {m q:Nat} (h1:q<x.length) (h2:q<m):(Xz x 0 y 0 f m).getD q 0=x.getD q 0-f*y.getD q 0:=by
 unfold Xz
 rw[Q8,List.getElem?_mapIdx,List.getElem?_eq_getElem h1,Q8 x,List.getElem?_eq_getElem h1]
 show(if 0≤q∧q<0+m then x[q]-f*y.getD (0+(q-0)) 0 else x[q])=_
 rw[if_pos (by omega),show 0+(q-0)=q by omega]
 rfl
theorem redD_ent {x y:List Rat} {q:Nat} (h1:q<x.length) (h2:q<y.length):(redD x y c).getD q 0=x.getD q 0 + -(x.getD c 0/y.getD c 0)*y.getD q 0:=by
 unfold redD
 split
 ·rename_i h
  rw[h]
  grind
 ·rw[redAt_ent h1 h2]
  grind
theorem elimD_row (hl:X.length=n) (hr:Rect n X) (hc:c<n) (hk:k<n) (hck:c<k):∀r q,r<n→q<n→ent (elimD X c (k+1)) r q=Xg (ent (elimD X c k)) k (fun q=>ent (elimD X c k) k q + -(ent X k c/ent X c c)*ent (elimD X c k) c q) r q:=by
 intro r q hrn hq
 unfold Xg
 by_cases h:r=k
 ·subst h
  rw[if_pos rfl]
  unfold ent
  rw[Jm (by omega),if_pos (by omega),elimD_at (by omega) (Nat.le_refl _),elimD_own (by omega),redD_ent (by rw[hr _ (by omega)]; exact hq) (by rw[hr _ (by omega)]; exact hq)]
 ·rw[if_neg h]
  unfold ent
  rw[Jm (by omega),Jm (by omega)]
  by_cases h1:c<r∧r<k
  ·rw[if_pos (by omega),if_pos h1]
  ·rw[if_neg (by omega),if_neg h1]
theorem det_elimD (hl:X.length=n) (hr:Rect n X) (hc:c<n) (B:Q4):∀k,k≤n→c<k→det n (ent (elimD X c k))=det n (ent X)∧det n (Yh n (ent (elimD X c k)) B)=det n (Yh n (ent X) B):=by
 intro k hk hck
 induction k with
 |zero=>omega
 |succ k ih=>
  by_cases h:c=k
  ·subst h
   rw[Qeq]
   exact⟨rfl,rfl⟩
  ·obtain⟨h1,h2⟩:=ih (by omega) (by omega)
   have e:=elimD_row hl hr hc (show k<n by omega) (by omega)
   refine⟨?_,?_⟩
   ·rw[X9 e,Vl (by omega) hc (fun e=>h e.symm),h1]
   ·rw[X9 (Qda e),mul_rowadd (by omega) hc (fun e=>h e.symm),h2]
theorem swap_row {a b:Nat} (hl:X.length=n) (ha:a<n) (hb:b<n):∀r q,ent (Yt X a b) r q=Xg (Xg (ent X) a (ent X b)) b (ent X a) r q:=by
 intro r q
 have hx:X[a]?=some (X.getD a []):=by rw[Q8,List.getElem?_eq_getElem (by omega)]; rfl
 have hy:X[b]?=some (X.getD b []):=by rw[Q8,List.getElem?_eq_getElem (by omega)]; rfl
 have h:=Ku hx hy r
 unfold Xg ent
 rw[Q8 (Yt X a b),h]
 by_cases h1:r=b
 ·rw[if_pos h1,if_pos h1]; rfl
 ·rw[if_neg h1,if_neg h1]
  by_cases h2:r=a
  ·rw[if_pos h2,if_pos h2]; rfl
  ·rw[if_neg h2,if_neg h2,Q8 X]
def sg1 (X:List (List Rat)) (c:Nat):Rat:=if Xh X c>0 then -1 else 1
theorem det_pivL (hl:X.length=n) (hc:c<n) (B:Q4):det n (ent X)=sg1 X c*det n (ent (Yq X X c))∧det n (Yh n (ent X) B)=sg1 X c*det n (Yh n (ent (Yq X X c)) B):=by
 unfold sg1
 have hr:=Wj (X:=X) (c:=c) (by omega)
 by_cases h:Xh X c>0
 ·rw[if_pos h]
  have e:Yq X X c=Yt X c (c+(Xh X c).toNat):=by unfold Yq; rw[if_neg (by omega)]
  have hs:=swap_row (a:=c) (b:=c+(Xh X c).toNat) hl hc (by omega)
  rw[e]
  refine⟨?_,?_⟩
  ·rw[X9 fun r q _ _=>hs r q,det_swap hc (by omega) (by omega)]
   grind
  ·rw[X9 (Qda fun r q _ _=>hs r q),mul_swap hc (by omega) (by omega)]
   grind
 ·rw[if_neg h]
  have e:Yq X X c=X:=by
   unfold Yq
   split
   ·rfl
   ·have h0:(Xh X c).toNat=0:=by omega
    rw[h0,Nat.add_zero]
    have hx:X[c]?=some (X.getD c []):=by rw[Q8,List.getElem?_eq_getElem (by omega)]; rfl
    rw[Qdo hx hx]
    apply List.ext_getElem?
    intro i
    by_cases hi:i=c
    ·subst hi
     rw[List.getElem?_set_self (by rw[List.length_set]; omega),hx]
    ·rw[List.getElem?_set_ne (Ne.symm hi),List.getElem?_set_ne (Ne.symm hi)]
  rw[e]
  exact⟨(Rat.one_mul _).symm,(Rat.one_mul _).symm⟩
theorem pivL_above (hl:X.length=n) (hc:c<n) {r:Nat} (h:r<c):(Yq X X c).getD r []=X.getD r []:=by
 have hr:=Wj (X:=X) (c:=c) (by omega)
 unfold Yq
 split
 ·rfl
 ·have hx:X[c]?=some (X.getD c []):=by rw[Q8,List.getElem?_eq_getElem (by omega)]; rfl
  have hb:c+(Xh X c).toNat<X.length:=by omega
  have hy:X[c+(Xh X c).toNat]?=some (X.getD (c+(Xh X c).toNat) []):=by rw[Q8,List.getElem?_eq_getElem hb]; rfl
  rw[Q8 (Yt _ _ _),Ku hx hy,if_neg (by omega),if_neg (by omega),Q8]
theorem pivL_below (hl:X.length=n) (hc:c<n) {r:Nat} (h:c≤r) (hrn:r<n):∃q,c≤q∧q<n∧(Yq X X c).getD r []=X.getD q []:=by
 have hr:=Wj (X:=X) (c:=c) (by omega)
 unfold Yq
 split
 ·exact⟨r,h,hrn,rfl⟩
 ·have hx:X[c]?=some (X.getD c []):=by rw[Q8,List.getElem?_eq_getElem (by omega)]; rfl
  have hb:c+(Xh X c).toNat<X.length:=by omega
  have hy:X[c+(Xh X c).toNat]?=some (X.getD (c+(Xh X c).toNat) []):=by rw[Q8,List.getElem?_eq_getElem hb]; rfl
  rw[Q8 (Yt _ _ _),Ku hx hy]
  split
  ·exact⟨c,Nat.le_refl _,hc,rfl⟩
  ·split
   ·exact⟨_,by omega,by omega,rfl⟩
   ·exact⟨r,h,hrn,by rw[Q8]⟩
theorem firstI_none {p:Nat→Bool} {n:Nat} (h:Z1 p n<0):∀j,j<n→p j=false:=by
 intro j hj
 unfold Z1 at h
 split at h
 ·rename_i i hi
  omega
 ·rename_i hi
  have:=List.find?_eq_none.1 hi j (List.mem_range.2 hj)
  simpa using this
theorem piv_none (hl:X.length=n) (h:Xh X c<0):∀r,c≤r→r<n→ent X r c=0:=by
 intro r h1 h2
 have:=firstI_none (p:=fun i=>!(decide ((X.getD (c+i) []).getD c 0=0))) h (r-c) (by omega)
 have this:(!(decide ((X.getD (c+(r-c)) []).getD c 0=0)))=false:=this
 rw[show c+(r-c)=r by omega]at this
 unfold ent
 simpa using this
end
structure DetInv (X:List (List Rat)) (n k:Nat):Prop where
 zero:∀r q,q<k→q<r→r<n→ent (dX X k) r q=0
 diag:∀q,q<k→ent (dX X k) q q≠0
 sign:∃s:Rat,s≠0∧dD X k=s*Jw k (fun q=>ent (dX X k) q q)∧det n (ent X)=s*det n (ent (dX X k))∧∀B,det n (Yh n (ent X) B)=s*det n (Yh n (ent (dX X k)) B)
theorem detInv {X:List (List Rat)} {n:Nat} (hl:X.length=n) (hr:Rect n X):∀k,k≤n→(∀c,c<k→0≤Xh (dX X c) c)→DetInv X n k
 |0,_,_=>⟨fun _ q h=>absurd h (Nat.not_lt_zero _),fun q h=>absurd h (Nat.not_lt_zero _),1,by decide,by show(1:Rat)=1*1; rw[Rat.one_mul],(Rat.one_mul _).symm,fun _=>(Rat.one_mul _).symm⟩
 |k+1,hk,hp=>by
  obtain⟨h1,h2,s,hs0,h3,h4,h5⟩:=detInv hl hr k (by omega) fun c hc=>hp c (by omega)
  have hXl:(dX X k).length=n:=by rw[Qbi]; exact hl
  have hXr:Rect n (dX X k):=hr.dX k (by omega)
  have hPl:(Yq (dX X k) (dX X k) k).length=n:=by rw[Qbt]; exact hXl
  have hPr:Rect n (Yq (dX X k) (dX X k) k):=hXr.piv (by omega)
  have hpk:=hp k (by omega)
  have hne:ent (Yq (dX X k) (dX X k) k) k k≠0:=piv_ne (by omega) hpk
  have eE:dX X (k+1)=elimD (Yq (dX X k) (dX X k) k) k n:=by show elimD _ k X.length=_; rw[hl]
  -- rows up to k
  have row:∀r,r≤k→(dX X (k+1)).getD r []=(Yq (dX X k) (dX X k) k).getD r []:=fun r h=>by rw[eE,Jm (by omega),if_neg (by omega)]
  have above:∀r,r<k→(dX X (k+1)).getD r []=(dX X k).getD r []:=fun r h=>by rw[row r (by omega),pivL_above hXl (by omega) h]
  have zb:∀r q,q<k→k≤r→r<n→ent (Yq (dX X k) (dX X k) k) r q=0:=fun r q hq h hrn=>by
   obtain⟨t,ht1,ht2,e⟩:=pivL_below hXl (show k<n by omega) h hrn
   unfold ent
   rw[e]
   exact h1 t q hq (by omega) ht2
  refine⟨fun r q hq hqr hrn=>?_,fun q hq=>?_,s*sg1 (dX X k) k,?_,?_,?_,fun B=>?_⟩
  ·rcases Nat.lt_or_ge r k with h|h
   ·unfold ent
    rw[above r h]
    exact h1 r q (by omega) hqr hrn
   ·by_cases e:r=k
    ·subst e
     unfold ent
     rw[row r (Nat.le_refl _)]
     exact zb r q (by omega) (Nat.le_refl _) hrn
    ·unfold ent
     rw[eE,Jm (by omega),if_pos (by omega),redD_ent (by rw[hPr r (by omega)]; omega) (by rw[hPr k (by omega)]; omega)]
     rcases Nat.lt_or_ge q k with h6|h6
     ·have z1:=zb r q h6 h hrn
      have z2:=zb k q h6 (Nat.le_refl _) (by omega)
      unfold ent at z1 z2
      rw[z1,z2]
      grind
     ·have:q=k:=by omega
      subst this
      unfold ent at hne
      rw[Rat.div_def]
      have:=Rat.mul_inv_cancel _ hne
      grind
  ·rcases Nat.lt_or_ge q k with h|h
   ·unfold ent
    rw[above q h]
    exact h2 q h
   ·have:q=k:=by omega
    subst this
    unfold ent
    rw[row q (Nat.le_refl _)]
    exact hne
  ·intro h
   rcases Rat.mul_eq_zero.1 h with h|h
   ·exact hs0 h
   ·unfold sg1 at h
    split at h
    ·revert h; decide
    ·revert h; decide
  ·have e1:ent (dX X (k+1)) k k=ent (Yq (dX X k) (dX X k) k) k k:=by unfold ent; rw[row k (Nat.le_refl _)]
   show(if Xh (dX X k) k>0 then -(dD X k)else dD X k)*ent (Yq (dX X k) (dX X k) k) k k=s*sg1 (dX X k) k*(Jw k (fun q=>ent (dX X (k+1)) q q)*ent (dX X (k+1)) k k)
   rw[e1,prodN_congr (g:=fun q=>ent (dX X k) q q) fun q hq=>by unfold ent; rw[above q hq],h3]
   unfold sg1
   split<;>grind
  ·rw[h4,(det_pivL hXl (show k<n by omega) (fun _ _=>0)).1,eE,(det_elimD hPl hPr (show k<n by omega) (fun _ _=>0) n (Nat.le_refl _) (by omega)).1]
   grind
  ·rw[h5 B,(det_pivL hXl (show k<n by omega) B).2,eE,(det_elimD hPl hPr (show k<n by omega) B n (Nat.le_refl _) (by omega)).2]
   grind
theorem first_sing {P:Nat→Prop} {n:Nat} (h:∃c,c<n∧P c):∃c,c<n∧P c∧∀q,q<c→¬P q:=by
 induction n with
 |zero=>obtain⟨c,hc,_⟩:=h; omega
 |succ n ih=>
  by_cases h1:∃c,c<n∧P c
  ·obtain⟨c,hc,h2,h3⟩:=ih h1
   exact⟨c,by omega,h2,h3⟩
  ·obtain⟨c,hc,h2⟩:=h
   refine⟨c,hc,h2,fun q hq h3=>h1 ⟨q,by omega,h3⟩⟩
theorem detG_det {X:List (List Rat)} {n:Nat} (hl:X.length=n) (hr:Rect n X):Za X=det n (ent X)∧(dSing X n↔det n (ent X)=0)∧∀B,det n (Yh n (ent X) B)=det n (ent X)*det n B:=by
 by_cases hs:dSing X n
 ·obtain⟨c,hc,h1,h2⟩:=first_sing hs
  obtain⟨g1,_,s,_,_,g4,g5⟩:=detInv hl hr c (by omega) fun q hq=>by have:=h2 q hq; omega
  have hXl:(dX X c).length=n:=by rw[Qbi]; exact hl
  have hz:=piv_none hXl h1
  have h0:det n (ent X)=0:=by
   rw[g4,det_sing hc (fun r q hq hqr hrn=>g1 r q hq hqr hrn) hz,Rat.mul_zero]
  refine⟨by rw[h0,detG_sing (by rw[hl]; exact hs)],⟨fun _=>h0,fun _=>hs⟩,fun B=>?_⟩
  rw[h0,Rat.zero_mul,g5 B]
  -- the rows from c on lean on each other
  obtain⟨x,⟨p,hp,hxp⟩,hx⟩:=dep (n-c-1) (n-c) (fun i k=>ent (dX X c) (c+i) (c+1+k)) (by omega)
  let y:Nat→Rat:=fun i=>if c≤i then x (i-c)else 0
  have hall:∀k,k<n→Qt n (fun i=>y i*ent (dX X c) i k)=0:=by
   intro k hk
   have split:∀m,c+m≤n→Qt (c+m) (fun i=>y i*ent (dX X c) i k)=Qt m fun i=>x i*ent (dX X c) (c+i) k:=by
    intro m
    induction m with
    |zero=>
     intro _
     exact Jd fun i hi=>by
      show(if c≤i then _ else(0:Rat))*_=0
      rw[if_neg (by omega),Rat.zero_mul]
    |succ m ih=>
     intro hm
     show Qt (c+m) _+y (c+m)*_=Qt m _+x m*_
     rw[ih (by omega)]
     have:y (c+m)=x m:=by
      show(if c≤c+m then x (c+m-c)else 0)=x m
      rw[if_pos (by omega),show c+m-c=m by omega]
     rw[this]
     rfl
   have:=split (n-c) (by omega)
   rw[show c+(n-c)=n by omega]at this
   rw[this]
   rcases Nat.lt_or_ge c k with h|h
   ·have:=hx (k-c-1) (by omega)
    rw[← this]
    refine Qq fun i _=>?_
    show _=x i*ent (dX X c) (c+i) (c+1+(k-c-1))
    rw[show c+1+(k-c-1)=k by omega]
   ·refine Jd fun i hi=>?_
    by_cases e:k=c
    ·subst e
     rw[hz (k+i) (by omega) (by omega),Rat.mul_zero]
    ·rw[g1 (c+i) k (by omega) (by omega) (by omega),Rat.mul_zero]
  have:det n (Yh n (ent (dX X c)) B)=0:=by
   refine det_dep (p:=c+p) (x:=y) (by omega) ?_ fun q hq=>?_
   ·show(if c≤c+p then x (c+p-c)else 0)≠0
    rw[if_pos (by omega),show c+p-c=p by omega]
    exact hxp
   ·have e:∀i,y i*Yh n (ent (dX X c)) B i q=Qt n fun k=>B k q*(y i*ent (dX X c) i k):=fun i=>by
     unfold Yh
     rw[← Yd]
     exact Qq fun k _=>by grind
    rw[Qq fun i _=>e i,Vh]
    exact Jd fun k hk=>by rw[Yd,hall k hk,Rat.mul_zero]
  rw[this,Rat.mul_zero]
 ·have hp:∀c,c<n→0≤Xh (dX X c) c:=fun c hc=>by
   rcases Int.lt_or_le (Xh (dX X c) c) 0 with h|h
   ·exact absurd ⟨c,hc,h⟩ hs
   ·exact h
  obtain⟨g1,g2,s,hs0,g3,g4,g5⟩:=detInv hl hr n (Nat.le_refl _) hp
  have hU:det n (ent (dX X n))=Jw n fun q=>ent (dX X n) q q:=Qb2 fun r q h1 h2=>g1 r q (by omega) h1 h2
  have e:Za X=det n (ent X):=by rw[detG_reg (by rw[hl]; exact hs),hl,g3,g4,hU]
  have hnz:∀m,m≤n→Jw m (fun q=>ent (dX X n) q q)≠0:=by
   intro m
   induction m with
   |zero=>intro _; show(1:Rat)≠0; decide
   |succ m ih=>
    intro hm h
    rcases Rat.mul_eq_zero.1 h with h|h
    ·exact ih (by omega) h
    ·exact g2 m (by omega) h
  refine⟨e,⟨fun h=>absurd h hs,fun h=>?_⟩,fun B=>?_⟩
  ·rw[g4,hU]at h
   rcases Rat.mul_eq_zero.1 h with h|h
   ·exact absurd h hs0
   ·exact absurd h (hnz n (Nat.le_refl _))
  ·rw[g5 B,mul_upper fun r q h1 h2=>g1 r q (by omega) h1 h2,g4,hU]
   grind
end Wx

namespace Wx

section
variable {X:List (List Rat)} {n m k:Nat}
end
end Wx

namespace Wx

theorem dot_sum (x y:List Rat):∀n,Je x y n=Qt n fun k=>x.getD k 0*y.getD k 0
 |0=>rfl
 |n+1=>by
  show Je x y n+_=Qt n _+_
  rw[dot_sum x y n]
theorem bd_small {z:Int} (h:-10<z∧z<10):BdR 4 (z:Rat):=⟨by unfold Bd; rw[Rat.num_intCast]; omega,by unfold Bd; rw[Rat.den_intCast]; omega⟩
theorem fillM_bd {L:List Int} {n f:Nat}:BdX 4 (Ky L n f):=fun i k=>by
 rcases Nat.lt_or_ge i n with h|h
 ·rw[Qd2 h]
  rcases Nat.lt_or_ge k n with h2|h2
  ·rw[fillR_get h2]
   exact bd_small (Qc3 _ _)
  ·rw[J3 (by rw[Qb4]; exact h2)]
   exact bd_zero.mono (by omega)
 ·rw[show(Ky L n f).getD i []=[]from J3 (by rw[Qat]; exact h)]
  exact bd_zero.mono (by omega)
section
variable {X Y V:List (List Rat)} {n:Nat}
theorem ent_mul (hX:X.length=n) (hXr:Rect n X) (hY:Y.length=n) (hYr:Rect n Y) {r c:Nat} (hr:r<n) (hc:c<n):ent (Xq X (Qp Y)) r c=Yh n (ent X) (ent Y) r c:=by
 have hY0:(Y.getD 0 []).length=n:=hYr 0 (by omega)
 show((Xq X (Qp Y)).getD r []).getD c 0=_
 rw[Qdd (by omega),Qdb (by rw[Wb,hY0]; exact hc),Qay (by rw[hY0]; exact hc),hXr r (by omega),dot_sum]
 refine Qq fun k hk=>?_
 rw[Qap (by omega)]
 rfl
theorem mul_rect (hY:Y.length=n) (hYr:Rect n Y) (h0:0<n):Rect n (Xq X (Qp Y)):=by
 have h:=mulT_rect (A:=X) (C:=Qp Y)
 rw[Wb,hYr 0 (by omega)]at h
 exact h
theorem Qaf (hX:X.length=n) (hXr:Rect n X) (h0:0<n) (h8:n≤8):Right X:=⟨by omega,by rw[hXr 0 (by omega)]; omega,fun i hi=>by rw[hXr i hi,hXr 0 (by omega)]⟩
end
end Wx

namespace Wx

theorem bd_sum1 {j k:Nat} {a b c d:Nat} (ha:Bd j a) (hb:Bd k b) (hc:Bd k c) (hd:Bd j d):Bd (j+k+1) (a*b+c*d):=by
 have h1:=ha.mul hb
 have h2:=hc.mul hd
 unfold Bd at *
 rw[Nat.add_comm k j]at h2
 rw[Nat.pow_succ]
 omega
theorem BdR.add_t {j k:Nat} {x y:Rat} (h:BdR j x) (g:BdR k y):BdR (j+k+1) (x+y):=by
 have d:=h.2.mul g.2
 have hd:=Nat.mul_pos x.den_pos y.den_pos
 have ab:Bd (j+k+1) (x.num.natAbs*y.den+y.num.natAbs*x.den):=bd_sum1 h.1 g.2 g.1 h.2
 have d':Bd (j+k+1) (x.den*y.den):=d.mono (by omega)
 by_cases hs:decide (x.num<0)=decide (y.num<0)
 ·rw[add_same x y hs]; exact K6 hd ab d'
 ·by_cases hge:y.num.natAbs*x.den≤x.num.natAbs*y.den
  ·rw[add_ge x y hs hge]; exact K6 hd (ab.le (by omega)) d'
  ·rw[add_lt x y hs (by omega)]; exact K6 hd (ab.le (by omega)) d'
end Wx

namespace Wx

def SqOk (A:List (List Rat)):Prop:=Right A∧A.length=(A.getD 0 []).length
theorem SqOk.rect {A:List (List Rat)} (h:SqOk A):Rect A.length A:=fun i hi=>(h.1.rect i hi).trans h.2.symm
def qIn (A:List (List Rat)) (x:List Rat) (i:Nat) (s:Rat):Nat→Rat
 |0=>s
 |k+1=>qIn A x i s k+x.getD i 0*((A.getD i []).getD k 0*x.getD k 0)
def qOut (A:List (List Rat)) (x:List Rat) (n:Nat):Nat→Rat
 |0=>0
 |i+1=>qIn A x i (qOut A x n i) n
def Yi (A:List (List Rat)) (x:List Rat) (n:Nat):Nat→Rat
 |0=>0
 |i+1=>Yi A x n i+x.getD i 0*Je (A.getD i []) x n
theorem qIn_eq (A:List (List Rat)) (x:List Rat) (i:Nat) (s:Rat):∀k,qIn A x i s k=s+x.getD i 0*Je (A.getD i []) x k
 |0=>by show s=s+_*0; grind
 |k+1=>by
  show qIn A x i s k+_=s+_*(Je (A.getD i []) x k+_)
  rw[qIn_eq A x i s k]
  grind
theorem qOut_eq (A:List (List Rat)) (x:List Rat) (n:Nat):∀i,qOut A x n i=Yi A x n i
 |0=>rfl
 |i+1=>by
  show qIn A x i (qOut A x n i) n=_
  rw[qIn_eq,qOut_eq A x n i]
  rfl
theorem bd_qIn {A:List (List Rat)} {x:List Rat} {i j jx J:Nat} {s:Rat} (hs:BdR J s) (hA:BdX j A) (hx:∀k,BdR jx (x.getD k 0)):∀k,BdR (J+k*(jx+(j+jx)+1)) (qIn A x i s k)
 |0=>by rw[Nat.zero_mul]; exact hs
 |k+1=>((bd_qIn hs hA hx k).add_t ((hx i).mul ((hA i k).mul (hx k)))).mono (by rw[Nat.succ_mul]; omega)
theorem bd_qOut {A:List (List Rat)} {x:List Rat} {n j jx:Nat} (hA:BdX j A) (hx:∀k,BdR jx (x.getD k 0)):∀i,BdR (1+i*(n*(jx+(j+jx)+1))) (qOut A x n i)
 |0=>by rw[Nat.zero_mul]; exact bd_zero
 |i+1=>(bd_qIn (bd_qOut hA hx i) hA hx n).mono (by rw[Nat.succ_mul]; omega)
theorem bd_qSum {A:List (List Rat)} {x:List Rat} {n j jx:Nat} (hA:BdX j A) (hx:∀k,BdR jx (x.getD k 0)) (i:Nat):BdR (1+i*(n*(jx+(j+jx)+1))) (Yi A x n i):=by rw[← qOut_eq]; exact bd_qOut hA hx i
end Wx

namespace Wx

theorem Qcd (n:Nat) (f:Nat→Rat):Qt (n+1) f=f 0+Qt n fun i=>f (i+1):=by
 rw[Qdn (p:=0) (by omega)]
 rfl
def bitN (s k:Nat):Nat:=s/2^k%2
def pcN (s:Nat):Nat→Nat
 |0=>0
 |k+1=>pcN s k+bitN s k
def colsN (s:Nat):Nat→List Nat
 |0=>[]
 |k+1=>if bitN s k=0 then colsN s k else colsN s k++[k]
section
variable (A:List (List Rat)) (D:Nat→Rat) (n s:Nat)
end
def V6 (x:Nat→Rat) (q k:Nat):Q4:=fun r c=>if r=q then(if c=q then x q else 0)else(if c=r then 1 else 0)+(if c=q∧r<k then x r else 0)
theorem det_colI {n q:Nat} (hq:q<n) (x:Nat→Rat):det n (V6 x q n)=x q:=by
 have h0:det n (V6 x q 0)=x q:=by
  rw[Qb2 fun r c hc hr=>by
   unfold V6
   by_cases e:r=q
   ·rw[if_pos e,if_neg (by omega)]
   ·rw[if_neg e,if_neg (by omega),if_neg (by omega)]; exact Rat.add_zero 0]
  have key:∀m,m≤n→Jw m (fun i=>V6 x q 0 i i)=if q<m then x q else 1:=by
   intro m
   induction m with
   |zero=>intro _; rfl
   |succ m ih=>
    intro hm
    show Jw m _*V6 x q 0 m m=_
    rw[ih (by omega)]
    unfold V6
    by_cases e:m=q
    ·subst e
     rw[if_neg (by omega),if_pos rfl,if_pos rfl,if_pos (by omega)]
     grind
    ·rw[if_neg e,if_pos rfl,if_neg (show ¬(m=q∧m<0) by omega)]
     by_cases e2:q<m
     ·rw[if_pos e2,if_pos (by omega)]; grind
     ·rw[if_neg e2,if_neg (by omega)]; grind
  rw[key n (Nat.le_refl _),if_pos hq]
 by_cases hx:x q=0
 ·rw[hx]
  exact W3 hq fun c _=>by
   unfold V6
   rw[if_pos rfl,hx]
   split<;>rfl
 ·have key:∀k,k≤n→det n (V6 x q k)=x q:=by
   intro k
   induction k with
   |zero=>intro _; exact h0
   |succ k ih=>
    intro hk
    by_cases e:k=q
    ·rw[← ih (by omega)]
     refine X9 fun r c _ _=>?_
     unfold V6
     by_cases er:r=q
     ·rw[if_pos er,if_pos er]
     ·rw[if_neg er,if_neg er]
      congr 1
      by_cases h:c=q∧r<k
      ·rw[if_pos h,if_pos (by omega)]
      ·rw[if_neg h,if_neg (by omega)]
    ·rw[← ih (by omega),← Vl (p:=k) (q:=q) (by omega) hq e (V6 x q k) (x k/x q)]
     refine X9 fun r c _ _=>?_
     unfold Xg
     by_cases er:r=k
     ·subst er
      rw[if_pos rfl]
      unfold V6
      dsimp only
      rw[if_neg e,if_neg e,if_pos rfl]
      by_cases h:c=q
      ·subst h
       rw[if_pos (show c=c∧r<r+1 from⟨rfl,Nat.lt_succ_self _⟩),if_neg (show ¬(c=c∧r<r)from fun h=>absurd h.2 (Nat.lt_irrefl _)),if_pos rfl,Rat.div_mul_cancel hx]
       grind
      ·rw[if_neg (show ¬(c=q∧r<r+1)from fun h2=>h h2.1),if_neg (show ¬(c=q∧r<r)from fun h2=>h h2.1),if_neg h]
       grind
     ·rw[if_neg er]
      unfold V6
      by_cases e2:r=q
      ·rw[if_pos e2,if_pos e2]
      ·rw[if_neg e2,if_neg e2]
       congr 1
       by_cases h:c=q∧r<k
       ·rw[if_pos h,if_pos (by omega)]
       ·rw[if_neg h,if_neg (by omega)]
  exact key n (Nat.le_refl _)
theorem colI_full {n q:Nat} (x:Nat→Rat):∀r c,r<n→c<n→V6 x q n r c=if c=q then x r else if c=r then 1 else 0:=fun r c hr _=>by
 unfold V6
 by_cases e:r=q
 ·subst e
  rw[if_pos rfl]
  by_cases h:c=r
  ·rw[if_pos h,if_pos h]
  ·rw[if_neg h,if_neg h,if_neg h]
 ·rw[if_neg e]
  by_cases h:c=q
  ·subst h
   rw[if_neg (fun h=>e h.symm),if_pos ⟨rfl,hr⟩,if_pos rfl]
   grind
  ·rw[if_neg (show ¬(c=q∧r<n)from fun h2=>h h2.1),if_neg h]
   grind
end Wx
