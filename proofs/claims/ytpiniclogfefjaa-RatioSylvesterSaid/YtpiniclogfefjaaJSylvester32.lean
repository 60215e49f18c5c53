import Derived.Test.YtpiniclogfefjaaJSylvester31
namespace Wx
open Go Go.RowKit Go.Proofs

theorem bd_zero:BdR 1 (0:Rat):=⟨by show(0:Rat).num.natAbs<2^1; decide,by show(0:Rat).den<2^1; decide⟩
theorem BdR.sub_ {j k:Nat} {x y:Rat} (h:BdR j x) (g:BdR k y):BdR (j+k+j+k+1) (x-y):=by rw[Rat.sub_eq_add_neg]; exact h.add g.neg
theorem BdR.quo {j k:Nat} {x y:Rat} (h:BdR j x) (g:BdR k y):BdR (j+k) (x/y):=by
 by_cases hy:y=0
 ·rw[hy,Rat.div_def,Rat.inv_zero,Rat.mul_zero]
  have h2:x.den<2^j:=h.2
  have h3:=x.den_pos
  have hj:j≠0:=by rintro rfl; simp at h2; omega
  refine⟨?_,?_⟩
  ·show(0:Rat).num.natAbs<2^(j+k)
   exact Nat.two_pow_pos _
  ·show(0:Rat).den<2^(j+k)
   show 1<2^(j+k)
   exact Nat.one_lt_two_pow (by omega)
 ·exact h.div g (fun h=>hy ((Qbs y).1 (by omega)))
theorem ret_is {w:World} {v:Value} {e:Ending} {w':World} (h:Zv w v e w'):Kx (Qe v) w e w':=⟨v,h.1,rfl,h.2⟩
theorem c_add {x y:Rat} {j k:Nat} (hx:BdR j x) (hy:BdR k y) (h:j+k+j+k+1≤100000000):∀w v1 v2,Qk x w v1→Qk y w v2→Calls Try.prog 12 #[v1,v2] w (Kx (Qk (x+y)) w):=
 fun w v1 v2 h1 h2=>add_num w v1 v2 x y h1 h2 hx hy h
theorem c_sub {x y:Rat} {j k:Nat} (hx:BdR j x) (hy:BdR k y) (h:j+k+j+k+1≤100000000):∀w v1 v2,Qk x w v1→Qk y w v2→Calls Try.prog 10 #[v1,v2] w (Kx (Qk (x-y)) w):=
 fun w v1 v2 h1 h2=>sub_num w v1 v2 x y h1 h2 hx hy h
theorem c_mul {x y:Rat} {j k:Nat} (hx:BdR j x) (hy:BdR k y) (h:j+k≤100000000):∀w v1 v2,Qk x w v1→Qk y w v2→Calls Try.prog 11 #[v1,v2] w (Kx (Qk (x*y)) w):=
 fun w v1 v2 h1 h2=>mul_num w v1 v2 x y h1 h2 hx hy h
theorem c_by {x y:Rat} {j k:Nat} (hx:BdR j x) (hy:BdR k y) (h:j+k≤100000000) (h0:y≠0):∀w v1 v2,Qk x w v1→Qk y w v2→Calls Try.prog 48 #[v1,v2] w (Kx (Qk (x/y)) w):=
 fun w v1 v2 h1 h2=>by_num w v1 v2 x y h1 h2 (fun h=>h0 ((Qbs y).1 (by omega))) hx hy h
theorem c_neg (x:Rat):∀w v1,Qk x w v1→Calls Try.prog 22 #[v1] w (Kx (Qk (-x)) w):=fun w v1 h1=>neg_num w v1 x h1
theorem Uo (x:Rat):∀w v1,Qk x w v1→Calls Try.prog 13 #[v1] w (Kx (pB (decide (x=0))) w):=fun w v1 h1=>(Qdq w v1 x h1).mono fun _ _=>ret_is
theorem c_same (x y:Rat):∀w v1 v2,Qk x w v1→Qk y w v2→Calls Try.prog 18 #[v1,v2] w (Kx (pB (decide (x=y))) w):=fun w v1 v2 h1 h2=>(same_num w v1 v2 x y h1 h2).mono fun _ _=>ret_is
theorem c_sign (x:Rat):∀w v1,Qk x w v1→Calls Try.prog 24 #[v1] w (Kx (pI (Yj x)) w):=fun w v1 h1=>(sign_num w v1 x h1).mono fun _ _=>ret_is
theorem c_int (n:Int) (h1:-9223372036854775808≤n) (h2:n≤9223372036854775807):∀w v1,pI n w v1→Calls Try.prog 7 #[v1] w (Kx (Qk (n:Rat)) w):=fun w v1 h=>by
 have h:v1=.int .i64 n:=h
 rw[h]
 exact int_num w n h1 h2
theorem c_known {f:FuncId} {P:Program} {p1 p2:Qj} {a b:Bool} (h:∀w v1 v2,p1 w v1→p2 w v2→Calls P f #[v1,v2] w (Kx (pB a) w)) (e:a=b):∀w v1 v2,p1 w v1→p2 w v2→Calls P f #[v1,v2] w (Kx (pB b) w):=e▸h
theorem c_known1 {f:FuncId} {P:Program} {p1:Qj} {a b:Bool} (h:∀w v1,p1 w v1→Calls P f #[v1] w (Kx (pB a) w)) (e:a=b):∀w v1,p1 w v1→Calls P f #[v1] w (Kx (pB b) w):=e▸h
end Wx

namespace Wx

def Je (x y:List Rat):Nat→Rat
 |0=>0
 |k+1=>Je x y k+x.getD k 0*y.getD k 0
def Y4 (j:Nat):Nat→Nat
 |0=>1
 |k+1=>Y4 j k+j+Y4 j k+j+1
theorem Qd1 (j:Nat):∀{k n:Nat},k≤n→Y4 j k≤Y4 j n:=by
 intro k n h
 induction n with
 |zero=>rw[Nat.le_zero.1 h]; exact Nat.le_refl _
 |succ n ih=>
  rcases Nat.lt_or_ge k (n+1)with h'|h'
  ·have:=ih (by omega)
   show Y4 j k≤Y4 j n+j+Y4 j n+j+1
   omega
  ·rw[show k=n+1 by omega]
   exact Nat.le_refl _
theorem bd_dot {x y:List Rat} {j1 j2:Nat} (hx:∀k,BdR j1 (x.getD k 0)) (hy:∀k,BdR j2 (y.getD k 0)):∀k,BdR (Y4 (j1+j2) k) (Je x y k)
 |0=>bd_zero
 |k+1=>(bd_dot hx hy k).add ((hx k).mul (hy k))
theorem dot_skip {x y:List Rat} {k:Nat} (h:(!(decide (x.getD k 0=0))&&!(decide (y.getD k 0=0)))=false):Je x y (k+1)=Je x y k:=by
 show Je x y k+_=_
 have:x.getD k 0=0∨y.getD k 0=0:=by
  by_cases h1:x.getD k 0=0
  ·exact .inl h1
  ·by_cases h2:y.getD k 0=0
   ·exact .inr h2
   ·rw[decide_eq_false h1,decide_eq_false h2]at h
    cases h
 rcases this with h|h<;>rw[h]
 ·rw[Rat.zero_mul,Rat.add_zero]
 ·rw[Rat.mul_zero,Rat.add_zero]
end Wx

namespace Wx

theorem Q8 {α:Type} (X:List α) (i:Nat) (d:α):X.getD i d=X[i]?.getD d:=List.getD_eq_getElem?_getD
theorem J3 {α:Type} {X:List α} {i:Nat} {d:α} (h:X.length≤i):X.getD i d=d:=by rw[Q8,List.getElem?_eq_none h]; rfl
section
variable {A B:List (List Rat)} {n k:Nat}
theorem Z9 {α:Type} {X Y:List α} {d:α} (hl:X.length=Y.length) (h:∀i,i<X.length→X.getD i d=Y.getD i d):X=Y:=by
 apply List.ext_getElem hl
 intro i h1 h2
 have:=h i h1
 rwa [List.getD_eq_getElem?_getD,List.getD_eq_getElem?_getD,List.getElem?_eq_getElem h1,List.getElem?_eq_getElem h2]at this
end
section
variable {L:List Rat} {p:Rat} {k:Nat}
end
section
variable {X:List (List Rat)} {c k:Nat}
end
def Rect (m:Nat) (X:List (List Rat)):Prop:=∀i,i<X.length→(X.getD i []).length=m
def BdX (j:Nat) (X:List (List Rat)):Prop:=∀i k,BdR j ((X.getD i []).getD k 0)
theorem bd_mem {j:Nat} {l:List Rat} (h:∀k,BdR j (l.getD k 0)):∀x,x∈l→BdR j x:=by
 intro x hx
 obtain⟨k,hk⟩:=List.mem_iff_getElem?.1 hx
 have:=h k
 rwa [List.getD_eq_getElem?_getD,hk]at this
theorem Qbt {α:Type} (X:List (List Rat)) (l:List α) (c:Nat):(Yq X l c).length=l.length:=by
 unfold Yq
 split
 ·rfl
 ·exact Wa _ _ _
theorem pivL_get (X:List (List Rat)) {c i:Nat} (hc:c<X.length) (hi:i<X.length):∃j,j<X.length∧(Yq X X c).getD i []=X.getD j []:=by
 unfold Yq
 split
 ·exact⟨i,hi,rfl⟩
 ·have hr:=Wj hc
  have h2:c+(Xh X c).toNat<X.length:=by omega
  have e:=Ku (List.getElem?_eq_getElem hc) (List.getElem?_eq_getElem h2) i
  rw[List.getD_eq_getElem?_getD,e]
  split
  ·exact⟨c,hc,by rw[List.getD_eq_getElem?_getD,List.getElem?_eq_getElem hc]⟩
  ·split
   ·exact⟨_,h2,by rw[List.getD_eq_getElem?_getD,List.getElem?_eq_getElem h2]⟩
   ·exact⟨i,hi,by rw[List.getD_eq_getElem?_getD]⟩
theorem firstI_at {p:Nat→Bool} {n:Nat} (h:0≤Z1 p n):p (Z1 p n).toNat=true:=by
 unfold Z1 at *
 split at h
 ·rename_i i hi
  have:=List.find?_some hi
  rw[Int.toNat_natCast]
  exact this
 ·omega
theorem piv_ne {X:List (List Rat)} {c:Nat} (hc:c<X.length) (h:0≤Xh X c):((Yq X X c).getD c []).getD c 0≠0:=by
 have h1:=firstI_at (p:=fun i=>!(decide ((X.getD (c+i) []).getD c 0=0))) h
 have h1:(!(decide ((X.getD (c+(Xh X c).toNat) []).getD c 0=0)))=true:=h1
 have h2:(X.getD (c+(Xh X c).toNat) []).getD c 0≠0:=by simpa using h1
 have hr:=Wj hc
 have hlt:c+(Xh X c).toNat<X.length:=by omega
 have e:(Yq X X c).getD c []=X.getD (c+(Xh X c).toNat) []:=by
  unfold Yq
  rw[if_neg (by omega),Q8 (Yt _ _ _),Ku (List.getElem?_eq_getElem hc) (List.getElem?_eq_getElem hlt) c]
  by_cases h0:c=c+(Xh X c).toNat
  ·rw[if_pos h0,← h0,Q8,List.getElem?_eq_getElem hc]
  ·rw[if_neg h0,if_pos rfl,Q8,List.getElem?_eq_getElem hlt]
 rw[e]
 exact h2
section
variable {X:List (List Rat)} {m j c:Nat}
theorem Rect.piv (h:Rect m X) (hc:c<X.length):Rect m (Yq X X c):=fun i hi=>by
 rw[Qbt]at hi
 obtain⟨q,hq,e⟩:=pivL_get X hc hi
 rw[e]
 exact h q hq
theorem BdX.piv (h:BdX j X) (hc:c<X.length) (h1:1≤j):BdX j (Yq X X c):=fun i k=>by
 rcases Nat.lt_or_ge i X.length with hi|hi
 ·obtain⟨q,_,e⟩:=pivL_get X hc hi
  rw[e]
  exact h q k
 ·rw[J3 (X:=Yq X X c) (by rw[Qbt]; exact hi)]
  exact bd_zero.mono h1
theorem bd_redAt {x y:List Rat} {f:Rat} {s1 s2 k jy jf:Nat} (hx:∀k,BdR j (x.getD k 0)) (hy:∀k,BdR jy (y.getD k 0)) (hf:BdR jf f) (h1:1≤j):∀q,BdR (j+(jf+jy)+j+(jf+jy)+1) ((Xz x s1 y s2 f k).getD q 0):=fun q=>by
 rcases Nat.lt_or_ge q x.length with hq|hq
 ·unfold Xz
  rw[List.getD_eq_getElem?_getD,List.getElem?_mapIdx,List.getElem?_eq_getElem hq]
  have hx:=hx q
  rw[List.getD_eq_getElem?_getD,List.getElem?_eq_getElem hq]at hx
  show BdR _ (if s1≤q∧q<s1+k then x[q]-f*y.getD (s2+(q-s1)) 0 else x[q])
  split
  ·exact hx.sub_ (hf.mul (hy _))
  ·exact hx.mono (by omega)
 ·rw[List.getD_eq_getElem?_getD,List.getElem?_eq_none (by rw[J1]; exact hq)]
  exact bd_zero.mono (by omega)
def Wv (j:Nat):Nat→Nat
 |0=>j
 |k+1=>8*Wv j k+1
theorem gjJ_mono {k n:Nat} (h:k≤n):Wv j k≤Wv j n:=by
 induction n with
 |zero=>rw[Nat.le_zero.1 h]; exact Nat.le_refl _
 |succ n ih=>
  rcases Nat.lt_or_ge k (n+1)with h'|h'
  ·have:=ih (by omega)
   show Wv j k≤8*Wv j n+1
   omega
  ·rw[show k=n+1 by omega]
   exact Nat.le_refl _
theorem gjJ_pos (h1:1≤j):∀k,1≤Wv j k
 |0=>h1
 |k+1=>by show 1≤8*Wv j k+1; omega
end
open Go Go.RowKit
section
variable {X:List (List Rat)} {n k:Nat}
end
theorem tops0_hdr {R:List RowL} {i:Nat} (h:i<R.length) (h0:(Q0 R i).n≠0):(K3 R)[i]?=some (Z2 (Q0 R i).hdr):=by
 rw[Qei h,V8 h0]
theorem Inv.uniq {c:Cfg} {V:List Vr} {G:List Ent} {a:Act} {w:World} {id s:Nat} {H:List Bk} (hI:Inv c V [] G Qf a w) (n0:Nat) (hk:V[n0]?=some (Xu id s H)):∀e x,e∈H→x∈H→e.b=x.b→e.items=x.items:=by
 obtain⟨β,hI⟩:=hI
 intro e x he hx hb
 rw[Qeb (hI.obj hk).1.2.1 he hx hb]
end Wx

namespace Wx

def Kg (r:List Rat) (C:List (List Rat)):List Rat:=C.map fun c=>Je r c r.length
def Xq (A C:List (List Rat)):List (List Rat):=A.map fun r=>Kg r C
theorem Qdc (r:List Rat) (C:List (List Rat)):(Kg r C).length=C.length:=List.length_map ..
theorem Qdb {r:List Rat} {C:List (List Rat)} {k:Nat} (h:k<C.length):(Kg r C).getD k 0=Je r (C.getD k []) r.length:=by
 unfold Kg
 rw[Q8,List.getElem?_map,List.getElem?_eq_getElem h,Q8,List.getElem?_eq_getElem h]
 rfl
theorem Qde (A C:List (List Rat)):(Xq A C).length=A.length:=List.length_map ..
theorem Qdd {A C:List (List Rat)} {i:Nat} (h:i<A.length):(Xq A C).getD i []=Kg (A.getD i []) C:=by
 unfold Xq
 rw[Q8,List.getElem?_map,List.getElem?_eq_getElem h,Q8,List.getElem?_eq_getElem h]
 rfl
end Wx

namespace Wx

def redD (x y:List Rat) (c:Nat):List Rat:=if x.getD c 0/y.getD c 0=0 then x else Xz x 0 y 0 (x.getD c 0/y.getD c 0) y.length
theorem redD_len (x y:List Rat) (c:Nat):(redD x y c).length=x.length:=by
 unfold redD
 split
 ·rfl
 ·exact J1
def elimD (X:List (List Rat)) (c k:Nat):List (List Rat):=X.mapIdx fun i row=>if c<i∧i<k then redD row (X.getD c []) c else row
section
variable {X:List (List Rat)} {m j c k:Nat}
theorem Ka:(elimD X c k).length=X.length:=by unfold elimD; exact List.length_mapIdx
theorem Jm {i:Nat} (hi:i<X.length):(elimD X c k).getD i []=if c<i∧i<k then redD (X.getD i []) (X.getD c []) c else X.getD i []:=by
 unfold elimD
 rw[Q8,List.getElem?_mapIdx,List.getElem?_eq_getElem hi,Q8,Q8,List.getElem?_eq_getElem hi]
 rfl
theorem Qeq:elimD X c (c+1)=X:=Z9 (d:=[]) Ka fun i hi=>by
 rw[Ka]at hi
 rw[Jm hi,if_neg (by omega)]
theorem elimD_at {i:Nat} (hi:i<X.length) (h:k≤i):(elimD X c k).getD i []=X.getD i []:=by rw[Jm hi,if_neg (by omega)]
theorem elimD_own (hc:c<X.length):(elimD X c k).getD c []=X.getD c []:=by rw[Jm hc,if_neg (by omega)]
theorem elimD_step (hk:k<X.length) (hck:c<k):(elimD X c k).set k (redD (X.getD k []) (X.getD c []) c)=elimD X c (k+1):=by
 refine Z9 (d:=[]) (by rw[List.length_set,Ka,Ka]) fun i hi=>?_
 rw[List.length_set,Ka]at hi
 rw[Zk (by rw[Ka]; exact hk),Jm hi,Jm hi]
 by_cases h:i=k
 ·subst h
  rw[if_pos rfl,if_pos (by omega)]
 ·rw[if_neg h]
  by_cases h1:c<i∧i<k
  ·rw[if_pos h1,if_pos (by omega)]
  ·rw[if_neg h1,if_neg (by omega)]
def dX (X:List (List Rat)):Nat→List (List Rat)
 |0=>X
 |c+1=>elimD (Yq (dX X c) (dX X c) c) c X.length
def dD (X:List (List Rat)):Nat→Rat
 |0=>1
 |c+1=>(if Xh (dX X c) c>0 then -(dD X c)else dD X c)*((Yq (dX X c) (dX X c) c).getD c []).getD c 0
def dSing (X:List (List Rat)) (k:Nat):Prop:=∃c,c<k∧Xh (dX X c) c<0
open Classical in
noncomputable def Za (X:List (List Rat)):Rat:=if dSing X X.length then 0 else dD X X.length
theorem detG_sing (h:dSing X X.length):Za X=0:=if_pos h
theorem detG_reg (h:¬dSing X X.length):Za X=dD X X.length:=if_neg h
theorem Qbi:∀k,(dX X k).length=X.length
 |0=>rfl
 |k+1=>by show(elimD (Yq (dX X k) (dX X k) k) k X.length).length=_; rw[Ka,Qbt,Qbi k]
theorem Rect.elimD {k:Nat} (h:Rect m X):Rect m (Wx.elimD X c k):=fun i hi=>by
 rw[Ka]at hi
 rw[Jm hi]
 split
 ·rw[redD_len]; exact h i hi
 ·exact h i hi
theorem Rect.dX (h:Rect m X):∀k,k≤X.length→Rect m (Wx.dX X k)
 |0,_=>h
 |k+1,hk=>((Rect.dX h k (by omega)).piv (by rw[Qbi]; omega)).elimD
theorem BdX.elimD {k:Nat} (h:BdX j X) (h1:1≤j):BdX (8*j+1) (Wx.elimD X c k):=fun i q=>by
 rcases Nat.lt_or_ge i X.length with hi|hi
 ·rw[Jm hi]
  split
  ·unfold redD
   split
   ·exact(h i q).mono (by omega)
   ·exact(bd_redAt (h i) (h c) ((h i c).quo (h c c)) h1 q).mono (by omega)
  ·exact(h i q).mono (by omega)
 ·rw[J3 (X:=Wx.elimD X c k) (by rw[Ka]; exact hi)]
  exact bd_zero.mono (by omega)
theorem BdX.dX (h:BdX j X) (h1:1≤j):∀k,k≤X.length→BdX (Wv j k) (Wx.dX X k)
 |0,_=>h
 |k+1,hk=>((BdX.dX h h1 k (by omega)).piv (by rw[Qbi]; omega) (gjJ_pos h1 k)).elimD (gjJ_pos h1 k)
def dJ (j:Nat):Nat→Nat
 |0=>1
 |k+1=>dJ j k+Wv j k
theorem dJ_mono {k n:Nat} (h:k≤n):dJ j k≤dJ j n:=by
 induction n with
 |zero=>rw[Nat.le_zero.1 h]; exact Nat.le_refl _
 |succ n ih=>
  rcases Nat.lt_or_ge k (n+1)with h'|h'
  ·have:=ih (by omega)
   show dJ j k≤dJ j n+Wv j n
   omega
  ·rw[show k=n+1 by omega]
   exact Nat.le_refl _
theorem bd_one1:BdR 1 (1:Rat):=⟨by show(1:Rat).num.natAbs<2^1; decide,by show(1:Rat).den<2^1; decide⟩
theorem bd_dD (h:BdX j X) (h1:1≤j):∀k,k≤X.length→BdR (dJ j k) (dD X k)
 |0,_=>bd_one1
 |k+1,hk=>by
  have ih:=bd_dD h h1 k (by omega)
  have hp:=(h.dX h1 k (by omega)).piv (c:=k) (by rw[Qbi]; omega) (gjJ_pos h1 k) k k
  refine BdR.mul ?_ hp
  split
  ·exact ih.neg
  ·exact ih
end
end Wx

namespace Wx

section
variable {A B:List (List Rat)} {b:List Rat} {m j:Nat}
theorem bd_col (hb:BdX j B) (h1:1≤j) (k:Nat):∀q,BdR j ((Wu B k).getD q 0):=fun q=>by
 rcases Nat.lt_or_ge q B.length with h|h
 ·rw[Qap h]
  exact hb q k
 ·rw[J3 (by rw[W2]; exact h)]
  exact bd_zero.mono h1
theorem turnM_bd (hA:BdX j A) (h1:1≤j):BdX j (Qp A):=fun i k=>by
 rcases Nat.lt_or_ge i (A.getD 0 []).length with hi|hi
 ·rw[Qay hi]
  exact bd_col hA h1 i k
 ·rw[J3 (X:=Qp A) (by rw[Wb]; exact hi)]
  exact bd_zero.mono h1
theorem mulT_rect {C:List (List Rat)}:Rect C.length (Xq A C):=fun i hi=>by
 rw[Qde]at hi
 rw[Qdd hi,Qdc]
theorem dotJ_pos (j:Nat):∀k,1≤Y4 j k
 |0=>Nat.le_refl _
 |k+1=>by show 1≤Y4 j k+j+Y4 j k+j+1; omega
theorem mulT_bd {C:List (List Rat)} {j1 j2 n:Nat} (hA:BdX j1 A) (hC:BdX j2 C) (hn:∀i,i<A.length→(A.getD i []).length≤n):BdX (Y4 (j1+j2) n) (Xq A C):=fun i k=>by
 rcases Nat.lt_or_ge i A.length with hi|hi
 ·rw[Qdd hi]
  rcases Nat.lt_or_ge k C.length with hk|hk
  ·rw[Qdb hk]
   exact(bd_dot (hA i) (hC k) _).mono (Qd1 _ (hn i hi))
  ·rw[J3 (by rw[Qdc]; exact hk)]
   exact bd_zero.mono (dotJ_pos _ _)
 ·rw[J3 (X:=Xq A C) (by rw[Qde]; exact hi)]
  exact bd_zero.mono (dotJ_pos _ _)
end
end Wx

namespace Wx
open Go Go.RowKit

def fillZ (L:List Int) (p:Nat):Int:=if 0<L.length then(L.getD (p%L.length) 0).tmod 10 else 0
theorem Qc3 (L:List Int) (p:Nat):-10<fillZ L p∧fillZ L p<10:=by
 unfold fillZ
 split
 ·exact⟨Int.lt_tmod_of_pos _ (by omega),Int.tmod_lt_of_pos _ (by omega)⟩
 ·omega
def Kj (L:List Int) (n f i k:Nat):Rat:=((fillZ L (f+n*i+k):Int):Rat)
def fillR (L:List Int) (n f i:Nat):List Rat:=(List.range n).map (Kj L n f i)
def Ky (L:List Int) (n f:Nat):List (List Rat):=(List.range n).map (fillR L n f)
def Vo (L:List Int) (n f i j:Nat):List Rat:=(List.range n).map fun k=>if k<j then Kj L n f i k else 0
def filB (L:List Int) (n f k:Nat):List (List Rat):=(List.range n).map fun i=>if i<k then fillR L n f i else[]
def filC (L:List Int) (n f k j:Nat):List (List Rat):=(List.range n).map fun i=>if i<k then fillR L n f i else if i=k then Vo L n f k j else[]
section
variable {L:List Int} {n f k j:Nat}
theorem X0 {α:Type} {g:Nat→α} {d:α} {i:Nat} (h:i<n):((List.range n).map g).getD i d=g i:=by
 rw[Q8,List.getElem?_map,List.getElem?_range h]
 rfl
theorem W4:(filB L n f k).length=n:=by unfold filB; rw[List.length_map,List.length_range]
theorem V7:(filC L n f k j).length=n:=by unfold filC; rw[List.length_map,List.length_range]
theorem J0 {i:Nat}:(Vo L n f i j).length=n:=by unfold Vo; rw[List.length_map,List.length_range]
theorem Qb4 {i:Nat}:(fillR L n f i).length=n:=by unfold fillR; rw[List.length_map,List.length_range]
theorem Qat:(Ky L n f).length=n:=by unfold Ky; rw[List.length_map,List.length_range]
theorem Qd2 {i:Nat} (h:i<n):(Ky L n f).getD i []=fillR L n f i:=X0 h
theorem fillR_get {i q:Nat} (h:q<n):(fillR L n f i).getD q 0=Kj L n f i q:=X0 h
theorem Qbm {i:Nat} (h:i<n):(filB L n f k).getD i []=if i<k then fillR L n f i else[]:=X0 h
theorem Qbn {i:Nat} (h:i<n):(filC L n f k j).getD i []=if i<k then fillR L n f i else if i=k then Vo L n f k j else[]:=X0 h
theorem filB_zero:filB L n f 0=List.replicate n []:=by
 refine Z9 (d:=[]) (by rw[W4,List.length_replicate]) fun i hi=>?_
 rw[W4]at hi
 rw[Qbm hi,if_neg (Nat.not_lt_zero _),Q8,List.getElem?_replicate,if_pos hi]
 rfl
theorem filB_end:filB L n f n=Ky L n f:=by
 refine Z9 (d:=[]) (by rw[W4,Qat]) fun i hi=>?_
 rw[W4]at hi
 rw[Qbm hi,if_pos hi,Qd2 hi]
theorem fillP_zero {i:Nat}:Vo L n f i 0=List.replicate n 0:=by
 refine Z9 (d:=0) (by rw[J0,List.length_replicate]) fun q hq=>?_
 rw[J0]at hq
 unfold Vo
 rw[X0 hq,if_neg (Nat.not_lt_zero _),Q8,List.getElem?_replicate,if_pos hq]
 rfl
theorem fillP_end {i:Nat}:Vo L n f i n=fillR L n f i:=by
 refine Z9 (d:=0) (by rw[J0,Qb4]) fun q hq=>?_
 rw[J0]at hq
 unfold Vo
 rw[X0 hq,if_pos hq,fillR_get hq]
theorem fillP_step {i:Nat} (hj:j<n):(Vo L n f i j).set j (Kj L n f i j)=Vo L n f i (j+1):=by
 refine Z9 (d:=0) (by rw[List.length_set,J0,J0]) fun q hq=>?_
 rw[List.length_set,J0]at hq
 rw[Zk (by rw[J0]; exact hj)]
 unfold Vo
 rw[X0 hq,X0 hq]
 split
 ·rename_i e
  subst e
  rw[if_pos (Nat.lt_succ_self _)]
 ·rename_i e
  by_cases h:q<j
  ·rw[if_pos h,if_pos (by omega)]
  ·rw[if_neg h,if_neg (by omega)]
theorem filB_start (hk:k<n):(filB L n f k).set k (List.replicate n 0)=filC L n f k 0:=by
 refine Z9 (d:=[]) (by rw[List.length_set,W4,V7]) fun i hi=>?_
 rw[List.length_set,W4]at hi
 rw[Zk (by rw[W4]; exact hk),Qbn hi,Qbm hi,fillP_zero]
 by_cases e:i=k
 ·rw[if_pos e,if_neg (by omega),if_pos e]
 ·rw[if_neg e,if_neg e]
theorem filC_at (hk:k<n):(filC L n f k j).getD k []=Vo L n f k j:=by rw[Qbn hk,if_neg (Nat.lt_irrefl _),if_pos rfl]
theorem filC_step (hk:k<n) (hj:j<n):(filC L n f k j).set k (((filC L n f k j).getD k []).set j (Kj L n f k j))=filC L n f k (j+1):=by
 refine Z9 (d:=[]) (by rw[List.length_set,V7,V7]) fun i hi=>?_
 rw[List.length_set,V7]at hi
 rw[Zk (by rw[V7]; exact hk),filC_at hk,fillP_step hj,Qbn hi,Qbn hi]
 by_cases e:i=k
 ·rw[if_pos e,if_neg (by omega),if_pos e]
 ·rw[if_neg e,if_neg e,if_neg e]
theorem filC_end:filC L n f k n=filB L n f (k+1):=by
 refine Z9 (d:=[]) (by rw[W4,V7]) fun i hi=>?_
 rw[V7]at hi
 rw[Qbn hi,Qbm hi,fillP_end]
 by_cases h:i<k
 ·rw[if_pos h,if_pos (by omega)]
 ·rw[if_neg h]
  by_cases e:i=k
  ·subst e
   rw[if_pos rfl,if_pos (Nat.lt_succ_self _)]
  ·rw[if_neg e,if_neg (by omega)]
theorem fillM_rect:Rect n (Ky L n f):=fun i hi=>by
 rw[Qat]at hi
 rw[Qd2 hi,Qb4]
end
theorem BldOk.setItem {g n:Nat} {R:List RowL} {X:List (List Rat)} {H:List Bk} (h:BldOk g n R X H) {i k:Nat} {q:Rat} (hi:i<n) (hk:k<(X.getD i []).length):
  BldOk g n R (X.set i ((X.getD i []).set k q)) (Xs H (Q0 R i).b k (Zl q)):=by
 have hr0:(Q0 R i).n≠0:=by rw[h.num i hi]; omega
 obtain⟨c1,c2,hmem,hoff⟩:=h.rows i hi hr0
 have eX:∀j,(X.set i ((X.getD i []).set k q)).getD j []=if j=i then(X.getD i []).set k q else X.getD j []:=fun j=>Zk (by rw[h.len.2]; exact hi)
 refine⟨Qa6 h.top (Ne.symm hoff),⟨h.len.1,by rw[List.length_set]; exact h.len.2⟩,fun j hj=>?_,fun j hj hj0=>?_,h.apart⟩
 ·rw[eX,h.num j hj]
  split
  ·rename_i e
   rw[e,List.length_set]
  ·rfl
 ·obtain⟨k1,k2,k3,k4⟩:=h.rows j hj hj0
  refine⟨k1,k2,?_,k4⟩
  rw[eX]
  split
  ·rename_i e
   subst e
   have:=Qbp (idx:=k) (it:=Zl q) hmem rfl
   rw[← Ve hk]
   exact this
  ·rename_i e
   exact Qa6 k3 (h.apart j i hj hi e hj0 hr0)
theorem Qdw {H:List Bk} {l':List Rat} {r:RowL} (h:AppOk H (.slice none 0 0) [] l' r):r.n=l'.length∧∀e,e∈H→e.b≠r.b:=by
 refine⟨by rw[h.1]; simp,?_⟩
 rcases h.2.2.2 with⟨r',e,_⟩|h'
 ·unfold RowL.hdr at e
  cases e
 ·exact h'
end Wx

namespace Wx
open Go Go.RowKit

section
variable {n k:Nat}
end
end Wx

namespace Wx
open Go Go.RowKit Go.Proofs

theorem Q1:Ty Try.prog 28 false 1:=⟨fun _=>by kernel_rfl,fun _=>by kernel_rfl,by decide⟩
theorem Qek:∀w,(zeroValue 28).run Try.prog w=.ok (.slice none 0 0) w:=fun _=>by kernel_rfl
theorem Qbe:Ty Try.prog 27 false 1:=⟨fun _=>by kernel_rfl,fun _=>by kernel_rfl,by decide⟩
theorem Qcx:AppTy Try.prog 28 28 32 3:=appTy_of (by kernel_rfl)
theorem app_Rows:AppTy Try.prog 27 27 28 1:=appTy_of (by kernel_rfl)
end Wx
