import Derived.Test.YtpiniclogfefjaaGreatJSolves31
namespace Wx

theorem Xq {α:Type} (X:List α) (i:Nat) (d:α):X.getD i d=X[i]?.getD d:=List.getD_eq_getElem?_getD
theorem Zv {α:Type} {X:List α} {i:Nat} {d:α} (h:X.length≤i):X.getD i d=d:=by rw[Xq,List.getElem?_eq_none h]; rfl
def Vp (A B:List (List Rat)) (n k:Nat):List (List Rat):=(List.range n).map fun i=>if i<k then A.getD i []++B.getD i []else A.getD i []
section
variable {A B:List (List Rat)} {n k:Nat}
theorem Qag:(Vp A B n k).length=n:=by unfold Vp; rw[List.length_map,List.length_range]
theorem Qaf {i:Nat} (h:i<n):(Vp A B n k).getD i []=if i<k then A.getD i []++B.getD i []else A.getD i []:=by
 unfold Vp
 rw[List.getD_eq_getElem?_getD,List.getElem?_map,List.getElem?_range h]
 rfl
theorem Kp {α:Type} {X Y:List α} {d:α} (hl:X.length=Y.length) (h:∀i,i<X.length→X.getD i d=Y.getD i d):X=Y:=by
 apply List.ext_getElem hl
 intro i h1 h2
 have:=h i h1
 rwa [List.getD_eq_getElem?_getD,List.getD_eq_getElem?_getD,List.getElem?_eq_getElem h1,List.getElem?_eq_getElem h2]at this
theorem joinX_zero:Vp A B A.length 0=A:=Kp (d:=[]) Qag fun i hi=>by
 rw[Qag]at hi
 rw[Qaf hi,if_neg (Nat.not_lt_zero _)]
theorem joinX_step (hk:k<n):(Vp A B n k).set k ((Vp A B n k).getD k []++B.getD k [])=Vp A B n (k+1):=by
 refine Kp (d:=[]) (by rw[List.length_set,Qag,Qag]) fun i hi=>?_
 rw[List.length_set,Qag]at hi
 rw[K4 (by rw[Qag]; exact hk),Qaf hi,Qaf hi,Qaf hk,if_neg (Nat.lt_irrefl _)]
 by_cases h:i=k
 ·subst h
  rw[if_pos rfl,if_pos (by omega)]
 ·rw[if_neg h]
  by_cases h1:i<k
  ·rw[if_pos h1,if_pos (by omega)]
  ·rw[if_neg h1,if_neg (by omega)]
end
def Vm (L:List Rat) (p:Rat) (k:Nat):List Rat:=L.mapIdx fun i x=>if i<k then x/p else x
section
variable {L:List Rat} {p:Rat} {k:Nat}
theorem Kv:(Vm L p k).length=L.length:=by unfold Vm; exact List.length_mapIdx
theorem Qbu {i:Nat} (hi:i<L.length):(Vm L p k).getD i 0=if i<k then L.getD i 0/p else L.getD i 0:=by
 unfold Vm
 rw[List.getD_eq_getElem?_getD,List.getElem?_mapIdx,List.getElem?_eq_getElem hi,List.getD_eq_getElem?_getD,List.getElem?_eq_getElem hi]
 rfl
theorem divAt_zero:Vm L p 0=L:=Kp (d:=0) Kv fun i hi=>by
 rw[Kv]at hi
 rw[Qbu hi,if_neg (Nat.not_lt_zero _)]
theorem divAt_step (hk:k<L.length):(Vm L p k).set k (L.getD k 0/p)=Vm L p (k+1):=by
 refine Kp (d:=0) (by rw[List.length_set,Kv,Kv]) fun i hi=>?_
 rw[List.length_set,Kv]at hi
 rw[K4 (by rw[Kv]; exact hk),Qbu hi,Qbu hi]
 by_cases h:i=k
 ·subst h
  rw[if_pos rfl,if_pos (by omega)]
 ·rw[if_neg h]
  by_cases h1:i<k
  ·rw[if_pos h1,if_pos (by omega)]
  ·rw[if_neg h1,if_neg (by omega)]
end
def Qco (x y:List Rat) (c:Nat):List Rat:=if x.getD c 0=0 then x else Ka x 0 y 0 (x.getD c 0) y.length
def K8 (X:List (List Rat)) (c k:Nat):List (List Rat):=X.mapIdx fun i row=>if i<k∧i≠c then Qco row (X.getD c []) c else row
theorem redRow_len (x y:List Rat) (c:Nat):(Qco x y c).length=x.length:=by
 unfold Qco
 split
 ·rfl
 ·exact Qb1
section
variable {X:List (List Rat)} {c k:Nat}
theorem Ki:(K8 X c k).length=X.length:=by unfold K8; exact List.length_mapIdx
theorem Wc {i:Nat} (hi:i<X.length):(K8 X c k).getD i []=if i<k∧i≠c then Qco (X.getD i []) (X.getD c []) c else X.getD i []:=by
 unfold K8
 rw[List.getD_eq_getElem?_getD,List.getElem?_mapIdx,List.getElem?_eq_getElem hi,List.getD_eq_getElem?_getD,List.getD_eq_getElem?_getD,List.getElem?_eq_getElem hi]
 rfl
theorem elimX_zero:K8 X c 0=X:=Kp (d:=[]) Ki fun i hi=>by
 rw[Ki]at hi
 rw[Wc hi,if_neg (by omega)]
theorem elimX_skip:K8 X k (k+1)=K8 X k k:=Kp (d:=[]) (by rw[Ki,Ki]) fun i hi=>by
 rw[Ki]at hi
 rw[Wc hi,Wc hi]
 by_cases h:i<k
 ·rw[if_pos (by omega),if_pos (by omega)]
 ·rw[if_neg (by omega),if_neg (by omega)]
theorem elimX_own (hc:c<X.length):(K8 X c k).getD c []=X.getD c []:=by rw[Wc hc,if_neg (by omega)]
theorem elimX_at {i:Nat} (hi:i<X.length) (h:k≤i):(K8 X c k).getD i []=X.getD i []:=by rw[Wc hi,if_neg (by omega)]
theorem elimX_step (hk:k<X.length) (hne:k≠c):(K8 X c k).set k (Qco (X.getD k []) (X.getD c []) c)=K8 X c (k+1):=by
 refine Kp (d:=[]) (by rw[List.length_set,Ki,Ki]) fun i hi=>?_
 rw[List.length_set,Ki]at hi
 rw[K4 (by rw[Ki]; exact hk),Wc hi,Wc hi]
 by_cases h:i=k
 ·subst h
  rw[if_pos rfl,if_pos (by omega)]
 ·rw[if_neg h]
  by_cases h1:i<k∧i≠c
  ·rw[if_pos h1,if_pos (by omega)]
  ·rw[if_neg h1,if_neg (by omega)]
end
def Vs (X:List (List Rat)) (c:Nat):List (List Rat):=X.set c (Vm (X.getD c []) ((X.getD c []).getD c 0) (X.getD c []).length)
def W5 (X:List (List Rat)) (c:Nat):List (List Rat):=K8 (Vs (Xg X X c) c) c X.length
def Ud (X:List (List Rat)):Nat→List (List Rat)
 |0=>X
 |c+1=>W5 (Ud X c) c
def Qa6 (X:List (List Rat)) (k:Nat):Prop:=∃c,c<k∧Xw (Ud X c) c<0
def Rect (m:Nat) (X:List (List Rat)):Prop:=∀i,i<X.length→(X.getD i []).length=m
def BdX (j:Nat) (X:List (List Rat)):Prop:=∀i k,BdR j ((X.getD i []).getD k 0)
theorem bd_mem {j:Nat} {l:List Rat} (h:∀k,BdR j (l.getD k 0)):∀x,x∈l→BdR j x:=by
 intro x hx
 obtain⟨k,hk⟩:=List.mem_iff_getElem?.1 hx
 have:=h k
 rwa [List.getD_eq_getElem?_getD,hk]at this
theorem Wj {α:Type} (X:List (List Rat)) (l:List α) (c:Nat):(Xg X l c).length=l.length:=by
 unfold Xg
 split
 ·rfl
 ·exact Qfq _ _ _
theorem pivL_get (X:List (List Rat)) {c i:Nat} (hc:c<X.length) (hi:i<X.length):∃j,j<X.length∧(Xg X X c).getD i []=X.getD j []:=by
 unfold Xg
 split
 ·exact⟨i,hi,rfl⟩
 ·have hr:=Ws hc
  have h2:c+(Xw X c).toNat<X.length:=by omega
  have e:=Qas (List.getElem?_eq_getElem hc) (List.getElem?_eq_getElem h2) i
  rw[List.getD_eq_getElem?_getD,e]
  split
  ·exact⟨c,hc,by rw[List.getD_eq_getElem?_getD,List.getElem?_eq_getElem hc]⟩
  ·split
   ·exact⟨_,h2,by rw[List.getD_eq_getElem?_getD,List.getElem?_eq_getElem h2]⟩
   ·exact⟨i,hi,by rw[List.getD_eq_getElem?_getD]⟩
theorem firstI_at {p:Nat→Bool} {n:Nat} (h:0≤Ju p n):p (Ju p n).toNat=true:=by
 unfold Ju at *
 split at h
 ·rename_i i hi
  have:=List.find?_some hi
  rw[Int.toNat_natCast]
  exact this
 ·omega
theorem piv_ne {X:List (List Rat)} {c:Nat} (hc:c<X.length) (h:0≤Xw X c):((Xg X X c).getD c []).getD c 0≠0:=by
 have h1:=firstI_at (p:=fun i=>!(decide ((X.getD (c+i) []).getD c 0=0))) h
 have h1:(!(decide ((X.getD (c+(Xw X c).toNat) []).getD c 0=0)))=true:=h1
 have h2:(X.getD (c+(Xw X c).toNat) []).getD c 0≠0:=by simpa using h1
 have hr:=Ws hc
 have hlt:c+(Xw X c).toNat<X.length:=by omega
 have e:(Xg X X c).getD c []=X.getD (c+(Xw X c).toNat) []:=by
  unfold Xg
  rw[if_neg (by omega),Xq (J1 _ _ _),Qas (List.getElem?_eq_getElem hc) (List.getElem?_eq_getElem hlt) c]
  by_cases h0:c=c+(Xw X c).toNat
  ·rw[if_pos h0,← h0,Xq,List.getElem?_eq_getElem hc]
  ·rw[if_neg h0,if_pos rfl,Xq,List.getElem?_eq_getElem hlt]
 rw[e]
 exact h2
section
variable {X:List (List Rat)} {m j c:Nat}
theorem Rect.piv (h:Rect m X) (hc:c<X.length):Rect m (Xg X X c):=fun i hi=>by
 rw[Wj]at hi
 obtain⟨q,hq,e⟩:=pivL_get X hc hi
 rw[e]
 exact h q hq
theorem Ut:(Vs X c).length=X.length:=List.length_set ..
theorem Rect.norm (h:Rect m X) (hc:c<X.length):Rect m (Vs X c):=fun i hi=>by
 rw[Ut]at hi
 unfold Vs
 rw[K4 hc]
 split
 ·rw[Kv]; exact h c hc
 ·exact h i hi
theorem Rect.elim {k:Nat} (h:Rect m X):Rect m (K8 X c k):=fun i hi=>by
 rw[Ki]at hi
 rw[Wc hi]
 split
 ·rw[redRow_len]; exact h i hi
 ·exact h i hi
theorem gjStep_len:(W5 X c).length=X.length:=by unfold W5; rw[Ki,Ut,Wj]
theorem Rect.step (h:Rect m X) (hc:c<X.length):Rect m (W5 X c):=((h.piv hc).norm (by rw[Wj]; exact hc)).elim
theorem U7:∀k,(Ud X k).length=X.length
 |0=>rfl
 |k+1=>by show(W5 (Ud X k) k).length=_; rw[gjStep_len,U7 k]
theorem Rect.gj (h:Rect m X):∀k,k≤X.length→Rect m (Ud X k)
 |0,_=>h
 |k+1,hk=>(Rect.gj h k (by omega)).step (by rw[U7]; omega)
theorem BdX.piv (h:BdX j X) (hc:c<X.length) (h1:1≤j):BdX j (Xg X X c):=fun i k=>by
 rcases Nat.lt_or_ge i X.length with hi|hi
 ·obtain⟨q,_,e⟩:=pivL_get X hc hi
  rw[e]
  exact h q k
 ·rw[Zv (X:=Xg X X c) (by rw[Wj]; exact hi)]
  exact bd_zero.mono h1
theorem bd_divAt {L:List Rat} {p:Rat} {k jp:Nat} (h:∀k,BdR j (L.getD k 0)) (hp:BdR jp p) (h1:1≤j):∀q,BdR (j+jp) ((Vm L p k).getD q 0):=fun q=>by
 rcases Nat.lt_or_ge q L.length with hq|hq
 ·rw[Qbu hq]
  split
  ·exact(h q).quo hp
  ·exact(h q).mono (by omega)
 ·rw[List.getD_eq_getElem?_getD,List.getElem?_eq_none (by rw[Kv]; exact hq)]
  exact bd_zero.mono (by omega)
theorem bd_redAt {x y:List Rat} {f:Rat} {s1 s2 k jy jf:Nat} (hx:∀k,BdR j (x.getD k 0)) (hy:∀k,BdR jy (y.getD k 0)) (hf:BdR jf f) (h1:1≤j):∀q,BdR (j+(jf+jy)+j+(jf+jy)+1) ((Ka x s1 y s2 f k).getD q 0):=fun q=>by
 rcases Nat.lt_or_ge q x.length with hq|hq
 ·unfold Ka
  rw[List.getD_eq_getElem?_getD,List.getElem?_mapIdx,List.getElem?_eq_getElem hq]
  have hx:=hx q
  rw[List.getD_eq_getElem?_getD,List.getElem?_eq_getElem hq]at hx
  show BdR _ (if s1≤q∧q<s1+k then x[q]-f*y.getD (s2+(q-s1)) 0 else x[q])
  split
  ·exact hx.sub_ (hf.mul (hy _))
  ·exact hx.mono (by omega)
 ·rw[List.getD_eq_getElem?_getD,List.getElem?_eq_none (by rw[Qb1]; exact hq)]
  exact bd_zero.mono (by omega)
theorem BdX.norm (h:BdX j X) (h1:1≤j) (hc:c<X.length):∀k,BdR (j+j) (((Vs X c).getD c []).getD k 0):=fun k=>by
 unfold Vs
 rw[K4 hc,if_pos rfl]
 exact bd_divAt (h c) (h c c) h1 k
theorem Qfy {i:Nat} (hi:i≠c) (hc:c<X.length):(Vs X c).getD i []=X.getD i []:=by
 unfold Vs
 rw[K4 hc,if_neg hi]
theorem BdX.step (h:BdX j X) (h1:1≤j) (hc:c<X.length):BdX (8*j+1) (W5 X c):=fun i k=>by
 have hp:=h.piv hc h1
 have hc':c<(Xg X X c).length:=by rw[Wj]; exact hc
 have hn:=hp.norm h1 hc'
 unfold W5
 rcases Nat.lt_or_ge i X.length with hi|hi
 ·rw[Wc (by rw[Ut,Wj]; exact hi)]
  split
  ·rename_i hh
   rw[Qfy hh.2 hc']
   unfold Qco
   split
   ·exact(hp i k).mono (by omega)
   ·exact(bd_redAt (hp i) hn (hp i c) h1 k).mono (by omega)
  ·rename_i hh
   have e:i=c:=by
    rcases Nat.lt_or_ge i X.length with h'|h'
    ·exact Classical.not_not.1 fun h''=>hh ⟨h',h''⟩
    ·omega
   subst e
   exact(hn k).mono (by omega)
 ·rw[Zv (X:=K8 _ _ _) (by rw[Ki,Ut,Wj]; exact hi)]
  exact bd_zero.mono (by omega)
def Kx (j:Nat):Nat→Nat
 |0=>j
 |k+1=>8*Kx j k+1
theorem gjJ_mono {k n:Nat} (h:k≤n):Kx j k≤Kx j n:=by
 induction n with
 |zero=>rw[Nat.le_zero.1 h]; exact Nat.le_refl _
 |succ n ih=>
  rcases Nat.lt_or_ge k (n+1)with h'|h'
  ·have:=ih (by omega)
   show Kx j k≤8*Kx j n+1
   omega
  ·rw[show k=n+1 by omega]
   exact Nat.le_refl _
theorem Qea (h1:1≤j):∀k,1≤Kx j k
 |0=>h1
 |k+1=>by show 1≤8*Kx j k+1; omega
theorem BdX.gj (h:BdX j X) (h1:1≤j):∀k,k≤X.length→BdX (Kx j k) (Ud X k)
 |0,_=>h
 |k+1,hk=>(BdX.gj h h1 k (by omega)).step (Qea h1 k) (by rw[U7]; omega)
end
open Go Go.RowKit
theorem divAt_item {L:List Rat} {p:Rat} {k q:Nat} (h:k<L.length):(Xj (Vm L p k) q)[k]?=some (itR (L.getD k 0)):=by
 rw[Kw (by rw[Kv]; exact h),Qbu h,if_neg (Nat.lt_irrefl _)]
def Qch (X:List (List Rat)) (n k:Nat):List (List Rat):=X.mapIdx fun i row=>if i<k then row.drop n else row
section
variable {X:List (List Rat)} {n k:Nat}
theorem Qae:(Qch X n k).length=X.length:=by unfold Qch; exact List.length_mapIdx
theorem Qbv {i:Nat} (hi:i<X.length):(Qch X n k).getD i []=if i<k then(X.getD i []).drop n else X.getD i []:=by
 unfold Qch
 rw[Xq,List.getElem?_mapIdx,List.getElem?_eq_getElem hi,Xq,List.getElem?_eq_getElem hi]
 rfl
theorem dropX_zero:Qch X n 0=X:=Kp (d:=[]) Qae fun i hi=>by
 rw[Qae]at hi
 rw[Qbv hi,if_neg (Nat.not_lt_zero _)]
theorem dropX_step (hk:k<X.length):(Qch X n k).set k ((X.getD k []).drop n)=Qch X n (k+1):=by
 refine Kp (d:=[]) (by rw[List.length_set,Qae,Qae]) fun i hi=>?_
 rw[List.length_set,Qae]at hi
 rw[K4 (by rw[Qae]; exact hk),Qbv hi,Qbv hi]
 by_cases h:i=k
 ·subst h
  rw[if_pos rfl,if_pos (by omega)]
 ·rw[if_neg h]
  by_cases h1:i<k
  ·rw[if_pos h1,if_pos (by omega)]
  ·rw[if_neg h1,if_neg (by omega)]
end
def Y8 (A B:List (List Rat)):List (List Rat):=Vp A B A.length A.length
def Wk (A B:List (List Rat)):List (List Rat):=Qch (Ud (Y8 A B) A.length) A.length A.length
theorem Kc {A B:List (List Rat)}:(Y8 A B).length=A.length:=Qag
theorem Qf7 {A B:List (List Rat)} {i:Nat} (h:i<A.length):(Y8 A B).getD i []=A.getD i []++B.getD i []:=by
 unfold Y8
 rw[Qaf h,if_pos h]
theorem Qg6 {A B:List (List Rat)} {n m:Nat} (hA:Rect n A) (hB:∀i,i<A.length→(B.getD i []).length=m):Rect (n+m) (Y8 A B):=fun i hi=>by
 rw[Kc]at hi
 rw[Qf7 hi,List.length_append,hA i hi,hB i hi]
theorem augX_bd {A B:List (List Rat)} {j:Nat} (hA:BdX j A) (hB:BdX j B) (h1:1≤j):BdX j (Y8 A B):=fun i k=>by
 rcases Nat.lt_or_ge i A.length with hi|hi
 ·rw[Qf7 hi,Xq]
  rcases Nat.lt_or_ge k (A.getD i []).length with hk|hk
  ·rw[List.getElem?_append_left hk,← Xq]
   exact hA i k
  ·rw[List.getElem?_append_right hk,← Xq]
   exact hB i _
 ·rw[Zv (X:=Y8 A B) (by rw[Kc]; exact hi)]
  exact bd_zero.mono h1
theorem heap_rats_drop {B:Nat→Prop} {w:World} {H:List Bk} {b n cap p s:Nat} {l:List Rat} (h:HpOk B w H) (he:(⟨b,3,true,Xj l p⟩:Bk)∈H) (hn:n=l.length) (hc:n≤cap) (hm:cap≤maxLen) (hs:s≤n):Qe (l.drop s) w (.slice (some ⟨b,s*3,none⟩) (n-s) (cap-s)):=by
 subst hn
 obtain⟨cs,T,h1,h2,_,h4⟩:=h.2.2 _ he
 have h1:w.heap[b]?=some (.cells cs.toArray T (0,0)):=h1
 have h2:(Xj l p).length*3≤cs.length:=h2
 rw[Uu]at h2
 have hl:(l.drop s).length=l.length-s:=List.length_drop ..
 unfold Qe
 rw[hl]
 refine⟨_,_,rfl,by omega,by omega,fun _=>⟨b,s*3,rfl,fun i hi=>⟨(cs.drop ((s+i)*3)).take 3,?_,fun j v hj=>?_,?_⟩⟩⟩
 ·rw[List.length_take,List.length_drop]
  omega
 ·rw[show s*3+i*3=(s+i)*3 by omega]
  exact W4 h1 _ _ j v hj
 ·have e:(l.drop s).getD i 0=l.getD (s+i) 0:=by rw[Xq,Xq,List.getElem?_drop]
  show Qv ((l.drop s).getD i 0) w _
  rw[e]
  exact h4 (s+i) _ (Kw (by omega))
theorem tops0_hdr {R:List RowL} {i:Nat} (h:i<R.length) (h0:(Xe R i).n≠0):(J3 R)[i]?=some (Zm (Xe R i).hdr):=by
 rw[Qb8 h,V6 h0]
theorem Inv.uniq {c:Cfg} {V:List Vr} {G:List Ent} {a:Act} {w:World} {id s:Nat} {H:List Bk} (hI:Inv c V [] G Qf a w) (n0:Nat) (hk:V[n0]?=some (Yi id s H)):∀e x,e∈H→x∈H→e.b=x.b→e.items=x.items:=by
 obtain⟨β,hI⟩:=hI
 intro e x he hx hb
 rw[Qho (hI.obj hk).1.2.1 he hx hb]
theorem post_mono {P:Program} {fn:Func} {R R':Ending→World→Prop} {a:Act} {w:World} (h:bodyPost P fn R .ret a w) (hm:∀e w',R e w'→R' e w'):bodyPost P fn R' .ret a w:=by
 obtain⟨h1,v,h2,h3⟩:=h
 exact⟨h1,v,h2,hm _ _ h3⟩
def pSol (S:Prop) (n:Nat) (f:Nat→List Rat):Qg:=fun w v=>(¬S→Xr (Qc 1 false n fun i=>Qe (f i)) (pB true) w v)∧(S→Xr (Qi (.slice none 0 0)) (pB false) w v)
theorem Z6 {M:Nat→Nat→Prop} {p q:Qg} {w w':World} {e:Ending} (h:RetB M p w e w') (hm:∀w v,p w v→q w v):RetB M q w e w':=by
 obtain⟨v,h1,h2,h3⟩:=h
 exact⟨v,h1,h2.imp fun w=>hm w v,h3⟩
end Wx

namespace Wx

def Z1 (b:List Rat):List (List Rat):=b.map fun x=>[x]
theorem Ko (b:List Rat):(Z1 b).length=b.length:=List.length_map ..
theorem Qek {b:List Rat} {i:Nat} (h:i<b.length):(Z1 b).getD i []=[b.getD i 0]:=by
 unfold Z1
 rw[Xq,List.getElem?_map,List.getElem?_eq_getElem h,Xq,List.getElem?_eq_getElem h]
 rfl
def W9 (r:List Rat) (C:List (List Rat)):List Rat:=C.map fun c=>Zq r c r.length
def Je (A C:List (List Rat)):List (List Rat):=A.map fun r=>W9 r C
theorem Qcm (r:List Rat) (C:List (List Rat)):(W9 r C).length=C.length:=List.length_map ..
theorem Qcl {r:List Rat} {C:List (List Rat)} {k:Nat} (h:k<C.length):(W9 r C).getD k 0=Zq r (C.getD k []) r.length:=by
 unfold W9
 rw[Xq,List.getElem?_map,List.getElem?_eq_getElem h,Xq,List.getElem?_eq_getElem h]
 rfl
theorem V7 (A C:List (List Rat)):(Je A C).length=A.length:=List.length_map ..
theorem Qbo {A C:List (List Rat)} {i:Nat} (h:i<A.length):(Je A C).getD i []=W9 (A.getD i []) C:=by
 unfold Je
 rw[Xq,List.getElem?_map,List.getElem?_eq_getElem h,Xq,List.getElem?_eq_getElem h]
 rfl
end Wx

namespace Wx

def redD (x y:List Rat) (c:Nat):List Rat:=if x.getD c 0/y.getD c 0=0 then x else Ka x 0 y 0 (x.getD c 0/y.getD c 0) y.length
theorem redD_len (x y:List Rat) (c:Nat):(redD x y c).length=x.length:=by
 unfold redD
 split
 ·rfl
 ·exact Qb1
def elimD (X:List (List Rat)) (c k:Nat):List (List Rat):=X.mapIdx fun i row=>if c<i∧i<k then redD row (X.getD c []) c else row
section
variable {X:List (List Rat)} {m j c k:Nat}
theorem Qfj:(elimD X c k).length=X.length:=by unfold elimD; exact List.length_mapIdx
theorem Ww {i:Nat} (hi:i<X.length):(elimD X c k).getD i []=if c<i∧i<k then redD (X.getD i []) (X.getD c []) c else X.getD i []:=by
 unfold elimD
 rw[Xq,List.getElem?_mapIdx,List.getElem?_eq_getElem hi,Xq,Xq,List.getElem?_eq_getElem hi]
 rfl
theorem elimD_start:elimD X c (c+1)=X:=Kp (d:=[]) Qfj fun i hi=>by
 rw[Qfj]at hi
 rw[Ww hi,if_neg (by omega)]
theorem elimD_at {i:Nat} (hi:i<X.length) (h:k≤i):(elimD X c k).getD i []=X.getD i []:=by rw[Ww hi,if_neg (by omega)]
theorem elimD_own (hc:c<X.length):(elimD X c k).getD c []=X.getD c []:=by rw[Ww hc,if_neg (by omega)]
def dX (X:List (List Rat)):Nat→List (List Rat)
 |0=>X
 |c+1=>elimD (Xg (dX X c) (dX X c) c) c X.length
def dD (X:List (List Rat)):Nat→Rat
 |0=>1
 |c+1=>(if Xw (dX X c) c>0 then -(dD X c)else dD X c)*((Xg (dX X c) (dX X c) c).getD c []).getD c 0
def dSing (X:List (List Rat)) (k:Nat):Prop:=∃c,c<k∧Xw (dX X c) c<0
open Classical in
noncomputable def detG (X:List (List Rat)):Rat:=if dSing X X.length then 0 else dD X X.length
theorem detG_sing (h:dSing X X.length):detG X=0:=if_pos h
theorem detG_reg (h:¬dSing X X.length):detG X=dD X X.length:=if_neg h
theorem dX_len:∀k,(dX X k).length=X.length
 |0=>rfl
 |k+1=>by show(elimD (Xg (dX X k) (dX X k) k) k X.length).length=_; rw[Qfj,Wj,dX_len k]
theorem Rect.elimD {k:Nat} (h:Rect m X):Rect m (Wx.elimD X c k):=fun i hi=>by
 rw[Qfj]at hi
 rw[Ww hi]
 split
 ·rw[redD_len]; exact h i hi
 ·exact h i hi
theorem Rect.dX (h:Rect m X):∀k,k≤X.length→Rect m (Wx.dX X k)
 |0,_=>h
 |k+1,hk=>((Rect.dX h k (by omega)).piv (by rw[dX_len]; omega)).elimD
def dJ (j:Nat):Nat→Nat
 |0=>1
 |k+1=>dJ j k+Kx j k
theorem bd_one1:BdR 1 (1:Rat):=⟨by show(1:Rat).num.natAbs<2^1; decide,by show(1:Rat).den<2^1; decide⟩
end
end Wx

namespace Wx

def Jj (A:List (List Rat)) (b:List Rat):List Rat:=Vl (Wk A (Z1 b)) 0
def Sing (A:List (List Rat)) (b:List Rat):Prop:=Qa6 (Y8 A (Z1 b)) A.length
section
variable {A B:List (List Rat)} {b:List Rat} {m j:Nat}
theorem Jx:(Wk A B).length=A.length:=by unfold Wk; rw[Qae,U7,Kc]
theorem solX_get {i:Nat} (h:i<A.length):(Wk A B).getD i []=((Ud (Y8 A B) A.length).getD i []).drop A.length:=by
 unfold Wk
 rw[Qbv (by rw[U7,Kc]; exact h),if_pos h]
theorem Qhx (hA:Rect A.length A) (hB:∀i,i<A.length→(B.getD i []).length=m):Rect m (Wk A B):=fun i hi=>by
 rw[Jx]at hi
 have h:=(Qg6 hA hB).gj A.length (by rw[Kc]; exact Nat.le_refl _) i (by rw[U7,Kc]; exact hi)
 rw[solX_get hi,List.length_drop,h]
 omega
theorem solX_bd (hA:BdX j A) (hB:BdX j B) (h1:1≤j):BdX (Kx j A.length) (Wk A B):=fun i k=>by
 have h:=(augX_bd hA hB h1).gj h1 A.length (by rw[Kc]; exact Nat.le_refl _)
 rcases Nat.lt_or_ge i A.length with hi|hi
 ·rw[solX_get hi,Xq,List.getElem?_drop,← Xq]
  exact h i _
 ·rw[Zv (X:=Wk A B) (by rw[Jx]; exact hi)]
  exact bd_zero.mono (Qea h1 _)
theorem Wv {i:Nat} (h:i<b.length):((Z1 b).getD i []).length=1:=by rw[Qek h]; rfl
theorem Qbs (hb:∀k,BdR j (b.getD k 0)) (h1:1≤j):BdX j (Z1 b):=fun i k=>by
 rcases Nat.lt_or_ge i b.length with hi|hi
 ·rw[Qek hi]
  cases k with
  |zero=>exact hb i
  |succ k=>exact bd_zero.mono h1
 ·rw[Zv (X:=Z1 b) (by rw[Ko]; exact hi)]
  exact bd_zero.mono h1
theorem Qgw:(Jj A b).length=A.length:=by unfold Jj; rw[Kh,Jx]
theorem Wu:Rect A.length (Qq A):=fun i hi=>by
 rw[Yu]at hi
 rw[We hi,Kh]
theorem bd_col (hb:BdX j B) (h1:1≤j) (k:Nat):∀q,BdR j ((Vl B k).getD q 0):=fun q=>by
 rcases Nat.lt_or_ge q B.length with h|h
 ·rw[Ur h]
  exact hb q k
 ·rw[Zv (by rw[Kh]; exact h)]
  exact bd_zero.mono h1
theorem Wl (hA:BdX j A) (h1:1≤j):BdX j (Qq A):=fun i k=>by
 rcases Nat.lt_or_ge i (A.getD 0 []).length with hi|hi
 ·rw[We hi]
  exact bd_col hA h1 i k
 ·rw[Zv (X:=Qq A) (by rw[Yu]; exact hi)]
  exact bd_zero.mono h1
theorem Qdj {C:List (List Rat)}:Rect C.length (Je A C):=fun i hi=>by
 rw[V7]at hi
 rw[Qbo hi,Qcm]
theorem Qcu (j:Nat):∀k,1≤Z8 j k
 |0=>Nat.le_refl _
 |k+1=>by show 1≤Z8 j k+j+Z8 j k+j+1; omega
theorem mulT_bd {C:List (List Rat)} {j1 j2 n:Nat} (hA:BdX j1 A) (hC:BdX j2 C) (hn:∀i,i<A.length→(A.getD i []).length≤n):BdX (Z8 (j1+j2) n) (Je A C):=fun i k=>by
 rcases Nat.lt_or_ge i A.length with hi|hi
 ·rw[Qbo hi]
  rcases Nat.lt_or_ge k C.length with hk|hk
  ·rw[Qcl hk]
   exact(bd_dot (hA i) (hC k) _).mono (Qhd _ (hn i hi))
  ·rw[Zv (by rw[Qcm]; exact hk)]
   exact bd_zero.mono (Qcu _ _)
 ·rw[Zv (X:=Je A C) (by rw[V7]; exact hi)]
  exact bd_zero.mono (Qcu _ _)
def Jy (A:List (List Rat)):List (List Rat):=Je (Qq A) (Qq A)
def Kl (A:List (List Rat)) (b:List Rat):List Rat:=Vl (Je (Qq A) (Qq (Z1 b))) 0
end
end Wx

namespace Wx
open Go Go.RowKit Go.Proofs

theorem Xn:Ty Tryz.prog 39 false 1:=⟨fun _=>by kernel_rfl,fun _=>by kernel_rfl,by decide⟩
theorem Qhz:∀w,(zeroValue 39).run Tryz.prog w=.ok (.slice none 0 0) w:=fun _=>by kernel_rfl
theorem Kk:Ty Tryz.prog 25 false 1:=⟨fun _=>by kernel_rfl,fun _=>by kernel_rfl,by decide⟩
theorem ty_u32s:Ty Tryz.prog 40 false 1:=⟨fun _=>by kernel_rfl,fun _=>by kernel_rfl,by decide⟩
theorem Qdx:AppTy Tryz.prog 39 39 38 3:=appTy_of (by kernel_rfl)
theorem app_Rows:AppTy Tryz.prog 25 25 39 1:=appTy_of (by kernel_rfl)
end Wx
