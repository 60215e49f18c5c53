import Derived.Test.YtpiniclogfefjaaGreatJMatrices32
import Derived.Test.YtpiniclogfefjaaGreatJMatrices24
namespace Wx
open Go Go.RowKit

def J8 (k:Nat) (f:Nat→Qm) (z:Qm):Nat→Qm:=fun i=>if i<k then f i else z
theorem U5 {k n:Nat} {f:Nat→Qm} {z p:Qm} (hp:∀w v,p w v→f k w v):∀i,i<n→∀w v,setP (J8 k f z) k p i w v→J8 (k+1) f z i w v:=fun i _ w v h=>by
 unfold setP at h
 unfold J8 at h ⊢
 by_cases hi:i=k
 ·subst hi
  rw[if_pos rfl]at h
  rw[if_pos (Nat.lt_succ_self _)]
  exact hp w v h
 ·rw[if_neg hi]at h
  by_cases h1:i<k
  ·rw[if_pos h1]at h; rw[if_pos (by omega)]; exact h
  ·rw[if_neg h1]at h; rw[if_neg (by omega)]; exact h
theorem Qdj {f:Nat→Qm} {z:Qm} {n:Nat}:∀i,i<n→∀w v,(fun _=>z) i w v→J8 0 f z i w v:=fun _ _ _ _ h=>h
theorem Qee {n:Nat} {f:Nat→Qm} {z:Qm}:∀i,i<n→∀w v,J8 n f z i w v→f i w v:=fun i hi w v h=>by
 have e:J8 n f z i=f i:=if_pos hi
 rw[e]at h
 exact h
theorem filP_lt {k i:Nat} {f:Nat→Qm} {z:Qm} (h:i<k):∀w v,J8 k f z i w v→f i w v:=fun w v q=>by
 have e:J8 k f z i=f i:=if_pos h
 rw[e]at q
 exact q
end Wx

namespace Wx

def Ve (A:List (List Rat)) (k:Nat):List Rat:=A.map fun r=>r.getD k 0
theorem Va (A:List (List Rat)) (k:Nat):(Ve A k).length=A.length:=List.length_map ..
theorem Qbi {A:List (List Rat)} {k i:Nat} (h:i<A.length):(Ve A k).getD i 0=(A.getD i []).getD k 0:=by
 unfold Ve
 rw[List.getD_eq_getElem?_getD,List.getElem?_map,List.getElem?_eq_getElem h,List.getD_eq_getElem?_getD,List.getD_eq_getElem?_getD,List.getElem?_eq_getElem h]
 simp[List.getD_eq_getElem?_getD]
def Xu (A:List (List Rat)):List (List Rat):=(List.range (A.getD 0 []).length).map (Ve A)
theorem Wv (A:List (List Rat)):(Xu A).length=(A.getD 0 []).length:=by unfold Xu; rw[List.length_map,List.length_range]
theorem Qah {A:List (List Rat)} {k:Nat} (h:k<(A.getD 0 []).length):(Xu A).getD k []=Ve A k:=by
 unfold Xu
 rw[List.getD_eq_getElem?_getD,List.getElem?_map,List.getElem?_range h]
 rfl
def Wk (A:List (List Rat)) (n k j:Nat):List (List Rat):=(List.range n).map fun i=>if i<k then Ve A i else if i=k then(Ve A i).take j else[]
section
variable {A:List (List Rat)} {n k j:Nat}
theorem bldX_len:(Wk A n k j).length=n:=by unfold Wk; rw[List.length_map,List.length_range]
theorem bldX_get {i:Nat} (h:i<n):(Wk A n k j).getD i []=if i<k then Ve A i else if i=k then(Ve A i).take j else[]:=by
 unfold Wk
 rw[List.getD_eq_getElem?_getD,List.getElem?_map,List.getElem?_range h]
 rfl
theorem bldX_zero:Wk A n 0 0=List.replicate n []:=by
 unfold Wk
 apply List.ext_getElem?
 intro i
 rw[List.getElem?_map,List.getElem?_replicate]
 by_cases h:i<n
 ·rw[List.getElem?_range h,if_pos h]
  show some (if i<0 then _ else if i=0 then(Ve A i).take 0 else[])=_
  rw[if_neg (Nat.not_lt_zero _),List.take_zero]
  split<;>rfl
 ·rw[List.getElem?_eq_none (by simpa using h),if_neg h]
  rfl
theorem bldX_next:Wk A n k A.length=Wk A n (k+1) 0:=by
 unfold Wk
 refine List.map_congr_left fun i _=>?_
 by_cases h1:i<k
 ·rw[if_pos h1,if_pos (by omega)]
 ·rw[if_neg h1]
  by_cases h2:i=k
  ·rw[if_pos h2,if_pos (by omega),← Va A i,List.take_length]
  ·rw[if_neg h2,if_neg (by omega)]
   split
   ·rw[List.take_zero]
   ·rfl
theorem bldX_step (hk:k<n) (hj:j<A.length):(Wk A n k j).set k ((Wk A n k j).getD k []++[(A.getD j []).getD k 0])=Wk A n k (j+1):=by
 rw[bldX_get hk,if_neg (Nat.lt_irrefl _),if_pos rfl]
 apply List.ext_getElem?
 intro i
 by_cases h:i=k
 ·subst h
  rw[List.getElem?_set_self (by rw[bldX_len]; exact hk)]
  unfold Wk
  rw[List.getElem?_map,List.getElem?_range hk]
  show _=some (if i<i then _ else if i=i then(Ve A i).take (j+1)else[])
  rw[if_neg (Nat.lt_irrefl _),if_pos rfl,List.take_add_one]
  congr 2
  have hjl:j<(Ve A i).length:=by rw[Va]; exact hj
  rw[← Qbi hj,List.getElem?_eq_getElem hjl,List.getD_eq_getElem?_getD,List.getElem?_eq_getElem hjl]
  rfl
 ·rw[List.getElem?_set_ne (Ne.symm h)]
  unfold Wk
  rw[List.getElem?_map,List.getElem?_map]
  cases hr:(List.range n)[i]? with
  |none=>rfl
  |some q=>
   have hq:q=i:=by
    have:=List.getElem?_eq_some_iff.1 hr
    obtain⟨_,e⟩:=this
    simpa using e.symm
   subst hq
   show some (if q<k then _ else if q=k then _ else _)=some (if q<k then _ else if q=k then _ else _)
   by_cases h1:q<k
   ·rw[if_pos h1,if_pos h1]
   ·rw[if_neg h1,if_neg h,if_neg h1,if_neg h]
theorem bldX_end:Wk A (A.getD 0 []).length (A.getD 0 []).length 0=Xu A:=by
 unfold Wk Xu
 refine List.map_congr_left fun i hi=>?_
 rw[if_pos (List.mem_range.1 hi)]
end
end Wx

namespace Wx

def Jy (x y:List Rat):Nat→Rat
 |0=>0
 |k+1=>Jy x y k+x.getD k 0*y.getD k 0
def K6 (j:Nat):Nat→Nat
 |0=>1
 |k+1=>K6 j k+j+K6 j k+j+1
theorem dotJ_mono (j:Nat):∀{k n:Nat},k≤n→K6 j k≤K6 j n:=by
 intro k n h
 induction n with
 |zero=>rw[Nat.le_zero.1 h]; exact Nat.le_refl _
 |succ n ih=>
  rcases Nat.lt_or_ge k (n+1)with h'|h'
  ·have:=ih (by omega)
   show K6 j k≤K6 j n+j+K6 j n+j+1
   omega
  ·rw[show k=n+1 by omega]
   exact Nat.le_refl _
theorem bd_dot {x y:List Rat} {j1 j2:Nat} (hx:∀k,BdR j1 (x.getD k 0)) (hy:∀k,BdR j2 (y.getD k 0)):∀k,BdR (K6 (j1+j2) k) (Jy x y k)
 |0=>bd_zero
 |k+1=>(bd_dot hx hy k).add ((hx k).mul (hy k))
theorem dot_skip {x y:List Rat} {k:Nat} (h:(!(decide (x.getD k 0=0))&&!(decide (y.getD k 0=0)))=false):Jy x y (k+1)=Jy x y k:=by
 show Jy x y k+_=_
 have:x.getD k 0=0∨y.getD k 0=0:=by
  by_cases h1:x.getD k 0=0
  ·exact .inl h1
  ·by_cases h2:y.getD k 0=0
   ·exact .inr h2
   ·rw[decide_eq_false h1,decide_eq_false h2]at h
    cases h
 rcases this with h|h<;>rw[h]
 ·rw[Rat.zero_mul,Rat.add_zero]
 ·rw[Rat.mul_zero,Rat.add_zero]
end Wx

namespace Wx
open Go Go.RowKit

def hdr0 (r:RowL):Value:=if r.n=0 then .slice none 0 0 else r.hdr
theorem hdr0_nil {r:RowL} (h:r.n=0):hdr0 r=.slice none 0 0:=if_pos h
theorem Qcp {r:RowL} (h:r.n≠0):hdr0 r=r.hdr:=if_neg h
def Qat (R:List RowL):List It:=R.map fun r=>Kp (hdr0 r)
theorem tops0_len (R:List RowL):(Qat R).length=R.length:=List.length_map ..
theorem tops0_get {R:List RowL} {i:Nat} (h:i<R.length):(Qat R)[i]?=some (Kp (hdr0 (Xs R i))):=by
 unfold Qat
 rw[List.getElem?_map,V7 h]
 rfl
theorem tops0_set (R:List RowL) (i:Nat) (r:RowL):(Qat R).set i (Kp (hdr0 r))=Qat (R.set i r):=by
 unfold Qat
 rw[List.map_set]
structure BldOk (g n:Nat) (R:List RowL) (X:List (List Rat)) (H:List Bk):Prop where
 top:(⟨g,1,false,Qat R⟩:Bk)∈H
 len:R.length=n∧X.length=n
 num:∀i,i<n→(Xs R i).n=(X.getD i []).length
 rows:∀i,i<n→(Xs R i).n≠0→(Xs R i).n≤(Xs R i).cap∧(Xs R i).cap≤maxLen∧(⟨(Xs R i).b,3,true,Yj (X.getD i []) (Xs R i).cap⟩:Bk)∈H∧(Xs R i).b≠g
 apart:∀i j,i<n→j<n→i≠j→(Xs R i).n≠0→(Xs R j).n≠0→(Xs R i).b≠(Xs R j).b
theorem hset_other {H:List Bk} {b idx:Nat} {it:It} {e:Bk} (he:e∈H) (hb:e.b≠b):e∈Zz H b idx it:=List.mem_map.2 ⟨e,he,if_neg hb⟩
theorem rowAt_set {R:List RowL} {i j:Nat} {r:RowL} (hi:i<R.length):Xs (R.set i r) j=if j=i then r else Xs R j:=by
 unfold Xs
 rw[List.getD_eq_getElem?_getD,List.getD_eq_getElem?_getD]
 by_cases h:j=i
 ·subst h
  rw[if_pos rfl,List.getElem?_set_self hi]
  rfl
 ·rw[if_neg h,List.getElem?_set_ne (Ne.symm h)]
theorem getD_set {α:Type} {X:List α} {i j:Nat} {x d:α} (hi:i<X.length):(X.set i x).getD j d=if j=i then x else X.getD j d:=by
 rw[List.getD_eq_getElem?_getD,List.getD_eq_getElem?_getD]
 by_cases h:j=i
 ·subst h
  rw[if_pos rfl,List.getElem?_set_self hi]
  rfl
 ·rw[if_neg h,List.getElem?_set_ne (Ne.symm h)]
section
variable {g n:Nat} {R:List RowL} {X:List (List Rat)} {H:List Bk}
theorem BldOk.case (h:BldOk g n R X H) {i:Nat} (hi:i<n):(hdr0 (Xs R i)=.slice none 0 0∧X.getD i []=[])∨∃r:RowL,hdr0 (Xs R i)=r.hdr∧r.n=(X.getD i []).length∧r.n≤r.cap∧r.cap≤maxLen∧(⟨r.b,3,true,Yj (X.getD i []) r.cap⟩:Bk)∈H:=by
 by_cases h0:(Xs R i).n=0
 ·exact .inl ⟨hdr0_nil h0,List.eq_nil_of_length_eq_zero (by rw[← h.num i hi]; exact h0)⟩
 ·obtain⟨k1,k2,k3,_⟩:=h.rows i hi h0
  exact .inr ⟨Xs R i,Qcp h0,h.num i hi,k1,k2,k3⟩
theorem BldOk.off (h:BldOk g n R X H) {i:Nat} (hi:i<n) {r':RowL} (hA:(∃r:RowL,hdr0 (Xs R i)=r.hdr∧r'.b=r.b)∨∀e,e∈H→e.b≠r'.b):g≠r'.b:=by
 rcases hA with⟨r,e,e2⟩|hn
 ·by_cases h0:(Xs R i).n=0
  ·rw[hdr0_nil h0]at e
   unfold RowL.hdr at e
   cases e
  ·rw[Qcp h0]at e
   have:=hdr_inj _ _ e
   subst this
   rw[e2]
   exact Ne.symm (h.rows i hi h0).2.2.2
 ·exact hn _ h.top
theorem BldOk.put (h:BldOk g n R X H) {i:Nat} (hi:i<n) {l:List Rat} {r':RowL} (hl:0<l.length) (h1:r'.n=l.length) (h2:r'.n≤r'.cap) (h3:r'.cap≤maxLen) (hA:(∃r:RowL,hdr0 (Xs R i)=r.hdr∧r'.b=r.b)∨∀e,e∈H→e.b≠r'.b):
  BldOk g n (R.set i r') (X.set i l) (Zz (appH H r'.b (Yj l r'.cap)) g i (Kp r'.hdr)):=by
 have hoff:=h.off hi hA
 have hRl:=h.len.1
 have hXl:=h.len.2
 have hr0:r'.n≠0:=by rw[h1]; omega
 have hoth:∀j,j<n→j≠i→(Xs R j).n≠0→(Xs R j).b≠r'.b:=by
  intro j hj hji hj0
  rcases hA with⟨r,e,e2⟩|hn
  ·by_cases h0:(Xs R i).n=0
   ·rw[hdr0_nil h0]at e
    unfold RowL.hdr at e
    cases e
   ·rw[Qcp h0]at e
    have:=hdr_inj _ _ e
    subst this
    rw[e2]
    exact h.apart j i hj hi hji hj0 h0
  ·exact hn _ (h.rows j hj hj0).2.2.1
 have eR:∀j,Xs (R.set i r') j=if j=i then r' else Xs R j:=fun j=>rowAt_set (by omega)
 have eX:∀j,(X.set i l).getD j []=if j=i then l else X.getD j []:=fun j=>getD_set (by omega)
 refine⟨?_,by rw[List.length_set,List.length_set]; exact h.len,fun j hj=>?_,fun j hj hj0=>?_,fun j q hj hq hne hj0 hq0=>?_⟩
 ·rw[← tops0_set,Qcp hr0]
  exact hset_mem (Qbv h.top hoff) rfl
 ·rw[eR,eX]
  split
  ·exact h1
  ·exact h.num j hj
 ·rw[eR]at hj0 ⊢
  rw[eX]
  split at hj0
  ·rename_i e
   rw[if_pos e,if_pos e]
   exact⟨h2,h3,hset_other appH_mem (Ne.symm hoff),Ne.symm hoff⟩
  ·rename_i e
   rw[if_neg e,if_neg e]
   obtain⟨k1,k2,k3,k4⟩:=h.rows j hj hj0
   exact⟨k1,k2,hset_other (Qbv k3 (hoth j hj e hj0)) k4,k4⟩
 ·rw[eR]at hj0 ⊢
  rw[eR]at hq0 ⊢
  by_cases e1:j=i
  ·have e2:q≠i:=fun e=>hne (e1.trans e.symm)
   rw[if_pos e1,if_neg e2]
   rw[if_neg e2]at hq0
   exact Ne.symm (hoth q hq e2 hq0)
  ·rw[if_neg e1]at hj0 ⊢
   by_cases e2:q=i
   ·rw[if_pos e2]
    exact hoth j hj e1 hj0
   ·rw[if_neg e2]at hq0 ⊢
    exact h.apart j q hj hq hne hj0 hq0
theorem BldOk.append (h:BldOk g n R X H) {i:Nat} (hi:i<n) {l':List Rat} {r':RowL} (hl:0<l'.length) (hA:AppOk H (hdr0 (Xs R i)) (X.getD i []) l' r'):
  BldOk g n (R.set i r') (X.set i (X.getD i []++l')) (Zz (appH H r'.b (Yj (X.getD i []++l') r'.cap)) g i (Kp r'.hdr)):=
 h.put hi (by rw[List.length_append]; omega) (by rw[List.length_append]; exact hA.1) hA.2.1 hA.2.2.1 hA.2.2.2
theorem bld_nil (g n:Nat):BldOk g n (List.replicate n ⟨0,0,0⟩) (List.replicate n []) [⟨g,1,false,List.replicate n (Kp (.slice none 0 0))⟩]:=by
 have e:∀i,Xs (List.replicate n ⟨0,0,0⟩) i=⟨0,0,0⟩:=fun i=>by
  unfold Xs
  rw[List.getD_eq_getElem?_getD,List.getElem?_replicate]
  split<;>rfl
 refine⟨?_,by simp,fun i hi=>?_,fun i hi h0=>?_,fun i j _ _ _ h0=>?_⟩
 ·unfold Qat
  rw[List.map_replicate]
  exact List.mem_singleton.2 rfl
 ·rw[e,List.getD_eq_getElem?_getD,List.getElem?_replicate]
  split<;>rfl
 ·rw[e]at h0
  exact absurd rfl h0
 ·rw[e]at h0
  exact absurd rfl h0
theorem BldOk.read {cap:Nat} (h:BldOk g n R X H) (hn:n≤cap) (hm:cap≤maxLen) (h0:∀i,i<n→0<(X.getD i []).length):∀B w,HpOk B w H→Qj 1 false n (fun i=>Qd (X.getD i [])) w (.slice (some ⟨g,0,none⟩) n cap):=by
 intro B w hH
 obtain⟨cs,T,h1,h2,_,h4⟩:=hH.2.2 _ h.top
 have h1:w.heap[g]?=some (.cells cs.toArray T (0,0)):=h1
 have h2:(Qat R).length*1≤cs.length:=h2
 rw[tops0_len,h.len.1]at h2
 refine⟨_,_,rfl,hn,hm,fun _=>⟨g,0,rfl,fun i hi=>⟨(cs.drop i).take 1,?_,fun j v hj=>?_,?_⟩⟩⟩
 ·rw[List.length_take,List.length_drop]
  omega
 ·rw[Nat.mul_one,Nat.zero_add]
  exact Ww h1 _ _ j v hj
 ·have h5:=h4 i _ (tops0_get (by rw[h.len.1]; exact hi))
  have h5:Xj false ((cs.drop (i*1)).take 1)=hdr0 (Xs R i):=h5
  rw[Nat.mul_one]at h5
  have hr0:(Xs R i).n≠0:=by
   have:=h0 i hi
   rw[h.num i hi]
   omega
  obtain⟨k1,k2,k3,_⟩:=h.rows i hi hr0
  show Qd (X.getD i []) w (Xj false ((cs.drop i).take 1))
  rw[h5,Qcp hr0]
  exact heap_rats hH k3 (h.num i hi) k1 k2
end
end Wx

namespace Wx

theorem Y2 {α:Type} (X:List α) (i:Nat) (d:α):X.getD i d=X[i]?.getD d:=List.getD_eq_getElem?_getD
theorem Vg {α:Type} {X:List α} {i:Nat} {d:α} (h:X.length≤i):X.getD i d=d:=by rw[Y2,List.getElem?_eq_none h]; rfl
section
variable {A B:List (List Rat)} {n k:Nat}
theorem list_ext {α:Type} {X Y:List α} {d:α} (hl:X.length=Y.length) (h:∀i,i<X.length→X.getD i d=Y.getD i d):X=Y:=by
 apply List.ext_getElem hl
 intro i h1 h2
 have:=h i h1
 rwa [List.getD_eq_getElem?_getD,List.getD_eq_getElem?_getD,List.getElem?_eq_getElem h1,List.getElem?_eq_getElem h2]at this
end
section
variable {L:List Rat} {p:Rat} {k:Nat}
end
section
variable {X:List (List Rat)} {c k:Nat}
end
def Rect (m:Nat) (X:List (List Rat)):Prop:=∀i,i<X.length→(X.getD i []).length=m
def BdX (j:Nat) (X:List (List Rat)):Prop:=∀i k,BdR j ((X.getD i []).getD k 0)
theorem bd_mem {j:Nat} {l:List Rat} (h:∀k,BdR j (l.getD k 0)):∀x,x∈l→BdR j x:=by
 intro x hx
 obtain⟨k,hk⟩:=List.mem_iff_getElem?.1 hx
 have:=h k
 rwa [List.getD_eq_getElem?_getD,hk]at this
theorem Qc1 {α:Type} (X:List (List Rat)) (l:List α) (c:Nat):(Zg X l c).length=l.length:=by
 unfold Zg
 split
 ·rfl
 ·exact Qdp _ _ _
theorem pivL_get (X:List (List Rat)) {c i:Nat} (hc:c<X.length) (hi:i<X.length):∃j,j<X.length∧(Zg X X c).getD i []=X.getD j []:=by
 unfold Zg
 split
 ·exact⟨i,hi,rfl⟩
 ·have hr:=Vh hc
  have h2:c+(X5 X c).toNat<X.length:=by omega
  have e:=Ua (List.getElem?_eq_getElem hc) (List.getElem?_eq_getElem h2) i
  rw[List.getD_eq_getElem?_getD,e]
  split
  ·exact⟨c,hc,by rw[List.getD_eq_getElem?_getD,List.getElem?_eq_getElem hc]⟩
  ·split
   ·exact⟨_,h2,by rw[List.getD_eq_getElem?_getD,List.getElem?_eq_getElem h2]⟩
   ·exact⟨i,hi,by rw[List.getD_eq_getElem?_getD]⟩
theorem firstI_at {p:Nat→Bool} {n:Nat} (h:0≤Z3 p n):p (Z3 p n).toNat=true:=by
 unfold Z3 at *
 split at h
 ·rename_i i hi
  have:=List.find?_some hi
  rw[Int.toNat_natCast]
  exact this
 ·omega
theorem piv_ne {X:List (List Rat)} {c:Nat} (hc:c<X.length) (h:0≤X5 X c):((Zg X X c).getD c []).getD c 0≠0:=by
 have h1:=firstI_at (p:=fun i=>!(decide ((X.getD (c+i) []).getD c 0=0))) h
 have h1:(!(decide ((X.getD (c+(X5 X c).toNat) []).getD c 0=0)))=true:=h1
 have h2:(X.getD (c+(X5 X c).toNat) []).getD c 0≠0:=by simpa using h1
 have hr:=Vh hc
 have hlt:c+(X5 X c).toNat<X.length:=by omega
 have e:(Zg X X c).getD c []=X.getD (c+(X5 X c).toNat) []:=by
  unfold Zg
  rw[if_neg (by omega),Y2 (Km _ _ _),Ua (List.getElem?_eq_getElem hc) (List.getElem?_eq_getElem hlt) c]
  by_cases h0:c=c+(X5 X c).toNat
  ·rw[if_pos h0,← h0,Y2,List.getElem?_eq_getElem hc]
  ·rw[if_neg h0,if_pos rfl,Y2,List.getElem?_eq_getElem hlt]
 rw[e]
 exact h2
section
variable {X:List (List Rat)} {m j c:Nat}
theorem Rect.piv (h:Rect m X) (hc:c<X.length):Rect m (Zg X X c):=fun i hi=>by
 rw[Qc1]at hi
 obtain⟨q,hq,e⟩:=pivL_get X hc hi
 rw[e]
 exact h q hq
theorem BdX.piv (h:BdX j X) (hc:c<X.length) (h1:1≤j):BdX j (Zg X X c):=fun i k=>by
 rcases Nat.lt_or_ge i X.length with hi|hi
 ·obtain⟨q,_,e⟩:=pivL_get X hc hi
  rw[e]
  exact h q k
 ·rw[Vg (X:=Zg X X c) (by rw[Qc1]; exact hi)]
  exact bd_zero.mono h1
theorem bd_redAt {x y:List Rat} {f:Rat} {s1 s2 k jy jf:Nat} (hx:∀k,BdR j (x.getD k 0)) (hy:∀k,BdR jy (y.getD k 0)) (hf:BdR jf f) (h1:1≤j):∀q,BdR (j+(jf+jy)+j+(jf+jy)+1) ((Jx x s1 y s2 f k).getD q 0):=fun q=>by
 rcases Nat.lt_or_ge q x.length with hq|hq
 ·unfold Jx
  rw[List.getD_eq_getElem?_getD,List.getElem?_mapIdx,List.getElem?_eq_getElem hq]
  have hx:=hx q
  rw[List.getD_eq_getElem?_getD,List.getElem?_eq_getElem hq]at hx
  show BdR _ (if s1≤q∧q<s1+k then x[q]-f*y.getD (s2+(q-s1)) 0 else x[q])
  split
  ·exact hx.sub_ (hf.mul (hy _))
  ·exact hx.mono (by omega)
 ·rw[List.getD_eq_getElem?_getD,List.getElem?_eq_none (by rw[Qbk]; exact hq)]
  exact bd_zero.mono (by omega)
def V0 (j:Nat):Nat→Nat
 |0=>j
 |k+1=>8*V0 j k+1
theorem gjJ_mono {k n:Nat} (h:k≤n):V0 j k≤V0 j n:=by
 induction n with
 |zero=>rw[Nat.le_zero.1 h]; exact Nat.le_refl _
 |succ n ih=>
  rcases Nat.lt_or_ge k (n+1)with h'|h'
  ·have:=ih (by omega)
   show V0 j k≤8*V0 j n+1
   omega
  ·rw[show k=n+1 by omega]
   exact Nat.le_refl _
theorem gjJ_pos (h1:1≤j):∀k,1≤V0 j k
 |0=>h1
 |k+1=>by show 1≤8*V0 j k+1; omega
end
open Go Go.RowKit
section
variable {X:List (List Rat)} {n k:Nat}
end
theorem Inv.uniq {c:Cfg} {V:List Vr} {G:List Ent} {a:Act} {w:World} {id s:Nat} {H:List Bk} (hI:Inv c V [] G Qi a w) (n0:Nat) (hk:V[n0]?=some (Y9 id s H)):∀e x,e∈H→x∈H→e.b=x.b→e.items=x.items:=by
 obtain⟨β,hI⟩:=hI
 intro e x he hx hb
 rw[Qfc (hI.obj hk).1.2.1 he hx hb]
theorem Qdn {M:Nat→Nat→Prop} {p q:Qm} {w w':World} {e:Ending} (h:RetB M p w e w') (hm:∀w v,p w v→q w v):RetB M q w e w':=by
 obtain⟨v,h1,h2,h3⟩:=h
 exact⟨v,h1,h2.imp fun w=>hm w v,h3⟩
end Wx

namespace Wx

def K8 (r:List Rat) (C:List (List Rat)):List Rat:=C.map fun c=>Jy r c r.length
def Ko (A C:List (List Rat)):List (List Rat):=A.map fun r=>K8 r C
theorem Qb1 (r:List Rat) (C:List (List Rat)):(K8 r C).length=C.length:=List.length_map ..
theorem Qel {r:List Rat} {C:List (List Rat)} {k:Nat} (h:k<C.length):(K8 r C).getD k 0=Jy r (C.getD k []) r.length:=by
 unfold K8
 rw[Y2,List.getElem?_map,List.getElem?_eq_getElem h,Y2,List.getElem?_eq_getElem h]
 rfl
theorem Qem (A C:List (List Rat)):(Ko A C).length=A.length:=List.length_map ..
theorem Qcv {A C:List (List Rat)} {i:Nat} (h:i<A.length):(Ko A C).getD i []=K8 (A.getD i []) C:=by
 unfold Ko
 rw[Y2,List.getElem?_map,List.getElem?_eq_getElem h,Y2,List.getElem?_eq_getElem h]
 rfl
end Wx

namespace Wx

def redD (x y:List Rat) (c:Nat):List Rat:=if x.getD c 0/y.getD c 0=0 then x else Jx x 0 y 0 (x.getD c 0/y.getD c 0) y.length
theorem redD_len (x y:List Rat) (c:Nat):(redD x y c).length=x.length:=by
 unfold redD
 split
 ·rfl
 ·exact Qbk
def elimD (X:List (List Rat)) (c k:Nat):List (List Rat):=X.mapIdx fun i row=>if c<i∧i<k then redD row (X.getD c []) c else row
section
variable {X:List (List Rat)} {m j c k:Nat}
theorem Kw:(elimD X c k).length=X.length:=by unfold elimD; exact List.length_mapIdx
theorem J6 {i:Nat} (hi:i<X.length):(elimD X c k).getD i []=if c<i∧i<k then redD (X.getD i []) (X.getD c []) c else X.getD i []:=by
 unfold elimD
 rw[Y2,List.getElem?_mapIdx,List.getElem?_eq_getElem hi,Y2,Y2,List.getElem?_eq_getElem hi]
 rfl
theorem Qft:elimD X c (c+1)=X:=list_ext (d:=[]) Kw fun i hi=>by
 rw[Kw]at hi
 rw[J6 hi,if_neg (by omega)]
theorem elimD_at {i:Nat} (hi:i<X.length) (h:k≤i):(elimD X c k).getD i []=X.getD i []:=by rw[J6 hi,if_neg (by omega)]
theorem elimD_own (hc:c<X.length):(elimD X c k).getD c []=X.getD c []:=by rw[J6 hc,if_neg (by omega)]
theorem elimD_step (hk:k<X.length) (hck:c<k):(elimD X c k).set k (redD (X.getD k []) (X.getD c []) c)=elimD X c (k+1):=by
 refine list_ext (d:=[]) (by rw[List.length_set,Kw,Kw]) fun i hi=>?_
 rw[List.length_set,Kw]at hi
 rw[getD_set (by rw[Kw]; exact hk),J6 hi,J6 hi]
 by_cases h:i=k
 ·subst h
  rw[if_pos rfl,if_pos (by omega)]
 ·rw[if_neg h]
  by_cases h1:c<i∧i<k
  ·rw[if_pos h1,if_pos (by omega)]
  ·rw[if_neg h1,if_neg (by omega)]
def dX (X:List (List Rat)):Nat→List (List Rat)
 |0=>X
 |c+1=>elimD (Zg (dX X c) (dX X c) c) c X.length
def dD (X:List (List Rat)):Nat→Rat
 |0=>1
 |c+1=>(if X5 (dX X c) c>0 then -(dD X c)else dD X c)*((Zg (dX X c) (dX X c) c).getD c []).getD c 0
def dSing (X:List (List Rat)) (k:Nat):Prop:=∃c,c<k∧X5 (dX X c) c<0
open Classical in
noncomputable def detG (X:List (List Rat)):Rat:=if dSing X X.length then 0 else dD X X.length
theorem detG_sing (h:dSing X X.length):detG X=0:=if_pos h
theorem detG_reg (h:¬dSing X X.length):detG X=dD X X.length:=if_neg h
theorem Qci:∀k,(dX X k).length=X.length
 |0=>rfl
 |k+1=>by show(elimD (Zg (dX X k) (dX X k) k) k X.length).length=_; rw[Kw,Qc1,Qci k]
theorem Rect.elimD {k:Nat} (h:Rect m X):Rect m (Wx.elimD X c k):=fun i hi=>by
 rw[Kw]at hi
 rw[J6 hi]
 split
 ·rw[redD_len]; exact h i hi
 ·exact h i hi
theorem Rect.dX (h:Rect m X):∀k,k≤X.length→Rect m (Wx.dX X k)
 |0,_=>h
 |k+1,hk=>((Rect.dX h k (by omega)).piv (by rw[Qci]; omega)).elimD
theorem BdX.elimD {k:Nat} (h:BdX j X) (h1:1≤j):BdX (8*j+1) (Wx.elimD X c k):=fun i q=>by
 rcases Nat.lt_or_ge i X.length with hi|hi
 ·rw[J6 hi]
  split
  ·unfold redD
   split
   ·exact(h i q).mono (by omega)
   ·exact(bd_redAt (h i) (h c) ((h i c).quo (h c c)) h1 q).mono (by omega)
  ·exact(h i q).mono (by omega)
 ·rw[Vg (X:=Wx.elimD X c k) (by rw[Kw]; exact hi)]
  exact bd_zero.mono (by omega)
theorem BdX.dX (h:BdX j X) (h1:1≤j):∀k,k≤X.length→BdX (V0 j k) (Wx.dX X k)
 |0,_=>h
 |k+1,hk=>((BdX.dX h h1 k (by omega)).piv (by rw[Qci]; omega) (gjJ_pos h1 k)).elimD (gjJ_pos h1 k)
def dJ (j:Nat):Nat→Nat
 |0=>1
 |k+1=>dJ j k+V0 j k
theorem dJ_mono {k n:Nat} (h:k≤n):dJ j k≤dJ j n:=by
 induction n with
 |zero=>rw[Nat.le_zero.1 h]; exact Nat.le_refl _
 |succ n ih=>
  rcases Nat.lt_or_ge k (n+1)with h'|h'
  ·have:=ih (by omega)
   show dJ j k≤dJ j n+V0 j n
   omega
  ·rw[show k=n+1 by omega]
   exact Nat.le_refl _
theorem bd_one1:BdR 1 (1:Rat):=⟨by show(1:Rat).num.natAbs<2^1; decide,by show(1:Rat).den<2^1; decide⟩
theorem bd_dD (h:BdX j X) (h1:1≤j):∀k,k≤X.length→BdR (dJ j k) (dD X k)
 |0,_=>bd_one1
 |k+1,hk=>by
  have ih:=bd_dD h h1 k (by omega)
  have hp:=(h.dX h1 k (by omega)).piv (c:=k) (by rw[Qci]; omega) (gjJ_pos h1 k) k k
  refine BdR.mul ?_ hp
  split
  ·exact ih.neg
  ·exact ih
end
end Wx

namespace Wx

section
variable {A B:List (List Rat)} {b:List Rat} {m j:Nat}
theorem bd_col (hb:BdX j B) (h1:1≤j) (k:Nat):∀q,BdR j ((Ve B k).getD q 0):=fun q=>by
 rcases Nat.lt_or_ge q B.length with h|h
 ·rw[Qbi h]
  exact hb q k
 ·rw[Vg (by rw[Va]; exact h)]
  exact bd_zero.mono h1
theorem turnM_bd (hA:BdX j A) (h1:1≤j):BdX j (Xu A):=fun i k=>by
 rcases Nat.lt_or_ge i (A.getD 0 []).length with hi|hi
 ·rw[Qah hi]
  exact bd_col hA h1 i k
 ·rw[Vg (X:=Xu A) (by rw[Wv]; exact hi)]
  exact bd_zero.mono h1
end
end Wx

namespace Wx
open Go Go.RowKit Go.Proofs

theorem X6:Ty Tryz.prog 39 false 1:=⟨fun _=>by kernel_rfl,fun _=>by kernel_rfl,by decide⟩
theorem zv_Ratios:∀w,(zeroValue 39).run Tryz.prog w=.ok (.slice none 0 0) w:=fun _=>by kernel_rfl
theorem Jw:Ty Tryz.prog 25 false 1:=⟨fun _=>by kernel_rfl,fun _=>by kernel_rfl,by decide⟩
theorem ty_u32s:Ty Tryz.prog 40 false 1:=⟨fun _=>by kernel_rfl,fun _=>by kernel_rfl,by decide⟩
theorem Qd8:AppTy Tryz.prog 39 39 38 3:=appTy_of (by kernel_rfl)
theorem app_Rows:AppTy Tryz.prog 25 25 39 1:=appTy_of (by kernel_rfl)
end Wx
