import Derived.Test.YtkcceahelokheaaGreatJLT30
namespace Wx
variable {α:Type}
theorem dP (X:List α) (i:Nat) (d:α):X.getD i d=X[i]?.getD d:=List.getD_eq_getElem?_getD
theorem qH {X:List α} {i:Nat} {d:α} (h:X.length<=i):X.getD i d=d:=by rw[dP,List.getElem?_eq_none h]; rfl
def kX (A B:List (List Rat)) (n k:Nat):List (List Rat):=(List.range n).map λi=>if i<k then A.getD i []++B.getD i []else A.getD i []
section
variable {A B:List (List Rat)} {n k:Nat}
theorem kp:(kX A B n k).length=n:=by unfold kX; rw[List.length_map,List.length_range]
theorem ko {i:Nat} (h:i<n):(kX A B n k).getD i []=if i<k then A.getD i []++B.getD i []else A.getD i []:=by
 unfold kX
 rw[List.getD_eq_getElem?_getD,List.getElem?_map,List.getElem?_range h]
 rfl
theorem jC {α:Type} {X Y:List α} {d:α} (hl:X.length=Y.length) (h:∀i,i<X.length->X.getD i d=Y.getD i d):X=Y:=by
 apply List.ext_getElem hl
 intro i h1 h2
 have:=h i h1
 rwa [List.getD_eq_getElem?_getD,List.getD_eq_getElem?_getD,List.getElem?_eq_getElem h1,List.getElem?_eq_getElem h2]at this
theorem Ip:kX A B A.length 0=A:=jC (d:=[]) kp λi hi=>by
 rw[kp]at hi
 rw[ko hi,if_neg (Nat.not_lt_zero _)]
theorem Io (hk:k<n):(kX A B n k).set k ((kX A B n k).getD k []++B.getD k [])=kX A B n (k+1):=by
 refine jC (d:=[]) (by rw[List.length_set,kp,kp]) λi hi=>?_
 rw[List.length_set,kp]at hi
 rw[kU (by rw[kp]; exact hk),ko hi,ko hi,ko hk,if_neg (Nat.lt_irrefl _)]
 by_cases h:i=k
 ·subst h
  rw[if_pos rfl,if_pos (by omega)]
 ·rw[if_neg h]
  by_cases h1:i<k
  ·rw[if_pos h1,if_pos (by omega)]
  ·rw[if_neg h1,if_neg (by omega)]
end
def kS (L:List Rat) (p:Rat) (k:Nat):List Rat:=L.mapIdx λi x=>if i<k then x/p else x
section
variable {L:List Rat} {p:Rat} {k:Nat}
theorem eJ:(kS L p k).length=L.length:=by unfold kS; exact List.length_mapIdx
theorem oI {i:Nat} (hi:i<L.length):(kS L p k).getD i 0=if i<k then L.getD i 0/p else L.getD i 0:=by
 unfold kS
 rw[List.getD_eq_getElem?_getD,List.getElem?_mapIdx,List.getElem?_eq_getElem hi,List.getD_eq_getElem?_getD,List.getElem?_eq_getElem hi]
 rfl
theorem Hq:kS L p 0=L:=jC (d:=0) eJ λi hi=>by
 rw[eJ]at hi
 rw[oI hi,if_neg (Nat.not_lt_zero _)]
theorem Hp (hk:k<L.length):(kS L p k).set k (L.getD k 0/p)=kS L p (k+1):=by
 refine jC (d:=0) (by rw[List.length_set,eJ,eJ]) λi hi=>?_
 rw[List.length_set,eJ]at hi
 rw[kU (by rw[eJ]; exact hk),oI hi,oI hi]
 by_cases h:i=k
 ·subst h
  rw[if_pos rfl,if_pos (by omega)]
 ·rw[if_neg h]
  by_cases h1:i<k
  ·rw[if_pos h1,if_pos (by omega)]
  ·rw[if_neg h1,if_neg (by omega)]
end
def tG (x y:List Rat) (c:Nat):List Rat:=if x.getD c 0=0 then x else gN x 0 y 0 (x.getD c 0) y.length
def je (X:List (List Rat)) (c k:Nat):List (List Rat):=X.mapIdx λi row=>if i<k/\i≠c then tG row (X.getD c []) c else row
theorem z8 (x y:List Rat) (c:Nat):(tG x y c).length=x.length:=by
 unfold tG
 split
 ·rfl
 ·exact oW
section
variable {X:List (List Rat)} {c k:Nat}
theorem dY:(je X c k).length=X.length:=by unfold je; exact List.length_mapIdx
variable {i:Nat}
theorem gQ (hi:i<X.length):(je X c k).getD i []=if i<k/\i≠c then tG (X.getD i []) (X.getD c []) c else X.getD i []:=by
 unfold je
 rw[List.getD_eq_getElem?_getD,List.getElem?_mapIdx,List.getElem?_eq_getElem hi,List.getD_eq_getElem?_getD,List.getD_eq_getElem?_getD,List.getElem?_eq_getElem hi]
 rfl
theorem Hw:je X c 0=X:=jC (d:=[]) dY λi hi=>by
 rw[dY]at hi
 rw[gQ hi,if_neg (by omega)]
theorem Hu:je X k (k+1)=je X k k:=jC (d:=[]) (by rw[dY,dY]) λi hi=>by
 rw[dY]at hi
 rw[gQ hi,gQ hi]
 by_cases h:i<k
 ·rw[if_pos (by omega),if_pos (by omega)]
 ·rw[if_neg (by omega),if_neg (by omega)]
theorem LD (hc:c<X.length):(je X c k).getD c []=X.getD c []:=by rw[gQ hc,if_neg (by omega)]
theorem On (hi:i<X.length) (h:k<=i):(je X c k).getD i []=X.getD i []:=by rw[gQ hi,if_neg (by omega)]
theorem Hv (hk:k<X.length) (hne:k≠c):(je X c k).set k (tG (X.getD k []) (X.getD c []) c)=je X c (k+1):=by
 refine jC (d:=[]) (by rw[List.length_set,dY,dY]) λi hi=>?_
 rw[List.length_set,dY]at hi
 rw[kU (by rw[dY]; exact hk),gQ hi,gQ hi]
 by_cases h:i=k
 ·subst h
  rw[if_pos rfl,if_pos (by omega)]
 ·rw[if_neg h]
  by_cases h1:i<k/\i≠c
  ·rw[if_pos h1,if_pos (by omega)]
  ·rw[if_neg h1,if_neg (by omega)]
end
def uM (X:List (List Rat)) (c:Nat):List (List Rat):=X.set c (kS (X.getD c []) ((X.getD c []).getD c 0) (X.getD c []).length)
def qK (X:List (List Rat)) (c:Nat):List (List Rat):=je (uM (lY X X c) c) c X.length
def Kb (X:List (List Rat)):Nat->List (List Rat)
 |0=>X
 |c+1=>qK (Kb X c) c
def zm (X:List (List Rat)) (k:Nat):Prop:=∃c,c<k/\gW (Kb X c) c<0
def gE (m:Nat) (X:List (List Rat)):Prop:=∀i,i<X.length->(X.getD i []).length=m
def qu (j:Nat) (X:List (List Rat)):Prop:=∀i k,aZ j ((X.getD i []).getD k 0)
theorem GO {j:Nat} {l:List Rat} (h:∀k,aZ j (l.getD k 0)):∀x,x∈l->aZ j x:=by
 intro x hx
 obtain⟨k,hk⟩:=List.mem_iff_getElem?.1 hx
 have:=h k
 rwa [List.getD_eq_getElem?_getD,hk]at this
theorem lg {α:Type} (X:List (List Rat)) (l:List α) (c:Nat):(lY X l c).length=l.length:=by
 unfold lY
 split
 ·rfl
 ·exact rX _ _ _
theorem FV (X:List (List Rat)) {c i:Nat} (hc:c<X.length) (hi:i<X.length):∃j,j<X.length/\(lY X X c).getD i []=X.getD j []:=by
 unfold lY
 split
 ·exact⟨i,hi,rfl⟩
 ·have hr:=pP hc
  have h2:c+(gW X c).toNat<X.length:=by omega
  have e:=rW (List.getElem?_eq_getElem hc) (List.getElem?_eq_getElem h2) i
  rw[List.getD_eq_getElem?_getD,e]
  split
  ·exact⟨c,hc,by rw[List.getD_eq_getElem?_getD,List.getElem?_eq_getElem hc]⟩
  ·split
   ·exact⟨_,h2,by rw[List.getD_eq_getElem?_getD,List.getElem?_eq_getElem h2]⟩
   ·exact⟨i,hi,by rw[List.getD_eq_getElem?_getD]⟩
theorem LH {p:Nat->Bool} {n:Nat} (h:0<=iT p n):p (iT p n).toNat=true:=by
 unfold iT at *
 split at h
 ·rename_i i hi
  have:=List.find?_some hi
  rw[Int.toNat_natCast]
  exact this
 ·omega
theorem Wi {X:List (List Rat)} {c:Nat} (hc:c<X.length) (h:0<=gW X c):((lY X X c).getD c []).getD c 0≠0:=by
 have h1:=LH (p:=λi=>!(decide ((X.getD (c+i) []).getD c 0=0))) h
 have h1:(!(decide ((X.getD (c+(gW X c).toNat) []).getD c 0=0)))=true:=h1
 have h2:(X.getD (c+(gW X c).toNat) []).getD c 0≠0:=by simpa using h1
 have hr:=pP hc
 have hlt:c+(gW X c).toNat<X.length:=by omega
 have e:(lY X X c).getD c []=X.getD (c+(gW X c).toNat) []:=by
  unfold lY
  rw[if_neg (by omega),dP (mQ _ _ _),rW (List.getElem?_eq_getElem hc) (List.getElem?_eq_getElem hlt) c]
  by_cases h0:c=c+(gW X c).toNat
  ·rw[if_pos h0,<-h0,dP,List.getElem?_eq_getElem hc]
  ·rw[if_neg h0,if_pos rfl,dP,List.getElem?_eq_getElem hlt]
 rw[e]
 exact h2
section
variable {X:List (List Rat)} {m j c:Nat}
theorem gE.ZM (h:gE m X) (hc:c<X.length):gE m (lY X X c):=λi hi=>by
 rw[lg]at hi
 obtain⟨q,hq,e⟩:=FV X hc hi
 rw[e]
 exact h q hq
theorem oO:(uM X c).length=X.length:=List.length_set ..
theorem gE.norm (h:gE m X) (hc:c<X.length):gE m (uM X c):=λi hi=>by
 rw[oO]at hi
 unfold uM
 rw[kU hc]
 split
 ·rw[eJ]; exact h c hc
 ·exact h i hi
variable {k:Nat}
theorem gE.elim (h:gE m X):gE m (je X c k):=λi hi=>by
 rw[dY]at hi
 rw[gQ hi]
 split
 ·rw[z8]; exact h i hi
 ·exact h i hi
theorem H6:(qK X c).length=X.length:=by unfold qK; rw[dY,oO,lg]
theorem gE.step (h:gE m X) (hc:c<X.length):gE m (qK X c):=((h.ZM hc).norm (by rw[lg]; exact hc)).elim
theorem nw:∀k,(Kb X k).length=X.length
 |0=>rfl
 |k+1=>by show(qK (Kb X k) k).length=_; rw[H6,nw k]
theorem gE.gj (h:gE m X):∀k,k<=X.length->gE m (Kb X k)
 |0,_=>h
 |k+1,hk=>(gE.gj h k (by omega)).step (by rw[nw]; omega)
theorem qu.ZM (h:qu j X) (hc:c<X.length) (h1:1<=j):qu j (lY X X c):=λi k=>by
 rcases Nat.lt_or_ge i X.length with hi|hi
 ·obtain⟨q,_,e⟩:=FV X hc hi
  rw[e]
  exact h q k
 ·rw[qH (X:=lY X X c) (by rw[lg]; exact hi)]
  exact nr.mono h1
theorem NZ {L:List Rat} {p:Rat} {jp:Nat} (h:∀k,aZ j (L.getD k 0)) (hp:aZ jp p) (h1:1<=j):∀q,aZ (j+jp) ((kS L p k).getD q 0):=λq=>by
 rcases Nat.lt_or_ge q L.length with hq|hq
 ·rw[oI hq]
  split
  ·exact(h q).quo hp
  ·exact(h q).mono (by omega)
 ·rw[List.getD_eq_getElem?_getD,List.getElem?_eq_none (by rw[eJ]; exact hq)]
  exact nr.mono (by omega)
theorem N0 {x y:List Rat} {f:Rat} {s1 s2 jy jf:Nat} (hx:∀k,aZ j (x.getD k 0)) (hy:∀k,aZ jy (y.getD k 0)) (hf:aZ jf f) (h1:1<=j):∀q,aZ (j+(jf+jy)+j+(jf+jy)+1) ((gN x s1 y s2 f k).getD q 0):=λq=>by
 rcases Nat.lt_or_ge q x.length with hq|hq
 ·unfold gN
  rw[List.getD_eq_getElem?_getD,List.getElem?_mapIdx,List.getElem?_eq_getElem hq]
  have hx:=hx q
  rw[List.getD_eq_getElem?_getD,List.getElem?_eq_getElem hq]at hx
  show aZ _ (if s1<=q/\q<s1+k then x[q]-f*y.getD (s2+(q-s1)) 0 else x[q])
  split
  ·exact hx.adH (hf.mul (hy _))
  ·exact hx.mono (by omega)
 ·rw[List.getD_eq_getElem?_getD,List.getElem?_eq_none (by rw[oW]; exact hq)]
  exact nr.mono (by omega)
theorem qu.norm (h:qu j X) (h1:1<=j) (hc:c<X.length):∀k,aZ (j+j) (((uM X c).getD c []).getD k 0):=λk=>by
 unfold uM
 rw[kU hc,if_pos rfl]
 exact NZ (h c) (h c c) h1 k
theorem xq {i:Nat} (hi:i≠c) (hc:c<X.length):(uM X c).getD i []=X.getD i []:=by
 unfold uM
 rw[kU hc,if_neg hi]
theorem qu.step (h:qu j X) (h1:1<=j) (hc:c<X.length):qu (8*j+1) (qK X c):=λi k=>by
 have hp:=h.ZM hc h1
 have hc':c<(lY X X c).length:=by rw[lg]; exact hc
 have hn:=hp.norm h1 hc'
 unfold qK
 rcases Nat.lt_or_ge i X.length with hi|hi
 ·rw[gQ (by rw[oO,lg]; exact hi)]
  split
  ·rename_i hh
   rw[xq hh.2 hc']
   unfold tG
   split
   ·exact(hp i k).mono (by omega)
   ·exact(N0 (hp i) hn (hp i c) h1 k).mono (by omega)
  ·rename_i hh
   have e:i=c:=by
    rcases Nat.lt_or_ge i X.length with h'|h'
    ·exact Classical.not_not.1 λh''=>hh ⟨h',h''⟩
    ·omega
   subst e
   exact(hn k).mono (by omega)
 ·rw[qH (X:=je _ _ _) (by rw[dY,oO,lg]; exact hi)]
  exact nr.mono (by omega)
def uv (j:Nat):Nat->Nat
 |0=>j
 |k+1=>8*uv j k+1
theorem OI {n:Nat} (h:k<=n):uv j k<=uv j n:=by
 induction n with
 |zero=>rw[Nat.le_zero.1 h]; exact Nat.le_refl _
 |succ n ih=>
  rcases Nat.lt_or_ge k (n+1)with h'|h'
  ·have:=ih (by omega)
   show uv j k<=8*uv j n+1
   omega
  ·rw[show k=n+1 by omega]
   exact Nat.le_refl _
theorem yc (h1:1<=j):∀k,1<=uv j k
 |0=>h1
 |k+1=>by show 1<=8*uv j k+1; omega
theorem qu.gj (h:qu j X) (h1:1<=j):∀k,k<=X.length->qu (uv j k) (Kb X k)
 |0,_=>h
 |k+1,hk=>(qu.gj h h1 k (by omega)).step (yc h1 k) (by rw[nw]; omega)
end
open Go Go.RowKit
theorem Ho {L:List Rat} {p:Rat} {k q:Nat} (h:k<L.length):(bq (kS L p k) q)[k]?=some (RX (L.getD k 0)):=by
 rw[fq (by rw[eJ]; exact h),oI h,if_neg (Nat.lt_irrefl _)]
def qD (X:List (List Rat)) (n k:Nat):List (List Rat):=X.mapIdx λi row=>if i<k then row.drop n else row
section
variable {X:List (List Rat)} {n k:Nat}
theorem jY:(qD X n k).length=X.length:=by unfold qD; exact List.length_mapIdx
theorem l8 {i:Nat} (hi:i<X.length):(qD X n k).getD i []=if i<k then(X.getD i []).drop n else X.getD i []:=by
 unfold qD
 rw[dP,List.getElem?_mapIdx,List.getElem?_eq_getElem hi,dP,List.getElem?_eq_getElem hi]
 rfl
theorem Ht:qD X n 0=X:=jC (d:=[]) jY λi hi=>by
 rw[jY]at hi
 rw[l8 hi,if_neg (Nat.not_lt_zero _)]
theorem Hs (hk:k<X.length):(qD X n k).set k ((X.getD k []).drop n)=qD X n (k+1):=by
 refine jC (d:=[]) (by rw[List.length_set,jY,jY]) λi hi=>?_
 rw[List.length_set,jY]at hi
 rw[kU (by rw[jY]; exact hk),l8 hi,l8 hi]
 by_cases h:i=k
 ·subst h
  rw[if_pos rfl,if_pos (by omega)]
 ·rw[if_neg h]
  by_cases h1:i<k
  ·rw[if_pos h1,if_pos (by omega)]
  ·rw[if_neg h1,if_neg (by omega)]
end
def mW (A B:List (List Rat)):List (List Rat):=kX A B A.length A.length
def tI (A B:List (List Rat)):List (List Rat):=qD (Kb (mW A B) A.length) A.length A.length
variable {A B:List (List Rat)}
theorem fX:(mW A B).length=A.length:=kp
variable {i:Nat}
theorem Ey (h:i<A.length):(mW A B).getD i []=A.getD i []++B.getD i []:=by
 unfold mW
 rw[ko h,if_pos h]
variable {n:Nat}
theorem Bw {m:Nat} (hA:gE n A) (hB:∀i,i<A.length->(B.getD i []).length=m):gE (n+m) (mW A B):=λi hi=>by
 rw[fX]at hi
 rw[Ey hi,List.length_append,hA i hi,hB i hi]
theorem JO {j:Nat} (hA:qu j A) (hB:qu j B) (h1:1<=j):qu j (mW A B):=λi k=>by
 rcases Nat.lt_or_ge i A.length with hi|hi
 ·rw[Ey hi,dP]
  rcases Nat.lt_or_ge k (A.getD i []).length with hk|hk
  ·rw[List.getElem?_append_left hk,<-dP]
   exact hA i k
  ·rw[List.getElem?_append_right hk,<-dP]
   exact hB i _
 ·rw[qH (X:=mW A B) (by rw[fX]; exact hi)]
  exact nr.mono h1
variable {w:World} {H:List Bk} {s:Nat}
theorem zu {B:Nat->Prop} {b cap p:Nat} {l:List Rat} (h:dn B w H) (he:(⟨b,3,true,bq l p⟩:Bk)∈H) (hn:n=l.length) (hc:n<=cap) (hm:cap<=maxLen) (hs:s<=n):aD (l.drop s) w (.slice (some ⟨b,s*3,none⟩) (n-s) (cap-s)):=by
 subst hn
 obtain⟨cs,T,h1,h2,_,h4⟩:=h.2.2 _ he
 have h1:w.heap[b]?=some (.cells cs.toArray T (0,0)):=h1
 have h2:(bq l p).length*3<=cs.length:=h2
 rw[kD]at h2
 have hl:(l.drop s).length=l.length-s:=List.length_drop ..
 unfold aD
 rw[hl]
 refine⟨_,_,rfl,by omega,by omega,λ_=>⟨b,s*3,rfl,λi hi=>⟨(cs.drop ((s+i)*3)).take 3,?_,λj v hj=>?_,?_⟩⟩⟩
 ·rw[List.length_take,List.length_drop]
  omega
 ·rw[show s*3+i*3=(s+i)*3 by omega]
  exact fY h1 _ _ j v hj
 ·have e:(l.drop s).getD i 0=l.getD (s+i) 0:=by rw[dP,dP,List.getElem?_drop]
  show au ((l.drop s).getD i 0) w _
  rw[e]
  exact h4 (s+i) _ (fq (by omega))
theorem Nh {R:List ct} (h:i<R.length) (h0:(rowAt R i).n≠0):(jn R)[i]?=some (uD (rowAt R i).hdr):=by
 rw[rZ h,kW h0]
variable {a:Act}
theorem Inv.uniq {c:fT} {V:List Vr} {G:List bz} {id:Nat} (hI:Inv c V [] G none_ a w) (n0:Nat) (hk:V[n0]?=some (cX id s H)):∀e x,e∈H->x∈H->e.b=x.b->e.items=x.items:=by
 obtain⟨β,hI⟩:=hI
 intro e x he hx hb
 rw[wN (hI.obj hk).1.2.1 he hx hb]
theorem Ci {P:Program} {fn:Func} {R R':Ending->World->Prop} (h:bodyPost P fn R .ret a w) (hm:∀e w',R e w'->R' e w'):bodyPost P fn R' .ret a w:=by
 obtain⟨h1,v,h2,h3⟩:=h
 exact⟨h1,v,h2,hm _ _ h3⟩
def adt (S:Prop) (n:Nat) (f:Nat->List Rat):Pred:=λw v=>(¬S->cN (aA 1 false n λi=>aD (f i)) (pB true) w v)/\(S->cN (bg (.slice none 0 0)) (pB false) w v)
theorem rU {M:Nat->Nat->Prop} {p q:Pred} {w':World} {e:Ending} (h:bH M p w e w') (hm:∀w v,p w v->q w v):bH M q w e w':=by
 obtain⟨v,h1,h2,h3⟩:=h
 exact⟨v,h1,h2.imp λw=>hm w v,h3⟩
end Wx

namespace Wx
open Go Go.RowKit
section
variable {L:List Int} {n f k j:Nat}
theorem AX {α:Type} {g:Nat->α} {d:α} {i:Nat} (h:i<n):((List.range n).map g).getD i d=g i:=by
 rw[dP,List.getElem?_map,List.getElem?_range h]
 rfl
end
end Wx

namespace Wx
open Go Go.RowKit Go.Proofs
def yL (q:Rat):Rat:=if q.num<0 then -q else q
theorem NU (q:Rat):(yL q).num.natAbs=q.num.natAbs/\(yL q).den=q.den/\decide ((yL q).num<0)=false:=by
 unfold yL
 split
 ·next h=>exact⟨by rw[Rat.neg_num,Int.natAbs_neg],rfl,by rw[Rat.neg_num]; exact decide_eq_false (by omega)⟩
 ·next h=>exact⟨rfl,rfl,decide_eq_false h⟩
theorem Rg (w:World) (vx:Value) (x:Rat) (hx:bL w vx x):Calls Tryz.prog 128 #[vx] w (ig w (yL x)):=by
 obtain⟨Ea,Eb,rfl,lu,jO⟩:=id hx
 obtain⟨da,de,rfl,_⟩:=id lu
 obtain⟨dc,dg,rfl,_⟩:=id jO
 obtain⟨a1,a2,a3⟩:=NU x
 go_enter Tryz.func128,Tryz.ntmps128
 go_wp2
 obtain⟨w1,e1,o1,b1,s1⟩:=eL w (.bool (decide (x.num<0))) (.slice da (af b64 x.num.natAbs).length de) (.slice dc (af b64 (aq x.den)).length dg) 40
 obtain⟨w2,e2,o2,b2,s2⟩:=eL w1 (.bool false) (.slice da (af b64 x.num.natAbs).length de) (.slice dc (af b64 (aq x.den)).length dg) 40
 rw[e1,e2]
 rw[s1]at o2
 have f0:=o2.c0
 have f1:=o2.c1
 have f2:=o2.c2
 have B:=b1.trans (b2.mono b1.size)
 refine bodyPost_ret (by simp[results,Tryz.results128,go_sem,f0,f1,f2]; try rfl) rfl ?_
 exact⟨_,rfl,⟨_,_,by rw[a3],by rw[a1]; exact lu.below B,by rw[a2]; exact jO.below B⟩,B⟩
end Wx

namespace Wx
set_option maxRecDepth 100000
open Go Go.RowKit Go.Proofs
set_option linter.unusedVariables false
def eu (w:World) (e:TypeId) (ps:List (Nat×Value×Value×Value)) (w':World):Prop:=Below w.heap.size w w'/\(∀p∈ps,dO w' p.1 p.2.1 p.2.2.1 p.2.2.2 e)
variable {w:World} {e:TypeId} {ps:List (Nat×Value×Value×Value)} {w':World}
theorem eu.call {w'':World} {p:Prop} (h:eu w e ps w'/\p) (hb:Below w'.heap.size w' w''):eu w e ps w'':=by
 obtain⟨⟨h1,h3⟩,_⟩:=h
 exact⟨h1.trans (hb.mono h1.size),λp hp=>(h3 p hp).gone hb⟩
theorem eu.drew (h:eu w e ps w'):eu w e ps w'.drew:=⟨h.1.drew,h.2⟩
def Rm (x y:Rat):Int:=if dK x=dK y then bZ (x.num.natAbs*y.den) (y.num.natAbs*x.den)*dK x else if dK x<dK y then -1 else 1
theorem He (m n:Nat):bZ m n = -1\/bZ m n=0\/bZ m n=1:=by
 unfold bZ
 split
 ·exact .inl rfl
 ·split
  ·exact .inr (.inr rfl)
  ·exact .inr (.inl rfl)
theorem Jh (x:Rat):dK x = -1\/dK x=0\/dK x=1:=by
 unfold dK
 split
 ·exact .inl rfl
 ·split
  ·exact .inr (.inl rfl)
  ·exact .inr (.inr rfl)
theorem I4 {a b:Int} (h1:a = -1\/a=0\/a=1) (h2:b = -1\/b=0\/b=1):IntKind.i64.wrap (a*b)=a*b:=by
 rcases h1 with rfl|rfl|rfl<;>rcases h2 with rfl|rfl|rfl<;>rfl
set_option maxHeartbeats 8000000 in
theorem XM (w:World) (vx vy:Value) (x y:Rat) (hx:bL w vx x) (hy:bL w vy y) (hs:¬dK x=dK y) (hl:dK x<dK y):Calls Tryz.prog 35 #[vx,vy] w (fU w (.int .i64 (-1))):=by
 obtain⟨Ea,Eb,rfl,lu,jO⟩:=id hx
 obtain⟨da,de,rfl,_⟩:=id lu
 obtain⟨dc,dg,rfl,_⟩:=id jO
 obtain⟨NH,NI,rfl,tq,qp⟩:=id hy
 obtain⟨eZ,fg,rfl,_⟩:=id tq
 obtain⟨fc,fh,rfl,_⟩:=id qp
 obtain⟨sx,Kg⟩:∃s,dK x=s:=⟨_,rfl⟩
 obtain⟨sy,LX⟩:∃s,dK y=s:=⟨_,rfl⟩
 rw[Kg,LX]at hs
 rw[Kg,LX]at hl
 have WO:=bx Kg
 have Xu:=bx LX
 clear Kg LX
 go_enter Tryz.func35,Tryz.ntmps35
 go_wp2_with fail
 obtain⟨w1,e1,o1,b1,s1⟩:=eL w (.bool (decide (x.num<0))) (.slice da (af b64 x.num.natAbs).length de) (.slice dc (af b64 (aq x.den)).length dg) 40
 obtain⟨w2,e2,o2,b2,s2⟩:=eL w1 (.bool (decide (y.num<0))) (.slice eZ (af b64 y.num.natAbs).length fg) (.slice fc (af b64 (aq y.den)).length fh) 40
 rw[e1,e2]
 rw[s1]at o2
 have p1:=(o1.gone b2)
 have p2:=o2
 have B0:=(b1.trans (b2.mono b1.size))
 have hS:∀w',eu w 40 [(w.heap.size,.bool (decide (x.num<0)),.slice da (af b64 x.num.natAbs).length de,.slice dc (af b64 (aq x.den)).length dg),(w.heap.size+1,.bool (decide (y.num<0)),.slice eZ (af b64 y.num.natAbs).length fg,.slice fc (af b64 (aq y.den)).length fh)] w'->eu w 40 [(w.heap.size,.bool (decide (x.num<0)),.slice da (af b64 x.num.natAbs).length de,.slice dc (af b64 (aq x.den)).length dg),(w.heap.size+1,.bool (decide (y.num<0)),.slice eZ (af b64 y.num.natAbs).length fg,.slice fc (af b64 (aq y.den)).length fh)] w'/\w'.cell? ⟨w.heap.size,0,none⟩=some (.bool (decide (x.num<0)))/\w'.cell? ⟨w.heap.size,1,none⟩=some (.slice da (af b64 x.num.natAbs).length de)/\w'.cell? ⟨w.heap.size,2,none⟩=some (.slice dc (af b64 (aq x.den)).length dg)/\w'.cell? ⟨w.heap.size+1,0,none⟩=some (.bool (decide (y.num<0)))/\w'.cell? ⟨w.heap.size+1,1,none⟩=some (.slice eZ (af b64 y.num.natAbs).length fg)/\w'.cell? ⟨w.heap.size+1,2,none⟩=some (.slice fc (af b64 (aq y.den)).length fh):=λw' hh=>by
  have q1:=(hh.2 (w.heap.size,.bool (decide (x.num<0)),.slice da (af b64 x.num.natAbs).length de,.slice dc (af b64 (aq x.den)).length dg) (by simp))
  have q2:=(hh.2 (w.heap.size+1,.bool (decide (y.num<0)),.slice eZ (af b64 y.num.natAbs).length fg,.slice fc (af b64 (aq y.den)).length fh) (by simp))
  exact⟨hh,q1.c0,q1.c1,q1.c2,q2.c0,q2.c1,q2.c2⟩
 have H0:eu w 40 [(w.heap.size,.bool (decide (x.num<0)),.slice da (af b64 x.num.natAbs).length de,.slice dc (af b64 (aq x.den)).length dg),(w.heap.size+1,.bool (decide (y.num<0)),.slice eZ (af b64 y.num.natAbs).length fg,.slice fc (af b64 (aq y.den)).length fh)] w2:=⟨B0,by intro p hp; simp at hp; rcases hp with rfl|rfl; exact p1; exact p2⟩
 clear e1 e2
 have hz:=H0.drew
 go_region_held3 (λw'=>eu w 40 [(w.heap.size,.bool (decide (x.num<0)),.slice da (af b64 x.num.natAbs).length de,.slice dc (af b64 (aq x.den)).length dg),(w.heap.size+1,.bool (decide (y.num<0)),.slice eZ (af b64 y.num.natAbs).length fg,.slice fc (af b64 (aq y.den)).length fh)] w'/\w'.cell? ⟨w.heap.size,0,none⟩=some (.bool (decide (x.num<0)))/\w'.cell? ⟨w.heap.size,1,none⟩=some (.slice da (af b64 x.num.natAbs).length de)/\w'.cell? ⟨w.heap.size,2,none⟩=some (.slice dc (af b64 (aq x.den)).length dg)/\w'.cell? ⟨w.heap.size+1,0,none⟩=some (.bool (decide (y.num<0)))/\w'.cell? ⟨w.heap.size+1,1,none⟩=some (.slice eZ (af b64 y.num.natAbs).length fg)/\w'.cell? ⟨w.heap.size+1,2,none⟩=some (.slice fc (af b64 (aq y.den)).length fh))
  (exact hS _ hz)
  (first
   |(go_at_call 81; have hc:=lp _ _ x (hx.below hz.1); (with_reducible refine Calls.mono hc ?_); clear hc; rintro e wz ⟨rfl,hb⟩; rw[WO.out]; (try have lT:=lT.below hb); (try have lU:=lU.below hb); (try have lS:=lS.below hb); (try have kj:=kj.below hb); have hz:=eu.call (by assumption) hb)
   |(go_at_call 81; have hc:=lp _ _ y (hy.below hz.1); (with_reducible refine Calls.mono hc ?_); clear hc; rintro e wz ⟨rfl,hb⟩; rw[Xu.out]; (try have lT:=lT.below hb); (try have lU:=lU.below hb); (try have lS:=lS.below hb); (try have kj:=kj.below hb); have hz:=eu.call (by assumption) hb))
 all_goals (
  go_wp2
  go_ret
  exact⟨rfl,hz.1⟩)
set_option maxHeartbeats 8000000 in
theorem XN (w:World) (vx vy:Value) (x y:Rat) (hx:bL w vx x) (hy:bL w vy y) (hs:¬dK x=dK y) (hl:¬dK x<dK y):Calls Tryz.prog 35 #[vx,vy] w (fU w (.int .i64 (1))):=by
 obtain⟨Ea,Eb,rfl,lu,jO⟩:=id hx
 obtain⟨da,de,rfl,_⟩:=id lu
 obtain⟨dc,dg,rfl,_⟩:=id jO
 obtain⟨NH,NI,rfl,tq,qp⟩:=id hy
 obtain⟨eZ,fg,rfl,_⟩:=id tq
 obtain⟨fc,fh,rfl,_⟩:=id qp
 obtain⟨sx,Kg⟩:∃s,dK x=s:=⟨_,rfl⟩
 obtain⟨sy,LX⟩:∃s,dK y=s:=⟨_,rfl⟩
 rw[Kg,LX]at hs
 rw[Kg,LX]at hl
 have WO:=bx Kg
 have Xu:=bx LX
 clear Kg LX
 go_enter Tryz.func35,Tryz.ntmps35
 go_wp2_with fail
 obtain⟨w1,e1,o1,b1,s1⟩:=eL w (.bool (decide (x.num<0))) (.slice da (af b64 x.num.natAbs).length de) (.slice dc (af b64 (aq x.den)).length dg) 40
 obtain⟨w2,e2,o2,b2,s2⟩:=eL w1 (.bool (decide (y.num<0))) (.slice eZ (af b64 y.num.natAbs).length fg) (.slice fc (af b64 (aq y.den)).length fh) 40
 rw[e1,e2]
 rw[s1]at o2
 have p1:=(o1.gone b2)
 have p2:=o2
 have B0:=(b1.trans (b2.mono b1.size))
 have hS:∀w',eu w 40 [(w.heap.size,.bool (decide (x.num<0)),.slice da (af b64 x.num.natAbs).length de,.slice dc (af b64 (aq x.den)).length dg),(w.heap.size+1,.bool (decide (y.num<0)),.slice eZ (af b64 y.num.natAbs).length fg,.slice fc (af b64 (aq y.den)).length fh)] w'->eu w 40 [(w.heap.size,.bool (decide (x.num<0)),.slice da (af b64 x.num.natAbs).length de,.slice dc (af b64 (aq x.den)).length dg),(w.heap.size+1,.bool (decide (y.num<0)),.slice eZ (af b64 y.num.natAbs).length fg,.slice fc (af b64 (aq y.den)).length fh)] w'/\w'.cell? ⟨w.heap.size,0,none⟩=some (.bool (decide (x.num<0)))/\w'.cell? ⟨w.heap.size,1,none⟩=some (.slice da (af b64 x.num.natAbs).length de)/\w'.cell? ⟨w.heap.size,2,none⟩=some (.slice dc (af b64 (aq x.den)).length dg)/\w'.cell? ⟨w.heap.size+1,0,none⟩=some (.bool (decide (y.num<0)))/\w'.cell? ⟨w.heap.size+1,1,none⟩=some (.slice eZ (af b64 y.num.natAbs).length fg)/\w'.cell? ⟨w.heap.size+1,2,none⟩=some (.slice fc (af b64 (aq y.den)).length fh):=λw' hh=>by
  have q1:=(hh.2 (w.heap.size,.bool (decide (x.num<0)),.slice da (af b64 x.num.natAbs).length de,.slice dc (af b64 (aq x.den)).length dg) (by simp))
  have q2:=(hh.2 (w.heap.size+1,.bool (decide (y.num<0)),.slice eZ (af b64 y.num.natAbs).length fg,.slice fc (af b64 (aq y.den)).length fh) (by simp))
  exact⟨hh,q1.c0,q1.c1,q1.c2,q2.c0,q2.c1,q2.c2⟩
 have H0:eu w 40 [(w.heap.size,.bool (decide (x.num<0)),.slice da (af b64 x.num.natAbs).length de,.slice dc (af b64 (aq x.den)).length dg),(w.heap.size+1,.bool (decide (y.num<0)),.slice eZ (af b64 y.num.natAbs).length fg,.slice fc (af b64 (aq y.den)).length fh)] w2:=⟨B0,by intro p hp; simp at hp; rcases hp with rfl|rfl; exact p1; exact p2⟩
 clear e1 e2
 have hz:=H0.drew
 go_region_held3 (λw'=>eu w 40 [(w.heap.size,.bool (decide (x.num<0)),.slice da (af b64 x.num.natAbs).length de,.slice dc (af b64 (aq x.den)).length dg),(w.heap.size+1,.bool (decide (y.num<0)),.slice eZ (af b64 y.num.natAbs).length fg,.slice fc (af b64 (aq y.den)).length fh)] w'/\w'.cell? ⟨w.heap.size,0,none⟩=some (.bool (decide (x.num<0)))/\w'.cell? ⟨w.heap.size,1,none⟩=some (.slice da (af b64 x.num.natAbs).length de)/\w'.cell? ⟨w.heap.size,2,none⟩=some (.slice dc (af b64 (aq x.den)).length dg)/\w'.cell? ⟨w.heap.size+1,0,none⟩=some (.bool (decide (y.num<0)))/\w'.cell? ⟨w.heap.size+1,1,none⟩=some (.slice eZ (af b64 y.num.natAbs).length fg)/\w'.cell? ⟨w.heap.size+1,2,none⟩=some (.slice fc (af b64 (aq y.den)).length fh))
  (exact hS _ hz)
  (first
   |(go_at_call 81; have hc:=lp _ _ x (hx.below hz.1); (with_reducible refine Calls.mono hc ?_); clear hc; rintro e wz ⟨rfl,hb⟩; rw[WO.out]; (try have lT:=lT.below hb); (try have lU:=lU.below hb); (try have lS:=lS.below hb); (try have kj:=kj.below hb); have hz:=eu.call (by assumption) hb)
   |(go_at_call 81; have hc:=lp _ _ y (hy.below hz.1); (with_reducible refine Calls.mono hc ?_); clear hc; rintro e wz ⟨rfl,hb⟩; rw[Xu.out]; (try have lT:=lT.below hb); (try have lU:=lU.below hb); (try have lS:=lS.below hb); (try have kj:=kj.below hb); have hz:=eu.call (by assumption) hb))
 all_goals (
  go_wp2
  go_ret
  exact⟨rfl,hz.1⟩)
set_option maxHeartbeats 8000000 in
theorem XO (w:World) (vx vy:Value) (x y:Rat) (hx:bL w vx x) (hy:bL w vy y) {j k:Nat} (hj:aZ j x) (hk:aZ k y) (yh:j+k<=100000000) (hs:dK x=dK y):Calls Tryz.prog 35 #[vx,vy] w (fU w (.int .i64 (bZ (x.num.natAbs*y.den) (y.num.natAbs*x.den)*dK x))):=by
 obtain⟨Ea,Eb,rfl,lu,jO⟩:=id hx
 obtain⟨da,de,rfl,_⟩:=id lu
 obtain⟨dc,dg,rfl,_⟩:=id jO
 obtain⟨NH,NI,rfl,tq,qp⟩:=id hy
 obtain⟨eZ,fg,rfl,_⟩:=id tq
 obtain⟨fc,fh,rfl,_⟩:=id qp
 have hpr:=I4 (He (x.num.natAbs*y.den) (y.num.natAbs*x.den)) (Jh x)
 have TK:=x.den_pos
 have Vi:=y.den_pos
 have HB:=bx (And.intro hj hk)
 have fA:j<=1000000000:=by omega
 have ot:k<=1000000000:=by omega
 clear hj hk
 obtain⟨sx,Kg⟩:∃s,dK x=s:=⟨_,rfl⟩
 obtain⟨sy,LX⟩:∃s,dK y=s:=⟨_,rfl⟩
 rw[Kg,LX]at hs
 rw[Kg]at hpr ⊢
 subst hs
 obtain⟨cc,hcc⟩:∃c,bZ (x.num.natAbs*y.den) (y.num.natAbs*x.den)=c:=⟨_,rfl⟩
 rw[hcc]at hpr ⊢
 have HCC:=bx hcc
 clear hcc
 have WO:=bx Kg
 have Xu:=bx LX
 clear Kg LX
 go_enter Tryz.func35,Tryz.ntmps35
 go_wp2_with fail
 obtain⟨w1,e1,o1,b1,s1⟩:=eL w (.bool (decide (x.num<0))) (.slice da (af b64 x.num.natAbs).length de) (.slice dc (af b64 (aq x.den)).length dg) 40
 obtain⟨w2,e2,o2,b2,s2⟩:=eL w1 (.bool (decide (y.num<0))) (.slice eZ (af b64 y.num.natAbs).length fg) (.slice fc (af b64 (aq y.den)).length fh) 40
 rw[e1,e2]
 rw[s1]at o2
 have p1:=(o1.gone b2)
 have p2:=o2
 have B0:=(b1.trans (b2.mono b1.size))
 have hS:∀w',eu w 40 [(w.heap.size,.bool (decide (x.num<0)),.slice da (af b64 x.num.natAbs).length de,.slice dc (af b64 (aq x.den)).length dg),(w.heap.size+1,.bool (decide (y.num<0)),.slice eZ (af b64 y.num.natAbs).length fg,.slice fc (af b64 (aq y.den)).length fh)] w'->eu w 40 [(w.heap.size,.bool (decide (x.num<0)),.slice da (af b64 x.num.natAbs).length de,.slice dc (af b64 (aq x.den)).length dg),(w.heap.size+1,.bool (decide (y.num<0)),.slice eZ (af b64 y.num.natAbs).length fg,.slice fc (af b64 (aq y.den)).length fh)] w'/\w'.cell? ⟨w.heap.size,0,none⟩=some (.bool (decide (x.num<0)))/\w'.cell? ⟨w.heap.size,1,none⟩=some (.slice da (af b64 x.num.natAbs).length de)/\w'.cell? ⟨w.heap.size,2,none⟩=some (.slice dc (af b64 (aq x.den)).length dg)/\w'.cell? ⟨w.heap.size+1,0,none⟩=some (.bool (decide (y.num<0)))/\w'.cell? ⟨w.heap.size+1,1,none⟩=some (.slice eZ (af b64 y.num.natAbs).length fg)/\w'.cell? ⟨w.heap.size+1,2,none⟩=some (.slice fc (af b64 (aq y.den)).length fh):=λw' hh=>by
  have q1:=(hh.2 (w.heap.size,.bool (decide (x.num<0)),.slice da (af b64 x.num.natAbs).length de,.slice dc (af b64 (aq x.den)).length dg) (by simp))
  have q2:=(hh.2 (w.heap.size+1,.bool (decide (y.num<0)),.slice eZ (af b64 y.num.natAbs).length fg,.slice fc (af b64 (aq y.den)).length fh) (by simp))
  exact⟨hh,q1.c0,q1.c1,q1.c2,q2.c0,q2.c1,q2.c2⟩
 have H0:eu w 40 [(w.heap.size,.bool (decide (x.num<0)),.slice da (af b64 x.num.natAbs).length de,.slice dc (af b64 (aq x.den)).length dg),(w.heap.size+1,.bool (decide (y.num<0)),.slice eZ (af b64 y.num.natAbs).length fg,.slice fc (af b64 (aq y.den)).length fh)] w2:=⟨B0,by intro p hp; simp at hp; rcases hp with rfl|rfl; exact p1; exact p2⟩
 clear e1 e2
 have hz:=H0.drew
 go_region_held3 (λw'=>eu w 40 [(w.heap.size,.bool (decide (x.num<0)),.slice da (af b64 x.num.natAbs).length de,.slice dc (af b64 (aq x.den)).length dg),(w.heap.size+1,.bool (decide (y.num<0)),.slice eZ (af b64 y.num.natAbs).length fg,.slice fc (af b64 (aq y.den)).length fh)] w'/\w'.cell? ⟨w.heap.size,0,none⟩=some (.bool (decide (x.num<0)))/\w'.cell? ⟨w.heap.size,1,none⟩=some (.slice da (af b64 x.num.natAbs).length de)/\w'.cell? ⟨w.heap.size,2,none⟩=some (.slice dc (af b64 (aq x.den)).length dg)/\w'.cell? ⟨w.heap.size+1,0,none⟩=some (.bool (decide (y.num<0)))/\w'.cell? ⟨w.heap.size+1,1,none⟩=some (.slice eZ (af b64 y.num.natAbs).length fg)/\w'.cell? ⟨w.heap.size+1,2,none⟩=some (.slice fc (af b64 (aq y.den)).length fh))
  (exact hS _ hz)
  (first
   |(go_at_call 81; have hc:=lp _ _ x (hx.below hz.1); (with_reducible refine Calls.mono hc ?_); clear hc; rintro e wz ⟨rfl,hb⟩; rw[WO.out]; (try have lT:=lT.below hb); (try have lU:=lU.below hb); (try have lS:=lS.below hb); (try have kj:=kj.below hb); have hz:=eu.call (by assumption) hb)
   |(go_at_call 81; have hc:=lp _ _ y (hy.below hz.1); (with_reducible refine Calls.mono hc ?_); clear hc; rintro e wz ⟨rfl,hb⟩; rw[Xu.out]; (try have lT:=lT.below hb); (try have lU:=lU.below hb); (try have lS:=lS.below hb); (try have kj:=kj.below hb); have hz:=eu.call (by assumption) hb))
 all_goals (
  go_wp2_with fail
  have hz:=hz.drew
  go_region_held3 (λw'=>eu w 40 [(w.heap.size,.bool (decide (x.num<0)),.slice da (af b64 x.num.natAbs).length de,.slice dc (af b64 (aq x.den)).length dg),(w.heap.size+1,.bool (decide (y.num<0)),.slice eZ (af b64 y.num.natAbs).length fg,.slice fc (af b64 (aq y.den)).length fh)] w'/\w'.cell? ⟨w.heap.size,0,none⟩=some (.bool (decide (x.num<0)))/\w'.cell? ⟨w.heap.size,1,none⟩=some (.slice da (af b64 x.num.natAbs).length de)/\w'.cell? ⟨w.heap.size,2,none⟩=some (.slice dc (af b64 (aq x.den)).length dg)/\w'.cell? ⟨w.heap.size+1,0,none⟩=some (.bool (decide (y.num<0)))/\w'.cell? ⟨w.heap.size+1,1,none⟩=some (.slice eZ (af b64 y.num.natAbs).length fg)/\w'.cell? ⟨w.heap.size+1,2,none⟩=some (.slice fc (af b64 (aq y.den)).length fh))
   (exact hS _ hz)
   (first
    |(go_at_call 65; have hc:=kF _ _ x.den (jO.below hz.1) TK; (with_reducible refine Calls.mono hc ?_); clear hc; rintro e wz ⟨vux,rfl,lT,hb⟩; (try have lT:=lT.below hb); (try have lU:=lU.below hb); (try have lS:=lS.below hb); (try have kj:=kj.below hb); have hz:=eu.call (by assumption) hb)
    |(go_at_call 65; have hc:=kF _ _ y.den (qp.below hz.1) Vi; (with_reducible refine Calls.mono hc ?_); clear hc; rintro e wz ⟨vuy,rfl,lU,hb⟩; (try have lT:=lT.below hb); (try have lU:=lU.below hb); (try have lS:=lS.below hb); (try have kj:=kj.below hb); have hz:=eu.call (by assumption) hb)
    |(go_at_call 66; have hc:=kE _ _ _ _ _ (lu.below hz.1) lU HB.out.1.1 HB.out.2.2 fA ot; (with_reducible refine Calls.mono hc ?_); clear hc; rintro e wz ⟨vt1,rfl,lS,hb⟩; (try have lT:=lT.below hb); (try have lU:=lU.below hb); (try have lS:=lS.below hb); (try have kj:=kj.below hb); have hz:=eu.call (by assumption) hb)
    |(go_at_call 66; have hc:=kE _ _ _ _ _ (tq.below hz.1) lT HB.out.2.1 HB.out.1.2 ot fA; (with_reducible refine Calls.mono hc ?_); clear hc; rintro e wz ⟨vt2,rfl,kj,hb⟩; (try have lT:=lT.below hb); (try have lU:=lU.below hb); (try have lS:=lS.below hb); (try have kj:=kj.below hb); have hz:=eu.call (by assumption) hb)
    |(go_at_call 69; have hc:=ju _ _ _ _ _ lS kj; (with_reducible refine Calls.mono hc ?_); clear hc; rintro e wz ⟨rfl,hb⟩; rw[HCC.out]; (try have lT:=lT.below hb); (try have lU:=lU.below hb); (try have lS:=lS.below hb); (try have kj:=kj.below hb); have hz:=eu.call (by assumption) hb)
    |(go_at_call 81; have hc:=lp _ _ x (hx.below hz.1); (with_reducible refine Calls.mono hc ?_); clear hc; rintro e wz ⟨rfl,hb⟩; rw[WO.out]; (try have lT:=lT.below hb); (try have lU:=lU.below hb); (try have lS:=lS.below hb); (try have kj:=kj.below hb); have hz:=eu.call (by assumption) hb))
  all_goals (
   go_wp2
   go_ret
   exact⟨rfl,hz.1⟩))
theorem Ro (w:World) (vx vy:Value) (x y:Rat) (hx:bL w vx x) (hy:bL w vy y) {j k:Nat} (hj:aZ j x) (hk:aZ k y) (yh:j+k<=100000000):Calls Tryz.prog 35 #[vx,vy] w (fU w (.int .i64 (Rm x y))):=by
 unfold Rm
 by_cases hs:dK x=dK y
 ·rw[if_pos hs]; exact XO w vx vy x y hx hy hj hk yh hs
 ·rw[if_neg hs]
  by_cases hl:dK x<dK y
  ·rw[if_pos hl]; exact XM w vx vy x y hx hy hs hl
  ·rw[if_neg hl]; exact XN w vx vy x y hx hy hs hl
end Wx
