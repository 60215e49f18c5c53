import Derived.Test.YtpiniclogfefjaaCSylvesterSylPlain
namespace Wx

theorem U6 (n:Nat) (M B:Q4):det n (Yh n M B)=det n M*det n B:=by
 let X:List (List Rat):=(List.range n).map fun r=>(List.range n).map (M r)
 have hl:X.length=n:=by show((List.range n).map _).length=n; rw[List.length_map,List.length_range]
 have hg:∀r,r<n→X.getD r []=(List.range n).map (M r):=fun r hr=>X0 (g:=fun r=>(List.range n).map (M r)) hr
 have hr:Rect n X:=fun i hi=>by rw[hg i (by omega),List.length_map,List.length_range]
 have e:∀r c,r<n→c<n→ent X r c=M r c:=fun r c h1 h2=>by
  unfold ent
  rw[hg r h1]
  exact X0 h2
 have:=(detG_det hl hr).2.2 B
 rw[X9 (Qda e),X9 e]at this
 exact this
def idM:Q4:=fun r c=>if c=r then 1 else 0
theorem prodN_one {n:Nat} {f:Nat→Rat} (h:∀i,i<n→f i=1):Jw n f=1:=by
 induction n with
 |zero=>rfl
 |succ n ih=>
  show Jw n f*f n=1
  rw[ih fun i hi=>h i (by omega),h n (by omega),Rat.mul_one]
theorem det_id (n:Nat):det n idM=1:=by
 rw[Qb2 (M:=idM) fun r c h _=>show(if c=r then(1:Rat)else 0)=0 from if_neg (by omega)]
 exact prodN_one fun i _=>if_pos rfl
theorem mul_pick {n:Nat} (g:Nat→Nat) (hg:∀i,i<n→g i<n) (M:Q4) {r:Nat} (hr:r<n) (c:Nat):Yh n (fun r c=>if c=g r then 1 else 0) M r c=M (g r) c:=by
 show(Qt n fun k=>(if k=g r then 1 else 0)*M k c)=_
 rw[Vg (p:=g r) (hg r hr) fun i _ h=>by rw[if_neg h,Rat.zero_mul],if_pos rfl,Rat.one_mul]
theorem pick_mul {n:Nat} (g:Nat→Nat) (hg:∀i,i<n→g i<n) (hgg:∀i,g (g i)=i) (M:Q4) (r:Nat) {c:Nat} (hc:c<n):Yh n M (fun r c=>if c=g r then 1 else 0) r c=M r (g c):=by
 show(Qt n fun k=>M r k*(if c=g k then 1 else 0))=_
 rw[Vg (p:=g c) (hg c hc) fun i _ h=>by rw[if_neg fun e=>h (by rw[e,hgg]),Rat.mul_zero],if_pos (hgg c).symm,Rat.mul_one]
theorem det_swp {n p:Nat} (hp:p<n) (M:Q4):det n (swpM p M)=det n M:=by
 let S:Q4:=fun r c=>if c=sw p r then 1 else 0
 have h1:det n S*det n S=1:=by
  rw[← U6,← det_id n]
  exact X9 fun r c hr _=>by
   rw[mul_pick (sw p) (fun i=>sw_lt hp) S hr]
   show(if c=sw p (sw p r)then(1:Rat)else 0)=idM r c
   rw[sw_sw]
   rfl
 have h2:det n (swpM p M)=det n S*(det n M*det n S):=by
  rw[← U6,← U6]
  exact X9 fun r c hr hc=>by
   rw[mul_pick (sw p) (fun i=>sw_lt hp) _ hr,pick_mul (sw p) (fun i=>sw_lt hp) (sw_sw p) _ _ hc]
   rfl
 rw[h2]
 grind
theorem det_ad {n i k:Nat} (hi:i<n) (hk:k<n) (hne:i≠k) (M:Q4):det n (Wz i k M)=det n M:=by
 have h1:det n (Xg M i fun c=>M i c+1*M k c)=det n M:=Vl hi hk hne M 1
 -- the columns: times a matrix whose determinant is 1
 let S:Q4:=Xg idM k fun c=>idM k c+1*idM i c
 have h2:det n S=1:=by rw[show det n S=det n idM from Vl hk hi (Ne.symm hne) idM 1,det_id]
 have h3:det n (Wz i k M)=det n (Xg M i fun c=>M i c+1*M k c)*det n S:=by
  rw[← U6]
  refine X9 fun r c hr hc=>?_
  have e:∀x:Nat→Rat,(Qt n fun q=>x q*S q c)=x c+if c=i then x k else 0:=fun x=>by
   have e0:∀q,S q c=(if c=q then 1 else 0)+if q=k then(if c=i then 1 else 0)else 0:=fun q=>by
    show(if q=k then(if c=k then(1:Rat)else 0)+1*(if c=i then 1 else 0)else if c=q then 1 else 0)=_
    by_cases h:q=k
    ·rw[if_pos h,if_pos h,Rat.one_mul,h]
    ·rw[if_neg h,if_neg h,Rat.add_zero]
   have e1:∀q,x q*S q c=(if q=c then x c else 0)+if q=k then(if c=i then x k else 0)else 0:=fun q=>by
    rw[e0]
    by_cases h:q=k
    ·rw[if_pos h,if_pos h,h]
     by_cases h2:c=k
     ·rw[if_pos h2,if_pos h2.symm,← h2]
      split<;>grind
     ·rw[if_neg h2,if_neg (Ne.symm h2)]
      split<;>grind
    ·rw[if_neg h,if_neg h]
     by_cases h2:c=q
     ·rw[if_pos h2,if_pos h2.symm,← h2]
      grind
     ·rw[if_neg h2,if_neg (Ne.symm h2)]
      grind
   rw[Qq fun q _=>e1 q,Qbd hk,Vg (p:=c) hc fun j _ h=>if_neg h,if_pos rfl]
  show _=Qt n fun q=>(Xg M i fun c=>M i c+1*M k c) r q*S q c
  rw[e fun q=>(Xg M i fun c=>M i c+1*M k c) r q]
  unfold Wz Xg
  by_cases h:r=i
  ·subst h
   rw[if_pos rfl,if_pos rfl,if_pos rfl,if_pos rfl]
   grind
  ·rw[if_neg h,if_neg h,if_neg h,if_neg h]
 rw[h3,h1,h2,Rat.mul_one]
theorem det_sch {n:Nat} {M:Q4} (h0:M 0 0≠0):det (n+1) M=M 0 0*det n (Z3 M):=by
 have key:∀t,t≤n→det (n+1) (fun r c=>if 0<r∧r≤t then M r c + -(M r 0/M 0 0)*M 0 c else M r c)=det (n+1) M:=by
  intro t
  induction t with
  |zero=>intro _; exact X9 fun r c _ _=>if_neg (by omega)
  |succ t ih=>
   intro ht
   rw[← ih (by omega),← Vl (n:=n+1) (p:=t+1) (q:=0) (by omega) (by omega) (by omega) (fun r c=>if 0<r∧r≤t then M r c + -(M r 0/M 0 0)*M 0 c else M r c) (-(M (t+1) 0/M 0 0))]
   refine X9 fun r c _ _=>?_
   unfold Xg
   dsimp only
   by_cases h:r=t+1
   ·subst h
    rw[if_pos (by omega),if_pos rfl,if_neg (by omega),if_neg (by omega)]
   ·rw[if_neg h]
    by_cases h2:0<r∧r≤t
    ·rw[if_pos (by omega),if_pos h2]
    ·rw[if_neg (by omega),if_neg h2]
 rw[← key n (Nat.le_refl _),det_head fun r h1 h2=>?_]
 ·rw[if_neg (by omega)]
  refine congrArg (_*·) (X9 fun r c hr _=>?_)
  rw[if_pos (by omega)]
  unfold Z3
  grind
 ·rw[if_pos (by omega),Rat.div_def]
  have:=Rat.mul_inv_cancel _ h0
  grind
theorem Qev {x y:Rat} (hx:0<x):0<x*y↔0<y:=by
 constructor
 ·intro h
  refine Classical.byContradiction fun hn=>?_
  have:=Rat.mul_nonneg (Rat.le_of_lt hx) (show 0 ≤ -y by grind)
  grind
 ·exact Rat.mul_pos hx
theorem InR.det {n p q z:Nat} {M:Q4} (h:InR n M p q z):(det n M=0↔z≠0)∧(z=0→(0<Wx.det n M↔q%2=0)):=by
 induction h with
 |@zero n M h=>
  rcases Nat.eq_zero_or_pos n with rfl|hn
  ·exact⟨⟨fun h=>absurd h (by show(1:Rat)≠0; decide),fun h=>absurd rfl h⟩,fun _=>⟨fun _=>rfl,fun _=>by show(0:Rat)<1; decide⟩⟩
  ·refine⟨⟨fun _=>by omega,fun _=>W3 hn fun c hc=>h 0 c hn hc⟩,fun h=>by omega⟩
 |congr h k ih=>rw[X9 h]; exact ih
 |swp i hi k ih=>rw[det_swp hi]at ih; exact ih
 |ad i j hi hj hne k ih=>rw[det_ad hi hj hne]at ih; exact ih
 |@pos n M p q z h k ih=>
  have h0:M 0 0≠0:=by grind
  rw[det_sch h0]
  refine⟨⟨fun e=>ih.1.1 ((Rat.mul_eq_zero.1 e).resolve_left h0),fun e=>by rw[ih.1.2 e,Rat.mul_zero]⟩,fun e=>(Qev h).trans (ih.2 e)⟩
 |@neg n M p q z h k ih=>
  have h0:M 0 0≠0:=by grind
  rw[det_sch h0]
  refine⟨⟨fun e=>ih.1.1 ((Rat.mul_eq_zero.1 e).resolve_left h0),fun e=>by rw[ih.1.2 e,Rat.mul_zero]⟩,fun e=>?_⟩
  have hd:Wx.det n (Z3 M)≠0:=fun h=>ih.1.1 h e
  have e2:M 0 0*Wx.det n (Z3 M) = -(M 0 0) * -(Wx.det n (Z3 M)):=by grind
  rw[e2,Qev (by grind)]
  have:=ih.2 e
  constructor
  ·intro h1
   have:¬q%2=0:=fun h2=>by have:=this.2 h2; grind
   omega
  ·intro h1
   have h2:¬0<Wx.det n (Z3 M):=fun h2=>by have:=this.1 h2; omega
   grind
open Classical in
noncomputable def inr (n:Nat) (M:Q4):Nat×Nat×Nat:=if h:∃t:Nat×Nat×Nat,InR n M t.1 t.2.1 t.2.2 then Classical.choose h else(0,0,0)
theorem InR.uniq {n p q z p' q' z':Nat} {M:Q4} (hs:Sym n M) (h:InR n M p q z) (h':InR n M p' q' z'):p=p'∧q=q'∧z=z':=by
 obtain⟨a1,a2,a3⟩:=h.chr hs
 obtain⟨b1,b2,b3⟩:=h'.chr hs
 have:=a2.uniq b2
 have:=a3.uniq b3
 omega
theorem Qau {n:Nat} {M:Q4} (hs:Sym n M):InR n M (inr n M).1 (inr n M).2.1 (inr n M).2.2:=by
 have h:∃t:Nat×Nat×Nat,InR n M t.1 t.2.1 t.2.2:=by
  obtain⟨p,q,z,h⟩:=InR.ex n M hs
  exact⟨(p,q,z),h⟩
 unfold inr
 rw[dif_pos h]
 exact Classical.choose_spec h
theorem inr_eq {n p q z:Nat} {M:Q4} (hs:Sym n M) (h:InR n M p q z):inr n M=(p,q,z):=by
 obtain⟨h1,h2,h3⟩:=(Qau hs).uniq hs h
 exact Prod.ext h1 (Prod.ext h2 h3)
theorem inr_sum {n:Nat} {M:Q4} (hs:Sym n M):(inr n M).1+(inr n M).2.1+(inr n M).2.2=n:=((Qau hs).chr hs).1
theorem inr_neg {n:Nat} {M:Q4} (hs:Sym n M):(inr n (Kh M)).1=(inr n M).2.1∧(inr n (Kh M)).2.1=(inr n M).1∧(inr n (Kh M)).2.2=(inr n M).2.2:=by
 obtain⟨a1,a2,a3⟩:=(Qau hs).chr hs
 obtain⟨b1,b2,b3⟩:=(Qau hs.neg).chr hs.neg
 rw[Qd9]at b3
 have:=b2.uniq a3
 have:=b3.uniq a2
 omega
theorem inr_congr {n:Nat} {M C N:Q4} (hs:Sym n M) (hN:Sym n N) (hd:det n C≠0) (h:∀r c,r<n→c<n→N r c=Yh n (Yh n (fun r c=>C c r) M) C r c):inr n N=inr n M:=by
 have emb:Emb n n N M fun v r=>Qt n fun k=>C r k*v k:=by
  refine⟨fun p a E c _=>?_,fun v hv c hc=>Classical.byContradiction fun hn=>?_,fun v=>?_⟩
  ·unfold Jq
   rw[Qq (n:=n) (g:=fun k=>Qt p fun i=>a i*(C c k*E i k)) fun k _=>by rw[← Yd]; exact Qq fun i _=>by grind,Vh]
   exact Qq fun i _=>Yd _ _ _
  ·-- the columns lean on each other
   have hz:∀B:Q4,det n (Yh n C B)=det n C*det n B:=fun B=>U6 n C B
   let B:Q4:=fun r q=>if q=c then v r else if q=r then 1 else 0
   have hB:det n B=v c:=by
    rw[show det n B=det n (V6 v c n)from X9 fun r q hr hq=>(colI_full v r q hr hq).symm]
    exact det_colI hc v
   let Z:Q4:=fun r q=>if q=r then(if r=c then 0 else 1)else 0
   have h0:det n (Yh n C B)=0:=by
    have e:det n (Yh n (Yh n C B) Z)=det n (Yh n C B):=X9 fun r q hr hq=>by
     show(Qt n fun k=>Yh n C B r k*Z k q)=_
     rw[Vg (p:=q) hq fun k _ hk=>by rw[show Z k q=0 from if_neg (Ne.symm hk),Rat.mul_zero]]
     by_cases hqc:q=c
     ·have h0:Yh n C B r c=0:=by
       show(Qt n fun k=>C r k*B k c)=0
       rw[Qq (n:=n) (g:=fun k=>C r k*v k) fun k _=>by rw[show B k c=v k from if_pos rfl]]
       exact hv r hr
      rw[hqc,h0,Rat.zero_mul]
     ·rw[show Z q q=1 from(if_pos rfl).trans (if_neg hqc),Rat.mul_one]
    have hZ:det n Z=0:=W3 hc fun q _=>by
     show(if q=c then(if c=c then(0:Rat)else 1)else 0)=0
     rw[if_pos rfl]
     split<;>rfl
    rw[← e,U6 n _ Z,hZ,Rat.mul_zero]
   rw[hz,hB]at h0
   rcases Rat.mul_eq_zero.1 h0 with h0|h0
   ·exact hd h0
   ·exact hn h0
  ·unfold qf bil
   have e1:∀r,r<n→(v r*Qt n fun c=>N r c*v c)=Qt n fun i=>C i r*v r*(Qt n fun k=>M i k*Qt n fun c=>C k c*v c):=fun r hr=>by
    have e2:(Qt n fun c=>N r c*v c)=Qt n fun i=>C i r*(Qt n fun k=>M i k*Qt n fun c=>C k c*v c):=by
     rw[Qq (n:=n) (g:=fun c=>Qt n fun k=>(Qt n fun i=>C i r*M i k)*(C k c*v c)) fun c hc=>by
      rw[h r c hr hc,show Yh n (Yh n (fun r c=>C c r) M) C r c=Qt n fun k=>(Qt n fun i=>C i r*M i k)*C k c from rfl,Rat.mul_comm,← Yd]
      exact Qq fun k _=>by grind]
     rw[Vh,Qq (n:=n) (g:=fun k=>Qt n fun i=>C i r*(M i k*Qt n fun c=>C k c*v c)) fun k _=>by
      rw[Yd,Rat.mul_comm,← Yd]
      exact Qq fun i _=>by grind]
     rw[Vh]
     exact Qq fun i _=>Yd _ _ _
    rw[e2,← Yd]
    exact Qq fun i _=>by grind
   rw[Qq (n:=n) (f:=fun r=>v r*Qt n fun c=>N r c*v c) e1,Vh]
   refine Qq fun i _=>?_
   rw[Rat.mul_comm,← Yd]
   exact Qq fun r _=>by grind
 obtain⟨a1,a2,a3⟩:=(Qau hs).chr hs
 obtain⟨b1,b2,b3⟩:=(Qau hN).chr hN
 have:=a2.uniq (emb.chr b2)
 have:=a3.uniq (emb.neg.chr b3)
 exact Prod.ext (by omega) (Prod.ext (by omega) (by omega))
end Wx

namespace Wx

def Vi (a b:Nat) (L:List Rat):List Rat:=(L.set a (L.getD b 0)).set b (L.getD a 0)
theorem swpRow_len (a b:Nat) (L:List Rat):(Vi a b L).length=L.length:=by unfold Vi; rw[List.length_set,List.length_set]
theorem swpRow_get {a b:Nat} {L:List Rat} (ha:a<L.length) (hb:b<L.length) (q:Nat):(Vi a b L).getD q 0=if q=b then L.getD a 0 else if q=a then L.getD b 0 else L.getD q 0:=by
 unfold Vi
 rw[Zk (by rw[List.length_set]; exact hb),Zk ha]
def Vs (a b:Nat) (L:List Rat):List Rat:=L.set a (L.getD a 0+L.getD b 0)
theorem addRow_len (a b:Nat) (L:List Rat):(Vs a b L).length=L.length:=List.length_set ..
theorem addRow_get {a b:Nat} {L:List Rat} (ha:a<L.length) (q:Nat):(Vs a b L).getD q 0=if q=a then L.getD a 0+L.getD b 0 else L.getD q 0:=by
 unfold Vs
 rw[Zk ha]
def Z6 (F:List Rat→List Rat) (X:List (List Rat)) (a t:Nat):List (List Rat):=X.mapIdx fun q row=>if a≤q∧q<t then F row else row
section
variable {F:List Rat→List Rat} {X:List (List Rat)} {a t:Nat}
theorem Zp:(Z6 F X a t).length=X.length:=by unfold Z6; exact List.length_mapIdx
theorem K9 {i:Nat} (hi:i<X.length):(Z6 F X a t).getD i []=if a≤i∧i<t then F (X.getD i [])else X.getD i []:=by
 unfold Z6
 rw[Q8,List.getElem?_mapIdx,List.getElem?_eq_getElem hi,Q8,List.getElem?_eq_getElem hi]
 rfl
theorem Qcp:Z6 F X a a=X:=Z9 (d:=[]) Zp fun i hi=>by
 rw[Zp]at hi
 rw[K9 hi,if_neg (by omega)]
theorem Qdj {i:Nat} (hi:i<X.length) (h:t≤i∨i<a):(Z6 F X a t).getD i []=X.getD i []:=by rw[K9 hi,if_neg (by omega)]
theorem Qdl (ht:t<X.length) (hat:a≤t):(Z6 F X a t).set t (F (X.getD t []))=Z6 F X a (t+1):=by
 refine Z9 (d:=[]) (by rw[List.length_set,Zp,Zp]) fun i hi=>?_
 rw[List.length_set,Zp]at hi
 rw[Zk (by rw[Zp]; exact ht),K9 hi,K9 hi]
 by_cases h:i=t
 ·subst h
  rw[if_pos rfl,if_pos (by omega)]
 ·rw[if_neg h]
  by_cases h1:a≤i∧i<t
  ·rw[if_pos h1,if_pos (by omega)]
  ·rw[if_neg h1,if_neg (by omega)]
theorem Qdk {m:Nat} (hF:∀r:List Rat,r.length=m→(F r).length=m) (h:Rect m X):Rect m (Z6 F X a t):=fun i hi=>by
 rw[Zp]at hi
 rw[K9 hi]
 split
 ·exact hF _ (h i hi)
 ·exact h i hi
end
def Xc (s:Nat) (X:List (List Rat)):Q4:=fun r c=>(X.getD r []).getD (s+c) 0
theorem swapL_getD {X:List (List Rat)} {i r:Nat} (hi:i<X.length) (hr:r<X.length):(Yt X 0 i).getD r []=X.getD (sw i r) []:=by
 have hx:X[0]?=some (X.getD 0 []):=by rw[Q8,List.getElem?_eq_getElem (by omega)]; rfl
 have hy:X[i]?=some (X.getD i []):=by rw[Q8,List.getElem?_eq_getElem hi]; rfl
 rw[Q8 (Yt _ _ _),Ku hx hy]
 unfold sw
 by_cases h:r=i
 ·rw[if_pos h]
  by_cases h0:r=0
  ·rw[if_pos h0]; subst h0; subst h; rfl
  ·rw[if_neg h0,if_pos h]; rfl
 ·rw[if_neg h]
  by_cases h0:r=0
  ·rw[if_pos h0,if_pos h0]; rfl
  ·rw[if_neg h0,if_neg h0,if_neg h,Q8]
section
variable {X:List (List Rat)} {s i j:Nat}
theorem swapL_rect {m a b:Nat} (h:Rect m X) (ha:a<X.length) (hb:b<X.length):Rect m (Yt X a b):=fun r hr=>by
 rw[Wa]at hr
 have hx:X[a]?=some (X.getD a []):=by rw[Q8,List.getElem?_eq_getElem ha]; rfl
 have hy:X[b]?=some (X.getD b []):=by rw[Q8,List.getElem?_eq_getElem hb]; rfl
 rw[Q8 (Yt _ _ _),Ku hx hy]
 split
 ·exact h a ha
 ·split
  ·exact h b hb
  ·rw[← Q8]; exact h r hr
def leadA (s i:Nat) (X:List (List Rat)):List (List Rat):=Z6 (Vi s (s+i)) (Yt X 0 i) 0 X.length
theorem leadA_sub (hr:Rect (s+X.length) X) (hi:i<X.length):∀r c,r<X.length→c<X.length→Xc s (leadA s i X) r c=swpM i (Xc s X) r c:=by
 intro r c h1 h2
 unfold Xc leadA swpM
 rw[K9 (by rw[Wa]; exact h1),if_pos ⟨Nat.zero_le _,h1⟩,swapL_getD hi h1]
 have hl:(X.getD (sw i r) []).length=s+X.length:=hr _ (sw_lt hi h1)
 rw[swpRow_get (by omega) (by omega)]
 unfold sw
 by_cases h:c=i
 ·rw[if_pos (by omega)]
  by_cases h0:c=0
  ·rw[if_pos h0,show i=0 by omega]; rfl
  ·rw[if_neg h0,if_pos h]; rfl
 ·rw[if_neg (by omega)]
  by_cases h0:c=0
  ·rw[if_pos (by omega),if_pos h0]
  ·rw[if_neg (by omega),if_neg h0,if_neg h]
def Uv (s i j:Nat) (X:List (List Rat)):List (List Rat):=X.set i (Xz (X.getD i []) s (X.getD j []) s (-1) X.length)
def Uu (s i j:Nat) (X:List (List Rat)):List (List Rat):=Z6 (Vs (s+i) (s+j)) (Uv s i j X) 0 X.length
theorem redAt_val {L1 L2:List Rat} {f:Rat} {m q:Nat} (h:s+q<L1.length):(Xz L1 s L2 s f m).getD (s+q) 0=if q<m then L1.getD (s+q) 0-f*L2.getD (s+q) 0 else L1.getD (s+q) 0:=by
 unfold Xz
 rw[Q8,List.getElem?_mapIdx,List.getElem?_eq_getElem h,Q8 L1,List.getElem?_eq_getElem h]
 show(if s≤s+q∧s+q<s+m then L1[s+q]-f*L2.getD (s+(s+q-s)) 0 else L1[s+q])=_
 by_cases hq:q<m
 ·rw[if_pos (by omega),if_pos hq,show s+(s+q-s)=s+q by omega]; rfl
 ·rw[if_neg (by omega),if_neg hq]; rfl
theorem Qav:(Uv s i j X).length=X.length:=List.length_set ..
theorem Qc7 {m:Nat} (h:Rect m X):Rect m (Uv s i j X):=fun r hr=>by
 rw[Qav]at hr
 unfold Uv
 rcases Nat.lt_or_ge i X.length with hi|hi
 ·rw[Zk hi]
  split
  ·rw[J1]; exact h i hi
  ·exact h r hr
 ·rw[List.set_eq_of_length_le hi]
  exact h r hr
theorem Qb7 (hr:Rect (s+X.length) X) (hi:i<X.length) {r c:Nat} (h2:c<X.length):Xc s (Uv s i j X) r c=if r=i then Xc s X i c+Xc s X j c else Xc s X r c:=by
 unfold Xc Uv
 rw[Zk hi]
 by_cases h:r=i
 ·rw[if_pos h,if_pos h,redAt_val (by rw[hr i hi]; omega),if_pos h2]
  grind
 ·rw[if_neg h,if_neg h]
theorem Qb6 (hr:Rect (s+X.length) X) (hi:i<X.length) (hj:j<X.length):∀r c,r<X.length→c<X.length→Xc s (Uu s i j X) r c=Wz i j (Xc s X) r c:=by
 intro r c h1 h2
 have hl:((Uv s i j X).getD r []).length=s+X.length:=Qc7 hr r (by rw[Qav]; exact h1)
 have e:Xc s (Uu s i j X) r c=if c=i then Xc s (Uv s i j X) r i+Xc s (Uv s i j X) r j else Xc s (Uv s i j X) r c:=by
  unfold Xc Uu
  rw[K9 (by rw[Qav]; exact h1),if_pos ⟨Nat.zero_le _,h1⟩,addRow_get (by omega)]
  by_cases h:c=i
  ·rw[if_pos (by omega),if_pos h]
  ·rw[if_neg (by omega),if_neg h]
 rw[e,Qb7 hr hi hi,Qb7 hr hi hj,Qb7 hr hi h2]
 unfold Wz
 by_cases h:c=i
 ·rw[if_pos h,if_pos h,h]
 ·rw[if_neg h,if_neg h,Rat.add_zero]
def restF (s m:Nat) (L0 L:List Rat):List Rat:=if L.getD s 0/L0.getD s 0=0 then L else Xz L s L0 s (L.getD s 0/L0.getD s 0) m
theorem restF_len (s m:Nat) (L0 L:List Rat):(restF s m L0 L).length=L.length:=by
 unfold restF
 split
 ·rfl
 ·exact J1
def Wk (s:Nat) (X:List (List Rat)):List (List Rat):=Z6 (restF s X.length (X.getD 0 [])) X 1 X.length
theorem rest_val {L0 L:List Rat} {m c:Nat} (h:s+c<L.length) (hc:c<m):(restF s m L0 L).getD (s+c) 0=L.getD (s+c) 0-L.getD s 0/L0.getD s 0*L0.getD (s+c) 0:=by
 unfold restF
 split
 ·rename_i h0
  rw[h0]
  grind
 ·rw[redAt_val h,if_pos hc]
theorem rest_sub (hr:Rect (s+X.length) X) {r c:Nat} (h1:r+1<X.length) (h2:c+1<X.length):Xc (s+1) (Wk s X).tail r c=Z3 (Xc s X) r c:=by
 have e1:(Wk s X).tail.getD r []=(Wk s X).getD (r+1) []:=by rw[Q8,Q8,List.getElem?_tail]
 unfold Xc Z3
 rw[e1]
 unfold Wk
 rw[K9 h1,if_pos ⟨by omega,h1⟩,show s+1+c=s+(c+1) by omega,rest_val (by rw[hr _ h1]; omega) (by omega)]
 rfl
end
def ComM (α δ n:Nat) (M:Q4):Prop:=∃d:Nat,0<d∧Bd δ d∧∀r c,r<n→c<n→∃a:Int,Bd α a.natAbs∧M r c*((d:Int):Rat)=(a:Rat)
theorem cast_ne {d:Nat} (h:0<d):((d:Int):Rat)≠0:=fun e=>by
 have:=Rat.intCast_inj.1 (e.trans (show(0:Rat)=((0:Int):Rat)from rfl))
 omega
theorem bd_mul_eq {x:Rat} {d:Nat} {a:Int} {j:Nat} (hd:0<d) (h:x*((d:Int):Rat)=(a:Rat)) (h1:Bd j a.natAbs) (h2:Bd j d):BdR j x:=by
 have e:x=Yn (decide (a<0)) a.natAbs d:=by
  unfold Yn
  rw[sg_mk,Rat.mkRat_eq_div]
  have hd0:=cast_ne hd
  have:=Rat.mul_inv_cancel _ hd0
  rw[Rat.div_def,← h]
  show x=x*((d:Int):Rat)*(((d:Int):Rat))⁻¹
  grind
 rw[e]
 exact K6 hd h1 h2
section
variable {M N:Q4} {α δ n i j J:Nat}
theorem ComM.bd (h:ComM α δ n M) (h1:α≤J) (h2:δ≤J) {r c:Nat} (hr:r<n) (hc:c<n):BdR J (M r c):=by
 obtain⟨d,hd,hd2,hX⟩:=h
 obtain⟨a,ha,e⟩:=hX r c hr hc
 exact bd_mul_eq hd e (ha.mono h1) (hd2.mono h2)
theorem ComM.congr (h:ComM α δ n M) (e:∀r c,r<n→c<n→N r c=M r c):ComM α δ n N:=by
 obtain⟨d,hd,hd2,hX⟩:=h
 exact⟨d,hd,hd2,fun r c hr hc=>by rw[e r c hr hc]; exact hX r c hr hc⟩
theorem ComM.mono (h:ComM α δ n M) {α':Nat} (hα:α≤α'):ComM α' δ n M:=by
 obtain⟨d,hd,hd2,hX⟩:=h
 exact⟨d,hd,hd2,fun r c hr hc=>by obtain⟨a,ha,e⟩:=hX r c hr hc; exact⟨a,ha.mono hα,e⟩⟩
theorem ComM.swp (h:ComM α δ n M) (hi:i<n):ComM α δ n (swpM i M):=by
 obtain⟨d,hd,hd2,hX⟩:=h
 exact⟨d,hd,hd2,fun r c hr hc=>hX _ _ (sw_lt hi hr) (sw_lt hi hc)⟩
theorem bd_addI {a b:Int} {j:Nat} (ha:Bd j a.natAbs) (hb:Bd j b.natAbs):Bd (j+1) (a+b).natAbs:=by
 unfold Bd at *
 rw[Nat.pow_succ]
 omega
theorem ComM.row (h:ComM α δ n M) (hj:j<n):ComM (α+1) δ n (fun r c=>if r=i then M i c+M j c else M r c):=by
 obtain⟨d,hd,hd2,hX⟩:=h
 refine⟨d,hd,hd2,fun r c hr hc=>?_⟩
 obtain⟨a,ha,e1⟩:=hX r c hr hc
 by_cases hri:r=i
 ·subst hri
  obtain⟨b,hb,e2⟩:=hX j c hj hc
  refine⟨a+b,bd_addI ha hb,?_⟩
  show(if r=r then M r c+M j c else M r c)*_=_
  rw[if_pos rfl,Rat.add_mul,e1,e2,Rat.intCast_add]
 ·exact⟨a,ha.mono (by omega),by show(if r=i then M i c+M j c else M r c)*_=_; rw[if_neg hri]; exact e1⟩
theorem ComM.ad (h:ComM α δ n M) (hj:j<n):ComM (α+2) δ n (Wz i j M):=by
 obtain⟨d,hd,hd2,hX⟩:=h.row (i:=i) hj
 refine⟨d,hd,hd2,fun r c hr hc=>?_⟩
 obtain⟨a,ha,e1⟩:=hX r c hr hc
 by_cases hci:c=i
 ·obtain⟨b,hb,e2⟩:=hX r j hr hj
  refine⟨a+b,bd_addI ha hb,?_⟩
  rw[show Wz i j M r c=(if r=i then M i c+M j c else M r c)+(if r=i then M i j+M j j else M r j) by unfold Wz; rw[if_pos hci],Rat.add_mul,e1,e2,Rat.intCast_add]
 ·exact⟨a,ha.mono (by omega),by rw[show Wz i j M r c=(if r=i then M i c+M j c else M r c) by unfold Wz; rw[if_neg hci,Rat.add_zero]]; exact e1⟩
theorem ComM.sch (h:ComM α δ (n+1) M) (h0:M 0 0≠0):ComM (2*α+1) (δ+α) n (Z3 M):=by
 obtain⟨d,hd,hd2,hX⟩:=h
 obtain⟨p,hp,ep⟩:=hX 0 0 (by omega) (by omega)
 have hd0:=cast_ne hd
 have hp0:(p:Rat)≠0:=fun e=>by
  rw[e]at ep
  rcases Rat.mul_eq_zero.1 ep with e|e
  ·exact h0 e
  ·exact hd0 e
 have hpz:p≠0:=fun e=>hp0 (by rw[e]; rfl)
 refine⟨d*p.natAbs,Nat.mul_pos hd (Int.natAbs_pos.2 hpz),hd2.mul hp,fun r c hr hc=>?_⟩
 obtain⟨x,hx,ex⟩:=hX (r+1) (c+1) (by omega) (by omega)
 obtain⟨y,hy,ey⟩:=hX (r+1) 0 (by omega) (by omega)
 obtain⟨z,hz,ez⟩:=hX 0 (c+1) (by omega) (by omega)
 have key:Z3 M r c*((d:Int):Rat)*(p:Rat)=(x*p-y*z:Int):=by
  rw[Rat.intCast_sub,Rat.intCast_mul,Rat.intCast_mul,← ex,← ey,← ez,← ep]
  unfold Z3
  rw[Rat.div_def]
  have:=Rat.mul_inv_cancel _ h0
  grind
 have hb:Bd (2*α+1) (x*p-y*z).natAbs:=by
  have b1:=hx.mul hp
  have b2:=hy.mul hz
  rw[← Int.natAbs_mul]at b1 b2
  have:=bd_addI b1 (b :=-(y*z)) (by rw[Int.natAbs_neg]; exact b2)
  rw[show 2*α+1=α+α+1 by omega,Int.sub_eq_add_neg]
  exact this
 rcases Int.lt_or_le p 0 with hneg|hpos
 ·refine⟨-(x*p-y*z),by rw[Int.natAbs_neg]; exact hb,?_⟩
  rw[Rat.intCast_neg,← key,show((d*p.natAbs:Nat):Int)=d * -p by rw[Int.natCast_mul]; congr 1; omega,Rat.intCast_mul,Rat.intCast_neg]
  grind
 ·refine⟨x*p-y*z,hb,?_⟩
  rw[← key,show((d*p.natAbs:Nat):Int)=d*p by rw[Int.natCast_mul]; congr 1; omega,Rat.intCast_mul]
  grind
end
def cA (α:Nat):Nat→Nat
 |0=>α
 |t+1=>2*(cA α t+2)+1
def cD (α δ:Nat):Nat→Nat
 |0=>δ
 |t+1=>cD α δ t+(cA α t+2)
theorem cA_mono {α t n:Nat} (h:t≤n):cA α t≤cA α n:=by
 induction n with
 |zero=>rw[Nat.le_zero.1 h]; exact Nat.le_refl _
 |succ n ih=>
  rcases Nat.lt_or_ge t (n+1)with h'|h'
  ·have:=ih (by omega)
   show cA α t≤2*(cA α n+2)+1
   omega
  ·rw[show t=n+1 by omega]
   exact Nat.le_refl _
theorem cD_mono {α δ t n:Nat} (h:t≤n):cD α δ t≤cD α δ n:=by
 induction n with
 |zero=>rw[Nat.le_zero.1 h]; exact Nat.le_refl _
 |succ n ih=>
  rcases Nat.lt_or_ge t (n+1)with h'|h'
  ·have:=ih (by omega)
   show cD α δ t≤cD α δ n+(cA α n+2)
   omega
  ·rw[show t=n+1 by omega]
   exact Nat.le_refl _
end Wx
