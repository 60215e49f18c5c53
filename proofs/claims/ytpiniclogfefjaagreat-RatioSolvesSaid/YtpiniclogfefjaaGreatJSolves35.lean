import Derived.Test.YtpiniclogfefjaaGreatJSolves34
import Derived.Test.YtpiniclogfefjaaGreatJSolves33
namespace Wx

open Classical in
noncomputable def chk (X:List (List Rat)):Int:=if Right X then 0 else 4
theorem chk_ok {X:List (List Rat)} (h:Right X):chk X=0:=if_pos h
theorem chk_no {X:List (List Rat)} (h:¬Right X):chk X=4:=if_neg h
open Classical in
noncomputable def sqchk (X:List (List Rat)):Int:=if Right X∧X.length=(X.getD 0 []).length then 0 else 4
theorem Qc6 {X:List (List Rat)} (h:Right X) (h2:X.length=(X.getD 0 []).length):sqchk X=0:=if_pos ⟨h,h2⟩
theorem Qgx {X:List (List Rat)} (h:¬(Right X∧X.length=(X.getD 0 []).length)):sqchk X=4:=if_neg h
def rowBad (X:List (List Rat)) (k:Nat):Bool:=((decide (((X.getD k []).length:Int)<1)||decide (((X.getD k []).length:Int)>8))||(((X.getD k []).length:Int) != ((X.getD 0 []).length:Int)))
def numBad (X:List (List Rat)):Bool:=(decide ((X.length:Int)<1)||decide ((X.length:Int)>8))
theorem Qez {X:List (List Rat)}:numBad X=false↔0<X.length∧X.length≤8:=by
 unfold numBad
 simp only[Bool.or_eq_false_iff,decide_eq_false_iff_not]
 omega
theorem Qe6 {X:List (List Rat)} {k:Nat}:rowBad X k=false↔(0<(X.getD k []).length∧(X.getD k []).length≤8)∧(X.getD k []).length=(X.getD 0 []).length:=by
 unfold rowBad
 simp only[Bool.or_eq_false_iff,decide_eq_false_iff_not,bne_eq_false_iff_eq]
 omega
theorem wr_num {X:List (List Rat)} (h:numBad X=true):chk X=4:=chk_no fun hR=>by rw[Qez.2 hR.rows]at h; cases h
theorem wr_row {X:List (List Rat)} {k:Nat} (hk:k<X.length) (h:rowBad X k=true):chk X=4:=chk_no fun hR=>by
 have e:=hR.rect k hk
 rw[Qe6.2 ⟨by rw[e]; exact hR.cols,e⟩]at h
 cases h
theorem wr_ok {X:List (List Rat)} (h:numBad X=false) (h2:∀k,k<X.length→rowBad X k=false):chk X=0:=by
 have h1:=Qez.1 h
 refine chk_ok ⟨h1,(Qe6.1 (h2 0 h1.1)).1,fun i hi=>(Qe6.1 (h2 i hi)).2⟩
def SqOk (A:List (List Rat)):Prop:=Right A∧A.length=(A.getD 0 []).length
theorem SqOk.rect {A:List (List Rat)} (h:SqOk A):Rect A.length A:=fun i hi=>(h.1.rect i hi).trans h.2.symm
end Wx

namespace Wx
open Go Go.RowKit Go.Proofs

def Zr (q:Rat):It:=⟨Qr q,X3 q⟩
def sT (A B:List (List Rat)) (i k:Nat):Nat→Rat
 |0=>0
 |j+1=>sT A B i k j+(A.getD i []).getD j 0*(B.getD j []).getD k 0
open Classical in
noncomputable def tF (A B:List (List Rat)) (i0 k0 j0:Nat):Nat→Nat→It:=fun i k=>Zr (if i<i0∨(i=i0∧k<k0)then sT A B i k B.length else if i=i0∧k=k0 then sT A B i k j0 else 0)
section
variable {A B:List (List Rat)} {i0 k0 j0:Nat}
theorem tF_at:tF A B i0 k0 j0 i0 k0=Zr (sT A B i0 k0 j0):=by
 unfold tF
 rw[if_neg (by omega),if_pos ⟨rfl,rfl⟩]
theorem tF_step:setC (tF A B i0 k0 j0) i0 k0 (Zr (sT A B i0 k0 j0+(A.getD i0 []).getD j0 0*(B.getD j0 []).getD k0 0))=tF A B i0 k0 (j0+1):=by
 funext i k
 unfold setC
 by_cases h:i=i0∧k=k0
 ·obtain⟨rfl,rfl⟩:=h
  rw[if_pos ⟨rfl,rfl⟩,tF_at]
  rfl
 ·rw[if_neg h]
  unfold tF
  rw[if_neg h,if_neg h]
theorem tF_next:tF A B i0 k0 B.length=tF A B i0 (k0+1) 0:=by
 funext i k
 unfold tF
 congr 1
 by_cases h:i=i0∧k=k0
 ·obtain⟨rfl,rfl⟩:=h
  rw[if_neg (by omega),if_pos ⟨rfl,rfl⟩,if_pos (by omega)]
 ·rw[if_neg h]
  by_cases h1:i<i0∨(i=i0∧k<k0)
  ·rw[if_pos h1,if_pos (by omega)]
  ·rw[if_neg h1,if_neg (by omega)]
   split<;>rfl
theorem tF_row {p:Nat} (i:Nat):X9 p (tF A B i0 p 0) i=X9 p (tF A B (i0+1) 0 0) i:=W1 fun k hk=>by
 unfold tF
 congr 1
 by_cases h1:i<i0∨(i=i0∧k<p)
 ·rw[if_pos h1,if_pos (by omega)]
 ·rw[if_neg h1,if_neg (by omega),if_neg (by omega)]
  split<;>rfl
theorem tF_zero {p:Nat} (i:Nat):X9 p (fun _ _=>Zr 0) i=X9 p (tF A B 0 0 0) i:=W1 fun k _=>by
 unfold tF
 congr 1
 rw[if_neg (by omega)]
 split<;>rfl
end
theorem Qfm {n p:Nat} {f:Nat→Nat→It} {M:List (List Rat)} (hM:∀i,i<n→(M.getD i []).length=p) (hf:∀i k,i<n→k<p→f i k=Zr ((M.getD i []).getD k 0)):∀w v,Qc 1 false n (fun i=>Qc 3 true (X9 p f i).length fun k=>((X9 p f i).getD k Uf).p) w v→Qc 1 false n (fun i=>Qk (M.getD i [])) w v:=
 Qb3 rfl fun i hi w v h=>by
  rw[Qap (hM i hi)]
  rw[Zd]at h
  exact Qb3 rfl (fun k hk w v h=>by rw[rectX_getD hk,hf i k hi hk]at h; exact h) w v h
theorem sT_dot {A B:List (List Rat)} {i k:Nat}:∀j,j≤B.length→sT A B i k j=Zq (A.getD i []) (Vl B k) j
 |0,_=>rfl
 |j+1,h=>by
  show sT A B i k j+_=Zq _ _ j+_
  rw[sT_dot j (by omega),Ur (by omega)]
def uF (A:List (List Rat)) (i0 k0:Nat):Nat→Nat→It:=fun k i=>Zr (if i<i0∨(i=i0∧k<k0)then(A.getD i []).getD k 0 else 0)
section
variable {A:List (List Rat)} {i0 k0:Nat}
theorem uF_step:setC (uF A i0 k0) k0 i0 (Zr ((A.getD i0 []).getD k0 0))=uF A i0 (k0+1):=by
 funext k i
 unfold setC uF
 by_cases h:k=k0∧i=i0
 ·obtain⟨rfl,rfl⟩:=h
  rw[if_pos ⟨rfl,rfl⟩,if_pos (by omega)]
 ·rw[if_neg h]
  congr 1
  by_cases h1:i<i0∨(i=i0∧k<k0)
  ·rw[if_pos h1,if_pos (by omega)]
  ·rw[if_neg h1,if_neg (by omega)]
theorem uF_row {n m:Nat} (k:Nat) (hk:k<m):X9 n (uF A i0 m) k=X9 n (uF A (i0+1) 0) k:=W1 fun i _=>by
 unfold uF
 congr 1
 by_cases h1:i<i0∨(i=i0∧k<m)
 ·rw[if_pos h1,if_pos (by omega)]
 ·rw[if_neg h1,if_neg (by omega)]
theorem uF_zero {n:Nat} (k:Nat):X9 n (fun _ _=>Zr 0) k=X9 n (uF A 0 0) k:=W1 fun i _=>by
 unfold uF
 congr 1
 rw[if_neg (by omega)]
end
end Wx

namespace Wx

def Sat (X:List (List Rat)) (n q:Nat) (x:Nat→Rat):Prop:=∀i,i<n→Xp n (fun k=>ent X i k*x k)=ent X i (n+q)
theorem firstI_congr {p p':Nat→Bool} {n:Nat} (h:∀i,i<n→p i=p' i):Ju p n=Ju p' n:=by
 unfold Ju
 have:(List.range n).find? p=(List.range n).find? p':=by
  have key:∀l:List Nat,(∀i,i∈l→p i=p' i)→l.find? p=l.find? p':=by
   intro l
   induction l with
   |nil=>intro _; rfl
   |cons a l ih=>
    intro hl
    rw[List.find?_cons,List.find?_cons,hl a (List.mem_cons_self ..),ih fun i hi=>hl i (List.mem_cons_of_mem _ hi)]
  exact key _ fun i hi=>h i (List.mem_range.1 hi)
 rw[this]
section
variable {X:List (List Rat)} {n m k:Nat}
theorem gj_ent (hl:X.length=n) (hr:Rect (n+m) X) (hk:k<n) {r q:Nat} (hrn:r<n) (hq:q<n+m):ent (W5 X k) r q=if r=k then ent (Xg X X k) k q/ent (Xg X X k) k k else ent (Xg X X k) r q-ent (Xg X X k) r k*(ent (Xg X X k) k q/ent (Xg X X k) k k):=by
 have hPl:(Xg X X k).length=n:=by rw[Wj]; exact hl
 have hPr:Rect (n+m) (Xg X X k):=hr.piv (by omega)
 have hrow:∀t,t<n+m→ent (Vs (Xg X X k) k) k t=ent (Xg X X k) k t/ent (Xg X X k) k k:=fun t ht=>by
  unfold ent Vs
  rw[K4 (by omega),if_pos rfl,Qbu (by rw[hPr k (by omega)]; exact ht),if_pos (by rw[hPr k (by omega)]; exact ht)]
 have hoth:∀r,r≠k→(Vs (Xg X X k) k).getD r []=(Xg X X k).getD r []:=fun r h=>Qfy h (by omega)
 have hNr:Rect (n+m) (Vs (Xg X X k) k):=hPr.norm (by omega)
 unfold W5
 by_cases h:r=k
 ·subst h
  rw[if_pos rfl]
  unfold ent
  rw[Wc (by rw[Ut]; omega),if_neg (by omega)]
  exact hrow q hq
 ·rw[if_neg h]
  have e:ent (K8 (Vs (Xg X X k) k) k X.length) r q=(Qco ((Xg X X k).getD r []) ((Vs (Xg X X k) k).getD k []) k).getD q 0:=by
   unfold ent
   rw[Wc (by rw[Ut]; omega),if_pos (by omega),hoth r h]
  rw[e]
  have hk2:=hrow q hq
  have hlen1:q<((Xg X X k).getD r []).length:=by rw[hPr r (by omega)]; exact hq
  have hlen2:q<((Vs (Xg X X k) k).getD k []).length:=by rw[hNr k (by rw[Ut]; omega)]; exact hq
  unfold Qco
  split
  ·rename_i h0
   show((Xg X X k).getD r []).getD q 0=((Xg X X k).getD r []).getD q 0-((Xg X X k).getD r []).getD k 0*_
   rw[h0,Rat.zero_mul]
   grind
  ·rw[redAt_ent hlen1 hlen2]
   show _-((Xg X X k).getD r []).getD k 0*ent (Vs (Xg X X k) k) k q=_
   rw[hk2]
   rfl
theorem sat_pivL (hl:X.length=n) (hk:k<n) (q:Nat) (x:Nat→Rat):Sat X n q x↔Sat (Xg X X k) n q x:=by
 have hr:=Ws (X:=X) (c:=k) (by omega)
 unfold Xg
 split
 ·exact Iff.rfl
 ·have hb:k+(Xw X k).toNat<n:=by omega
  have hs:=Qgz (X:=X) (a:=k) (b:=k+(Xw X k).toNat) hl hk hb
  have row:∀i j,(∀t,ent (J1 X k (k+(Xw X k).toNat)) i t=ent X j t)→(Xp n (fun t=>ent (J1 X k (k+(Xw X k).toNat)) i t*x t)=ent (J1 X k (k+(Xw X k).toNat)) i (n+q)↔Xp n (fun t=>ent X j t*x t)=ent X j (n+q)):=fun i j h=>by
   rw[X8 fun t _=>by rw[h t],h]
  have r1:∀t,ent (J1 X k (k+(Xw X k).toNat)) (k+(Xw X k).toNat) t=ent X k t:=fun t=>by rw[hs]; unfold X6; rw[if_pos rfl]
  have r2:∀t,ent (J1 X k (k+(Xw X k).toNat)) k t=ent X (k+(Xw X k).toNat) t:=fun t=>by
   rw[hs]
   unfold X6
   by_cases h:k=k+(Xw X k).toNat
   ·rw[if_pos h,← h]
   ·rw[if_neg h,if_pos rfl]
  have r3:∀i,i≠k→i≠k+(Xw X k).toNat→∀t,ent (J1 X k (k+(Xw X k).toNat)) i t=ent X i t:=fun i h1 h2 t=>by
   rw[hs]
   unfold X6
   rw[if_neg h2,if_neg h1]
  constructor
  ·intro h i hi
   by_cases h1:i=k
   ·subst h1
    exact(row _ _ r2).2 (h _ hb)
   ·by_cases h2:i=k+(Xw X k).toNat
    ·rw[h2]
     exact(row _ _ r1).2 (h _ hk)
    ·exact(row _ _ (r3 i h1 h2)).2 (h i hi)
  ·intro h i hi
   by_cases h1:i=k
   ·rw[h1]
    exact(row _ _ r1).1 (h _ hb)
   ·by_cases h2:i=k+(Xw X k).toNat
    ·rw[h2]
     exact(row _ _ r2).1 (h _ hk)
    ·exact(row _ _ (r3 i h1 h2)).1 (h i hi)
theorem sat_step (hl:X.length=n) (hr:Rect (n+m) X) (hk:k<n) (hp:ent (Xg X X k) k k≠0) {q:Nat} (hq:q<m) (x:Nat→Rat):Sat X n q x↔Sat (W5 X k) n q x:=by
 rw[sat_pivL hl hk]
 have e:=fun {r t:Nat} (h1:r<n) (h2:t<n+m)=>gj_ent (r:=r) (q:=t) hl hr hk h1 h2
 have hinv:=Rat.mul_inv_cancel _ hp
 -- the sums of a row
 have s1:∀i,i<n→Xp n (fun t=>ent (W5 X k) i t*x t)=if i=k then(ent (Xg X X k) k k)⁻¹*Xp n (fun t=>ent (Xg X X k) k t*x t)else Xp n (fun t=>ent (Xg X X k) i t*x t) + -(ent (Xg X X k) i k*(ent (Xg X X k) k k)⁻¹)*Xp n (fun t=>ent (Xg X X k) k t*x t):=fun i hi=>by
  by_cases h:i=k
  ·subst h
   rw[if_pos rfl,← Ua]
   refine X8 fun t ht=>?_
   rw[e hi (by omega),if_pos rfl,Rat.div_def]
   grind
  ·rw[if_neg h,← Ua,← Qe9]
   refine X8 fun t ht=>?_
   rw[e hi (by omega),if_neg h,Rat.div_def]
   grind
 have s2:∀i,i<n→ent (W5 X k) i (n+q)=if i=k then(ent (Xg X X k) k k)⁻¹*ent (Xg X X k) k (n+q)else ent (Xg X X k) i (n+q) + -(ent (Xg X X k) i k*(ent (Xg X X k) k k)⁻¹)*ent (Xg X X k) k (n+q):=fun i hi=>by
  rw[e hi (by omega),Rat.div_def]
  split<;>grind
 constructor
 ·intro h i hi
  rw[s1 i hi,s2 i hi,h k hk]
  split
  ·rfl
  ·rw[h i hi]
 ·intro h
  have hkk:Xp n (fun t=>ent (Xg X X k) k t*x t)=ent (Xg X X k) k (n+q):=by
   have:=h k hk
   rw[s1 k hk,s2 k hk,if_pos rfl,if_pos rfl]at this
   have h2:ent (Xg X X k) k k*((ent (Xg X X k) k k)⁻¹*Xp n (fun t=>ent (Xg X X k) k t*x t))=ent (Xg X X k) k k*((ent (Xg X X k) k k)⁻¹*ent (Xg X X k) k (n+q)):=by rw[this]
   rw[← Rat.mul_assoc,← Rat.mul_assoc,hinv,Rat.one_mul,Rat.one_mul]at h2
   exact h2
  intro i hi
  by_cases hik:i=k
  ·subst hik
   exact hkk
  ·have:=h i hi
   rw[s1 i hi,s2 i hi,if_neg hik,if_neg hik,hkk]at this
   grind
end
structure GjInv (A B:List (List Rat)) (n m k:Nat):Prop where
 unit:∀r q,q<k→r<n→ent (Ud (Y8 A B) k) r q=if r=q then 1 else 0
 sat:∀q x,q<m→(Sat (Y8 A B) n q x↔Sat (Ud (Y8 A B) k) n q x)
 same:∀r q,k≤r→r<n→q<n→ent (Ud (Y8 A B) k) r q=ent (dX A k) r q
theorem piv_same {X Y:List (List Rat)} {n k:Nat} (hX:X.length=n) (hY:Y.length=n) (h:∀r,k≤r→r<n→ent X r k=ent Y r k):Xw X k=Xw Y k:=by
 unfold Xw
 rw[hX,hY]
 refine firstI_congr fun i hi=>?_
 have:=h (k+i) (by omega) (by omega)
 unfold ent at this
 rw[this]
theorem pivL_same {X Y:List (List Rat)} {n k:Nat} (hX:X.length=n) (hY:Y.length=n) (hk:k<n) (h:∀r q,k≤r→r<n→q<n→ent X r q=ent Y r q):∀r q,k≤r→r<n→q<n→ent (Xg X X k) r q=ent (Xg Y Y k) r q:=by
 intro r q hkr hr hq
 have hp:=piv_same hX hY fun r h1 h2=>h r k h1 h2 hk
 have hrg:=Ws (X:=Y) (c:=k) (by omega)
 unfold Xg
 rw[hp]
 split
 ·exact h r q hkr hr hq
 ·have hb:k+(Xw Y k).toNat<n:=by omega
  rw[Qgz hX hk hb,Qgz hY hk hb]
  unfold X6
  by_cases h1:r=k+(Xw Y k).toNat
  ·rw[if_pos h1,if_pos h1]
   exact h k q (Nat.le_refl _) hk hq
  ·rw[if_neg h1,if_neg h1]
   by_cases h2:r=k
   ·rw[if_pos h2,if_pos h2]
    exact h _ q (by omega) hb hq
   ·rw[if_neg h2,if_neg h2]
    exact h r q hkr hr hq
theorem aug_ent {A B:List (List Rat)} {n:Nat} (hl:A.length=n) (hA:Rect n A) {r q:Nat} (hr:r<n) (hq:q<n):ent (Y8 A B) r q=ent A r q:=by
 unfold ent
 rw[Qf7 (by omega),Xq,List.getElem?_append_left (by rw[hA r (by omega)]; exact hq),← Xq]
theorem aug_entB {A B:List (List Rat)} {n:Nat} (hl:A.length=n) (hA:Rect n A) {r q:Nat} (hr:r<n):ent (Y8 A B) r (n+q)=ent B r q:=by
 unfold ent
 rw[Qf7 (by omega),Xq,List.getElem?_append_right (by rw[hA r (by omega)]; omega),← Xq,hA r (by omega),show n+q-n=q by omega]
theorem gjInv {A B:List (List Rat)} {n m:Nat} (hl:A.length=n) (hA:Rect n A) (hB:∀i,i<n→(B.getD i []).length=m):∀k,k≤n→(∀c,c<k→0≤Xw (dX A c) c)→GjInv A B n m k
 |0,_,_=>⟨fun _ q h=>absurd h (Nat.not_lt_zero _),fun _ _ _=>Iff.rfl,fun r q _ hr hq=>aug_ent hl hA hr hq⟩
 |k+1,hk,hp=>by
  obtain⟨h1,h2,h3⟩:=gjInv hl hA hB k (by omega) fun c hc=>hp c (by omega)
  have hXl:(Ud (Y8 A B) k).length=n:=by rw[U7,Kc]; exact hl
  have hXr:Rect (n+m) (Ud (Y8 A B) k):=(Qg6 (A:=A) (B:=B) hA (fun i hi=>hB i (by omega))).gj k (by rw[Kc]; omega)
  have hDl:(dX A k).length=n:=by rw[dX_len]; exact hl
  have hDr:Rect n (dX A k):=hA.dX k (by omega)
  have hkn:k<n:=by omega
  have hpe:=piv_same hXl hDl fun r a b=>h3 r k a b hkn
  have hpl:=pivL_same hXl hDl hkn h3
  have hpv:0≤Xw (Ud (Y8 A B) k) k:=by rw[hpe]; exact hp k (by omega)
  have hne:ent (Xg (Ud (Y8 A B) k) (Ud (Y8 A B) k) k) k k≠0:=piv_ne (by omega) hpv
  have e:=fun {r t:Nat} (a:r<n) (b:t<n+m)=>gj_ent (r:=r) (q:=t) hXl hXr hkn a b
  have hinv:=Rat.mul_inv_cancel _ hne
  -- the first columns behind the exchange
  have hu:∀r q,q<k→r<n→ent (Xg (Ud (Y8 A B) k) (Ud (Y8 A B) k) k) r q=if r=q then 1 else 0:=fun r q hq hr=>by
   rcases Nat.lt_or_ge r k with h|h
   ·unfold ent
    rw[pivL_above hXl hkn h]
    exact h1 r q hq hr
   ·obtain⟨t,ht1,ht2,et⟩:=pivL_below hXl hkn h hr
    unfold ent
    rw[et]
    have:=h1 t q hq ht2
    rw[if_neg (by omega)]at this
    rw[if_neg (by omega)]
    exact this
  refine⟨fun r q hq hr=>?_,fun q x hq=>(h2 q x hq).trans (sat_step hXl hXr hkn hne hq x),fun r q hkr hr hq=>?_⟩
  ·show ent (W5 (Ud (Y8 A B) k) k) r q=_
   rw[e hr (by omega),Rat.div_def]
   rcases Nat.lt_or_ge q k with h|h
   ·have z:=hu k q h hkn
    rw[if_neg (by omega)]at z
    rw[z,hu r q h hr]
    by_cases hrk:r=k
    ·subst hrk
     rw[if_pos rfl,if_neg (by omega),Rat.zero_mul]
    ·rw[if_neg hrk]
     grind
   ·have:q=k:=by omega
    subst this
    by_cases hrk:r=q
    ·rw[if_pos hrk,if_pos hrk]
     exact hinv
    ·rw[if_neg hrk,if_neg hrk,hinv]
     grind
  ·show ent (W5 (Ud (Y8 A B) k) k) r q=ent (elimD (Xg (dX A k) (dX A k) k) k A.length) r q
   rw[e hr (by omega),if_neg (by omega)]
   have hPr:Rect n (Xg (dX A k) (dX A k) k):=hDr.piv (by omega)
   have hPl:(Xg (dX A k) (dX A k) k).length=n:=by rw[Wj]; exact hDl
   have e2:ent (elimD (Xg (dX A k) (dX A k) k) k A.length) r q=ent (Xg (dX A k) (dX A k) k) r q + -(ent (Xg (dX A k) (dX A k) k) r k/ent (Xg (dX A k) (dX A k) k) k k)*ent (Xg (dX A k) (dX A k) k) k q:=by
    unfold ent
    rw[Ww (by omega),if_pos (by omega),redD_ent (by rw[hPr r (by omega)]; exact hq) (by rw[hPr k (by omega)]; exact hq)]
   rw[e2,hpl r q (by omega) hr hq,hpl r k (by omega) hr hkn,hpl k q (Nat.le_refl _) hkn hq,hpl k k (Nat.le_refl _) hkn hkn,Rat.div_def,Rat.div_def]
   grind
theorem gjSing_iff {A B:List (List Rat)} {n m:Nat} (hl:A.length=n) (hA:Rect n A) (hB:∀i,i<n→(B.getD i []).length=m):Qa6 (Y8 A B) n↔dSing A n:=by
 have key:∀c,c<n→(∀q,q<c→0≤Xw (dX A q) q)→Xw (Ud (Y8 A B) c) c=Xw (dX A c) c:=fun c hc h=>by
  have g:=gjInv hl hA hB c (by omega) h
  exact piv_same (by rw[U7,Kc]; exact hl) (by rw[dX_len]; exact hl) fun r a b=>g.same r c a b hc
 constructor
 ·rintro⟨c,hc,h⟩
  refine Classical.byContradiction fun hn=>?_
  have hp:∀q,q<n→0≤Xw (dX A q) q:=fun q hq=>by
   rcases Int.lt_or_le (Xw (dX A q) q) 0 with h|h
   ·exact absurd ⟨q,hq,h⟩ hn
   ·exact h
  rw[key c hc fun q hq=>hp q (by omega)]at h
  have:=hp c hc
  omega
 ·intro h
  obtain⟨c,hc,h1,h2⟩:=first_sing h
  refine⟨c,hc,?_⟩
  rw[key c hc fun q hq=>by have:=h2 q hq; omega]
  exact h1
theorem sol_iff {A B:List (List Rat)} {n m:Nat} (hl:A.length=n) (hA:Rect n A) (hB:∀i,i<n→(B.getD i []).length=m) (hs:¬dSing A n) {q:Nat} (hq:q<m) (x:Nat→Rat):(∀i,i<n→Xp n (fun k=>ent A i k*x k)=ent B i q)↔∀i,i<n→x i=ent (Wk A B) i q:=by
 have hp:∀c,c<n→0≤Xw (dX A c) c:=fun c hc=>by
  rcases Int.lt_or_le (Xw (dX A c) c) 0 with h|h
  ·exact absurd ⟨c,hc,h⟩ hs
  ·exact h
 have g:=gjInv hl hA hB n (Nat.le_refl _) hp
 have e1:(∀i,i<n→Xp n (fun k=>ent A i k*x k)=ent B i q)↔Sat (Y8 A B) n q x:=by
  constructor
  ·intro h i hi
   rw[aug_entB hl hA hi,← h i hi]
   exact X8 fun k hk=>by rw[aug_ent hl hA hi hk]
  ·intro h i hi
   have:=h i hi
   rw[aug_entB hl hA hi]at this
   rw[← this]
   exact X8 fun k hk=>by rw[aug_ent hl hA hi hk]
 have e2:∀i,i<n→ent (Ud (Y8 A B) n) i (n+q)=ent (Wk A B) i q:=fun i hi=>by
  unfold ent
  rw[solX_get (by omega),hl,Xq (List.drop _ _),List.getElem?_drop,← Xq]
 have e3:∀i,i<n→Xp n (fun k=>ent (Ud (Y8 A B) n) i k*x k)=x i:=fun i hi=>by
  rw[Qgy hi fun k hk hne=>?_]
  ·rw[g.unit i i hi hi,if_pos rfl,Rat.one_mul]
  ·rw[g.unit i k hk hi,if_neg (fun e=>hne e.symm),Rat.zero_mul]
 rw[e1,g.sat q x hq]
 constructor
 ·intro h i hi
  rw[← e2 i hi,← h i hi,e3 i hi]
 ·intro h i hi
  rw[e3 i hi,e2 i hi]
  exact h i hi
end Wx

namespace Wx

theorem sumN_head (n:Nat) (f:Nat→Rat):Xp (n+1) f=f 0+Xp n fun i=>f (i+1):=by
 rw[sumN_skp (p:=0) (by omega)]
 rfl
theorem sgn_two (i:Nat):Uq (i+2)=Uq i:=by show -(-(Uq i))=Uq i; grind
theorem det_last:∀(m:Nat) (M:J5),Xk (m+1) M=Xp (m+1) fun q=>Uq (m+q)*M m q*Xk m fun r c=>M r (Zj q c)
 |0,M=>by
  show Xp 1 _=Xp 1 _
  simp[Xp,Xk,Uq]
 |m+1,M=>by
  show Xp (m+2) _=_
  rw[sumN_head (m+1) fun q=>Uq (m+1+q)*M (m+1) q*Xk (m+1) fun r c=>M r (Zj q c)]
  show Xp (m+1) (fun i=>Uq i*M i 0*Xk (m+1) (Kq M i))+Uq (m+1)*M (m+1) 0*Xk (m+1) (Kq M (m+1))=_
  have e1:Xk (m+1) (Kq M (m+1))=Xk (m+1) fun r c=>M r (Zj 0 c):=Zk fun r c hr _=>by
   show M (Zj (m+1) r) (c+1)=M r (Zj 0 c)
   rw[show Zj (m+1) r=r from if_pos hr,show Zj 0 c=c+1 from if_neg (Nat.not_lt_zero _)]
  have e2:Xp (m+1) (fun i=>Uq i*M i 0*Xk (m+1) (Kq M i))=Xp (m+1) fun i=>Xp (m+1) fun q=>(Uq i*M i 0)*(Uq (m+q)*M (m+1) (q+1)*Xk m fun r c=>M (Zj i r) (Zj q c+1)):=X8 fun i hi=>by
   rw[det_last m (Kq M i),Ua]
   congr 1
   refine X8 fun q _=>?_
   show Uq (m+q)*M (Zj i m) (q+1)*_=_
   rw[show Zj i m=m+1 from if_neg (by omega)]
   rfl
  have e3:∀q,q<m+1→Uq (m+1+(q+1))*M (m+1) (q+1)*(Xk (m+1) fun r c=>M r (Zj (q+1) c))=Xp (m+1) fun i=>(Uq i*M i 0)*(Uq (m+q)*M (m+1) (q+1)*Xk m fun r c=>M (Zj i r) (Zj q c+1)):=fun q _=>by
   have e4:(Xk (m+1) fun r c=>M r (Zj (q+1) c))=Xp (m+1) fun i=>Uq i*M i 0*Xk m fun r c=>M (Zj i r) (Zj q c+1):=by
    show Xp (m+1) _=_
    refine X8 fun i _=>?_
    show Uq i*M i (Zj (q+1) 0)*Xk m _=_
    rw[show Zj (q+1) 0=0 from if_pos (Nat.succ_pos _)]
    congr 1
    refine Zk fun r c _ _=>?_
    show M (Zj i r) (Zj (q+1) (c+1))=_
    congr 1
    unfold Zj
    by_cases h:c<q
    ·rw[if_pos (by omega),if_pos h]
    ·rw[if_neg (by omega),if_neg h]
   rw[e4,show m+1+(q+1)=(m+q)+2 by omega,sgn_two,← Ua]
   exact X8 fun i _=>by grind
  rw[e1,e2,sumN_swap,X8 e3]
  grind
def Kn (s k:Nat):Nat:=s/2^k%2
def Yy (s:Nat):Nat→Nat
 |0=>0
 |k+1=>Yy s k+Kn s k
def Ve (s:Nat):Nat→List Nat
 |0=>[]
 |k+1=>if Kn s k=0 then Ve s k else Ve s k++[k]
section
variable (A:List (List Rat)) (D:Nat→Rat) (n s:Nat)
def Qbe (k:Nat):Rat:=if(Yy s n-1+Yy s k)%2=1 then -((A.getD (Yy s n-1) []).getD k 0*D (s-2^k))else(A.getD (Yy s n-1) []).getD k 0*D (s-2^k)
def W7:Nat→Rat
 |0=>0
 |k+1=>if Kn s k=0 then W7 k else W7 k+Qbe A D n s k
end
def mL (A:List (List Rat)) (n:Nat):Nat→List Rat
 |0=>[]
 |s+1=>mL A n s++[if s=0 then 1 else W7 A (fun i=>(mL A n s).getD i 0) n s n]
def mD (A:List (List Rat)) (n s:Nat):Rat:=(mL A n (s+1)).getD s 0
theorem mL_len (A:List (List Rat)) (n:Nat):∀s,(mL A n s).length=s
 |0=>rfl
 |s+1=>by rw[mL,List.length_append,mL_len A n s]; rfl
theorem mL_get (A:List (List Rat)) (n:Nat):∀{t i:Nat},i<t→(mL A n t).getD i 0=mD A n i
 |t+1,i,h=>by
  by_cases e:i=t
  ·subst e; rfl
  ·have hi:i<t:=by omega
   rw[mL,List.getD_eq_getElem?_getD,List.getElem?_append_left (by rw[mL_len]; exact hi),← List.getD_eq_getElem?_getD]
   exact mL_get A n hi
theorem mD_zero (A:List (List Rat)) (n:Nat):mD A n 0=1:=rfl
theorem bit_le {s k:Nat} (h:Kn s k≠0):2^k≤s:=by
 rcases Nat.lt_or_ge s (2^k)with h'|h'
 ·exact absurd (by unfold Kn; rw[Nat.div_eq_of_lt h']) h
 ·exact h'
theorem mSum_congr {A:List (List Rat)} {D D':Nat→Rat} {n s:Nat} (h:∀i,i<s→D i=D' i):∀k,W7 A D n s k=W7 A D' n s k
 |0=>rfl
 |k+1=>by
  unfold W7
  rw[mSum_congr h k]
  split
  ·rfl
  ·rename_i hb
   have:=bit_le hb
   have:=Nat.two_pow_pos k
   unfold Qbe
   rw[h (s-2^k) (by omega)]
theorem mD_eq (A:List (List Rat)) (n:Nat) {s:Nat} (h:s≠0):mD A n s=W7 A (mD A n) n s n:=by
 unfold mD
 rw[mL,List.getD_eq_getElem?_getD,List.getElem?_append_right (by rw[mL_len]; exact Nat.le_refl _),mL_len,Nat.sub_self]
 show(if s=0 then 1 else _)=_
 rw[if_neg h]
 exact mSum_congr (fun i hi=>mL_get A n hi) n
theorem cols_f1:∀n,n<5→∀s,s<2^n→∀k,k<n+1→(Ve s k).length=Yy s k∧Yy s k≤Yy s n:=by decide +kernel
theorem cols_f2:∀n,n<5→∀s,s<2^n→∀k,k<n→Kn s k=0∨(Kn s k=1∧Yy s k<Yy s n∧(Ve s n).getD (Yy s k) 0=k):=by decide +kernel
theorem cols_f3:∀n,n<5→∀s,s<2^n→∀k,k<n→Kn s k=0∨(s-2^k<2^n∧Yy (s-2^k) n=Yy s n-1∧Ve (s-2^k) n=(Ve s n).eraseIdx (Yy s k)):=by decide +kernel
theorem Wp (n:Nat) (hn:n<5) (s:Nat) (hs:s<2^n):(Ve s n).length=Yy s n∧∀k,k<n→(Ve s k).length=Yy s k∧Yy s k≤Yy s n∧(Kn s k≠0→Kn s k=1∧Yy s k<Yy s n∧(Ve s n).getD (Yy s k) 0=k∧s-2^k<2^n∧Yy (s-2^k) n=Yy s n-1∧Ve (s-2^k) n=(Ve s n).eraseIdx (Yy s k)):=
 ⟨(cols_f1 n hn s hs n (by omega)).1,fun k hk=>⟨(cols_f1 n hn s hs k (by omega)).1,(cols_f1 n hn s hs k (by omega)).2,fun hb=>by
  obtain⟨a1,a2,a3⟩:=(cols_f2 n hn s hs k hk).resolve_left hb
  obtain⟨b1,b2,b3⟩:=(cols_f3 n hn s hs k hk).resolve_left hb
  exact⟨a1,a2,a3,b1,b2,b3⟩⟩⟩
theorem pc_pos':∀n,n<5→∀s,s<2^n→s=0∨0<Yy s n:=by decide +kernel
theorem pc_pos (n:Nat) (hn:n<5) (s:Nat) (hs:s<2^n) (h:s≠0):0<Yy s n:=(pc_pos' n hn s hs).resolve_left h
theorem pc_le:∀n,n<5→∀s,s<2^n→Yy s n≤n:=by decide +kernel
theorem pc_full:∀n,n<5→Yy (2^n-1) n=n∧Ve (2^n-1) n=List.range n:=by decide +kernel
def dC (A:List (List Rat)) (l:List Nat):Rat:=Xk l.length fun r q=>(A.getD r []).getD (l.getD q 0) 0
theorem erase_get {l:List Nat} {p c:Nat}:(l.eraseIdx p).getD c 0=l.getD (Zj p c) 0:=by
 rw[List.getD_eq_getElem?_getD,List.getElem?_eraseIdx,List.getD_eq_getElem?_getD]
 unfold Zj
 split<;>rfl
theorem sgn_par:∀i,Uq i=if i%2=1 then -1 else 1
 |0=>rfl
 |i+1=>by
  show -(Uq i)=_
  rw[sgn_par i]
  by_cases h:i%2=1
  ·rw[if_pos h,if_neg (by omega)]; grind
  ·rw[if_neg h,if_pos (by omega)]
theorem mSum_cols {A:List (List Rat)} {D:Nat→Rat} {n s:Nat} (hn:n<5) (hs:s<2^n):∀k,k≤n→W7 A D n s k=Xp (Yy s k) fun p=>Uq (Yy s n-1+p)*(A.getD (Yy s n-1) []).getD ((Ve s n).getD p 0) 0*D (s-2^((Ve s n).getD p 0))
 |0,_=>rfl
 |k+1,hk=>by
  have hf:=(Wp n hn s hs).2 k (by omega)
  unfold W7
  rw[mSum_cols hn hs k (by omega),show Yy s (k+1)=Yy s k+Kn s k from rfl]
  by_cases hb:Kn s k=0
  ·rw[if_pos hb,hb,Nat.add_zero]
  ·obtain⟨h1,h2,h3,_⟩:=hf.2.2 hb
   rw[if_neg hb,h1]
   show _=Xp (Yy s k) _+_
   congr 1
   show Qbe A D n s k=Uq (Yy s n-1+Yy s k)*(A.getD (Yy s n-1) []).getD ((Ve s n).getD (Yy s k) 0) 0*D (s-2^((Ve s n).getD (Yy s k) 0))
   rw[h3]
   unfold Qbe
   rw[sgn_par]
   split<;>grind
theorem mD_det {A:List (List Rat)} {n:Nat} (hn:n<5):∀m s,s<2^n→Yy s n=m→mD A n s=dC A (Ve s n)
 |0,s,hs,hp=>by
  have:s=0:=by
   rcases Nat.eq_zero_or_pos s with h|h
   ·exact h
   ·have:=pc_pos n hn s hs (by omega)
    omega
  subst this
  rw[mD_zero]
  unfold dC
  rw[(Wp n hn 0 hs).1,hp]
  rfl
 |m+1,s,hs,hp=>by
  have h0:s≠0:=fun e=>by
   subst e
   have h2:∀k,Yy 0 k=0:=fun k=>by
    induction k with
    |zero=>rfl
    |succ k ih=>unfold Yy; rw[ih]; unfold Kn; simp
   rw[h2]at hp
   omega
  rw[mD_eq A n h0,mSum_cols hn hs n (Nat.le_refl _),hp]
  unfold dC
  rw[(Wp n hn s hs).1,hp,det_last]
  refine X8 fun p hpm=>?_
  have hk:∃k,k<n∧Kn s k≠0∧Yy s k=p:=by
   have key:∀j,j≤n→p<Yy s j→∃k,k<j∧Kn s k≠0∧Yy s k=p:=by
    intro j
    induction j with
    |zero=>intro _ h; exact absurd h (Nat.not_lt_zero _)
    |succ j ih=>
     intro hj h
     by_cases hb:p<Yy s j
     ·obtain⟨k,h1,h2⟩:=ih (by omega) hb
      exact⟨k,by omega,h2⟩
     ·have hbit:Kn s j≠0:=fun e=>by
       have h':p<Yy s j+Kn s j:=h
       rw[e]at h'
       omega
      have h':p<Yy s j+Kn s j:=h
      have:=((Wp n hn s hs).2 j (by omega)).2.2 hbit
      exact⟨j,by omega,hbit,by omega⟩
   exact key n (Nat.le_refl _) (by omega)
  obtain⟨k,hkn,hb,hpk⟩:=hk
  obtain⟨_,_,h3,h4,h5,h6⟩:=((Wp n hn s hs).2 k hkn).2.2 hb
  rw[← hpk,h3,Nat.add_sub_cancel,mD_det hn m (s-2^k) h4 (by omega),h6]
  unfold dC
  have hl:((Ve s n).eraseIdx (Yy s k)).length=m:=by
   rw[← h6,(Wp n hn _ h4).1,h5,hp]
   rfl
  rw[hl]
  congr 1
  exact Zk fun r c _ _=>by rw[erase_get]
theorem Qd1 {A:List (List Rat)} {n:Nat} (hn:n<5):mD A n (2^n-1)=Xk n (ent A):=by
 have h2:=Nat.two_pow_pos n
 rw[mD_det hn n (2^n-1) (by omega) (pc_full n hn).1,(pc_full n hn).2]
 unfold dC
 rw[List.length_range]
 refine Zk fun r c _ hc=>?_
 rw[show(List.range n).getD c 0=c by rw[List.getD_eq_getElem?_getD,List.getElem?_range hc]; rfl]
 rfl
theorem bd_one':BdR 1 1:=⟨by unfold Bd; decide,by unfold Bd; decide⟩
theorem bd_mTerm {A:List (List Rat)} {D:Nat→Rat} {n s j k J:Nat} (hA:BdX j A) (hD:BdR J (D (s-2^k))):BdR (j+J) (Qbe A D n s k):=by
 unfold Qbe
 split
 ·exact((hA _ _).mul hD).neg
 ·exact(hA _ _).mul hD
theorem bd_mSum {A:List (List Rat)} {D:Nat→Rat} {n s j J:Nat} (hA:BdX j A) (hD:∀k,k<n→Kn s k≠0→BdR J (D (s-2^k))):∀k,k≤n→BdR (1+k*(j+J+1)) (W7 A D n s k)
 |0,_=>by rw[Nat.zero_mul]; exact bd_zero
 |k+1,hk=>by
  have ih:=bd_mSum hA hD k (by omega)
  unfold W7
  split
  ·exact ih.mono (by rw[Nat.succ_mul]; omega)
  ·rename_i hb
   exact(ih.add_t (bd_mTerm hA (hD k (by omega) hb))).mono (by rw[Nat.succ_mul]; omega)
def dBn (j n:Nat):Nat→Nat
 |0=>1
 |m+1=>1+n*(j+dBn j n m+1)
theorem bd_mD {A:List (List Rat)} {n j:Nat} (hn:n<5) (hA:BdX j A):∀m s,s<2^n→Yy s n=m→BdR (dBn j n m) (mD A n s)
 |0,s,hs,hp=>by
  have:s=0:=by
   rcases Nat.eq_zero_or_pos s with h|h
   ·exact h
   ·have:=pc_pos n hn s hs (by omega)
    omega
  subst this
  rw[mD_zero]
  exact bd_one'
 |m+1,s,hs,hp=>by
  by_cases h0:s=0
  ·subst h0
   rw[mD_zero]
   exact bd_one'.mono (by show 1≤1+_; omega)
  ·rw[mD_eq A n h0]
   exact bd_mSum hA (fun k hk hb=>bd_mD hn hA m (s-2^k) (((Wp n hn s hs).2 k hk).2.2 hb).2.2.2.1 (by have:=(((Wp n hn s hs).2 k hk).2.2 hb).2.2.2.2.1; omega)) n (Nat.le_refl _)
theorem dBn_mono {j n:Nat} {a b:Nat} (h:a≤b):dBn j n a≤dBn j n b:=by
 have step:∀m,dBn j n m≤dBn j n (m+1):=by
  intro m
  induction m with
  |zero=>show 1≤1+_; omega
  |succ m ih=>exact Nat.add_le_add_left (Nat.mul_le_mul_left _ (by omega)) _
 induction b with
 |zero=>rw[Nat.le_zero.1 h]; exact Nat.le_refl _
 |succ b ih=>
  rcases Nat.lt_or_ge a (b+1)with h'|h'
  ·exact Nat.le_trans (ih (by omega)) (step b)
  ·rw[show a=b+1 by omega]; exact Nat.le_refl _
theorem dBn_four {j n:Nat} (hn:n<5):dBn j n 4≤400*j+900:=by
 have step:∀m a b,dBn j n m≤a*j+b→dBn j n (m+1)≤(4*(a+1))*j+(4*b+5):=fun m a b h=>by
  show 1+n*(j+dBn j n m+1)≤_
  have h1:=Nat.mul_le_mul_right (j+dBn j n m+1) (show n≤4 by omega)
  have h2:(4*(a+1))*j=4*(a*j)+4*j:=by rw[Nat.mul_assoc,Nat.add_mul,Nat.one_mul,Nat.mul_add]
  omega
 have h0:dBn j n 0≤0*j+1:=by show 1≤0*j+1; omega
 have h1:=step 0 _ _ h0
 have h2:=step 1 _ _ h1
 have h3:=step 2 _ _ h2
 have h4:=step 3 _ _ h3
 refine Nat.le_trans h4 ?_
 have:=Nat.mul_le_mul_right j (show 4*(4*(4*(4*(0+1)+1)+1)+1)≤400 by decide)
 omega
theorem Qej {A:List (List Rat)} {n j s:Nat} (hn:n<5) (hA:BdX j A) (hs:s<2^n):BdR (400*j+900) (mD A n s):=
 (bd_mD hn hA _ s hs rfl).mono (Nat.le_trans (dBn_mono (Nat.le_trans (pc_le n hn s hs) (by omega))) (dBn_four hn))
def setCol (M:J5) (q:Nat) (b:Nat→Rat):J5:=fun r c=>if c=q then b r else M r c
def colI (x:Nat→Rat) (q k:Nat):J5:=fun r c=>if r=q then(if c=q then x q else 0)else(if c=r then 1 else 0)+(if c=q∧r<k then x r else 0)
theorem det_colI {n q:Nat} (hq:q<n) (x:Nat→Rat):Xk n (colI x q n)=x q:=by
 have h0:Xk n (colI x q 0)=x q:=by
  rw[Qhc fun r c hc hr=>by
   unfold colI
   by_cases e:r=q
   ·rw[if_pos e,if_neg (by omega)]
   ·rw[if_neg e,if_neg (by omega),if_neg (by omega)]; exact Rat.add_zero 0]
  have key:∀m,m≤n→Wt m (fun i=>colI x q 0 i i)=if q<m then x q else 1:=by
   intro m
   induction m with
   |zero=>intro _; rfl
   |succ m ih=>
    intro hm
    show Wt m _*colI x q 0 m m=_
    rw[ih (by omega)]
    unfold colI
    by_cases e:m=q
    ·subst e
     rw[if_neg (by omega),if_pos rfl,if_pos rfl,if_pos (by omega)]
     grind
    ·rw[if_neg e,if_pos rfl,if_neg (show ¬(m=q∧m<0) by omega)]
     by_cases e2:q<m
     ·rw[if_pos e2,if_pos (by omega)]; grind
     ·rw[if_neg e2,if_neg (by omega)]; grind
  rw[key n (Nat.le_refl _),if_pos hq]
 by_cases hx:x q=0
 ·rw[hx]
  exact Qep hq fun c _=>by
   unfold colI
   rw[if_pos rfl,hx]
   split<;>rfl
 ·have key:∀k,k≤n→Xk n (colI x q k)=x q:=by
   intro k
   induction k with
   |zero=>intro _; exact h0
   |succ k ih=>
    intro hk
    by_cases e:k=q
    ·rw[← ih (by omega)]
     refine Zk fun r c _ _=>?_
     unfold colI
     by_cases er:r=q
     ·rw[if_pos er,if_pos er]
     ·rw[if_neg er,if_neg er]
      congr 1
      by_cases h:c=q∧r<k
      ·rw[if_pos h,if_pos (by omega)]
      ·rw[if_neg h,if_neg (by omega)]
    ·rw[← ih (by omega),← Qgc (p:=k) (q:=q) (by omega) hq e (colI x q k) (x k/x q)]
     refine Zk fun r c _ _=>?_
     unfold X6
     by_cases er:r=k
     ·subst er
      rw[if_pos rfl]
      unfold colI
      dsimp only
      rw[if_neg e,if_neg e,if_pos rfl]
      by_cases h:c=q
      ·subst h
       rw[if_pos (show c=c∧r<r+1 from⟨rfl,Nat.lt_succ_self _⟩),if_neg (show ¬(c=c∧r<r)from fun h=>absurd h.2 (Nat.lt_irrefl _)),if_pos rfl,Rat.div_mul_cancel hx]
       grind
      ·rw[if_neg (show ¬(c=q∧r<r+1)from fun h2=>h h2.1),if_neg (show ¬(c=q∧r<r)from fun h2=>h h2.1),if_neg h]
       grind
     ·rw[if_neg er]
      unfold colI
      by_cases e2:r=q
      ·rw[if_pos e2,if_pos e2]
      ·rw[if_neg e2,if_neg e2]
       congr 1
       by_cases h:c=q∧r<k
       ·rw[if_pos h,if_pos (by omega)]
       ·rw[if_neg h,if_neg (by omega)]
  exact key n (Nat.le_refl _)
theorem Qha {n q:Nat} (x:Nat→Rat):∀r c,r<n→c<n→colI x q n r c=if c=q then x r else if c=r then 1 else 0:=fun r c hr _=>by
 unfold colI
 by_cases e:r=q
 ·subst e
  rw[if_pos rfl]
  by_cases h:c=r
  ·rw[if_pos h,if_pos h]
  ·rw[if_neg h,if_neg h,if_neg h]
 ·rw[if_neg e]
  by_cases h:c=q
  ·subst h
   rw[if_neg (fun h=>e h.symm),if_pos ⟨rfl,hr⟩,if_pos rfl]
   grind
  ·rw[if_neg (show ¬(c=q∧r<n)from fun h2=>h h2.1),if_neg h]
   grind
theorem cramer {n q:Nat} (hq:q<n) {M:J5} {x b:Nat→Rat} (hmul:∀B,Xk n (Ks n M B)=Xk n M*Xk n B) (h:∀r,r<n→Xp n (fun k=>M r k*x k)=b r):Xk n (setCol M q b)=Xk n M*x q:=by
 rw[← det_colI hq x,← hmul]
 refine Zk fun r c hr hc=>?_
 unfold setCol Ks
 by_cases e:c=q
 ·rw[if_pos e,← h r hr]
  exact X8 fun k hk=>by rw[Qha x k c hk hc,if_pos e]
 ·rw[if_neg e,Qgy (p:=c) hc fun i hi hne=>by rw[Qha x i c hi hc,if_neg e,if_neg (fun h=>hne h.symm),Rat.mul_zero],Qha x c c hc hc,if_neg e,if_pos rfl,Rat.mul_one]
end Wx
