import Derived.Test.YtpiniclogfefjaaJSylvester32
namespace Wx

def Qt:Nat→(Nat→Rat)→Rat
 |0,_=>0
 |n+1,f=>Qt n f+f n
theorem Qq {n:Nat} {f g:Nat→Rat} (h:∀i,i<n→f i=g i):Qt n f=Qt n g:=by
 induction n with
 |zero=>rfl
 |succ n ih=>
  show Qt n f+f n=Qt n g+g n
  rw[ih fun i hi=>h i (by omega),h n (by omega)]
theorem Wl (n:Nat) (f g:Nat→Rat):Qt n (fun i=>f i+g i)=Qt n f+Qt n g:=by
 induction n with
 |zero=>show(0:Rat)=0+0; rw[Rat.add_zero]
 |succ n ih=>
  show Qt n (fun i=>f i+g i)+(f n+g n)=(Qt n f+f n)+(Qt n g+g n)
  rw[ih]
  grind
theorem Yd (n:Nat) (a:Rat) (f:Nat→Rat):Qt n (fun i=>a*f i)=a*Qt n f:=by
 induction n with
 |zero=>show(0:Rat)=a*0; rw[Rat.mul_zero]
 |succ n ih=>
  show Qt n (fun i=>a*f i)+a*f n=a*(Qt n f+f n)
  rw[ih]
  grind
theorem Jd {n:Nat} {f:Nat→Rat} (h:∀i,i<n→f i=0):Qt n f=0:=by
 induction n with
 |zero=>rfl
 |succ n ih=>
  show Qt n f+f n=0
  rw[ih fun i hi=>h i (by omega),h n (by omega),Rat.add_zero]
theorem Vg {n p:Nat} {f:Nat→Rat} (hp:p<n) (h:∀i,i<n→i≠p→f i=0):Qt n f=f p:=by
 induction n with
 |zero=>omega
 |succ n ih=>
  show Qt n f+f n=f p
  by_cases e:p=n
  ·subst e
   rw[Jd fun i hi=>h i (by omega) (by omega),Rat.zero_add]
  ·rw[ih (by omega) fun i hi hne=>h i (by omega) hne,h n (by omega) (fun h=>e h.symm),Rat.add_zero]
theorem sumN_two {n p:Nat} {f:Nat→Rat} (hp:p+1<n) (h:∀i,i<n→i≠p→i≠p+1→f i=0) (h2:f p+f (p+1)=0):Qt n f=0:=by
 induction n with
 |zero=>omega
 |succ n ih=>
  show Qt n f+f n=0
  by_cases e:p+1=n
  ·subst e
   rw[Vg (p:=p) (by omega) fun i hi hne=>h i (by omega) hne (by omega)]
   exact h2
  ·rw[ih (by omega) fun i hi h3 h4=>h i (by omega) h3 h4,h n (by omega) (by omega) (fun h=>e h.symm),Rat.add_zero]
theorem Vh (n m:Nat) (f:Nat→Nat→Rat):Qt n (fun i=>Qt m (f i))=Qt m (fun k=>Qt n fun i=>f i k):=by
 induction n with
 |zero=>exact(Jd fun _ _=>rfl).symm
 |succ n ih=>
  show Qt n (fun i=>Qt m (f i))+Qt m (f n)=Qt m (fun k=>Qt n (fun i=>f i k)+f n k)
  rw[ih,Wl]
abbrev Q4:=Nat→Nat→Rat
def sgn:Nat→Rat
 |0=>1
 |i+1 => -(sgn i)
def Jc (i r:Nat):Nat:=if r<i then r else r+1
def Kl (M:Q4) (i:Nat):Q4:=fun r c=>M (Jc i r) (c+1)
def det:Nat→Q4→Rat
 |0,_=>1
 |n+1,M=>Qt (n+1) fun i=>sgn i*M i 0*det n (Kl M i)
theorem X9:∀{n:Nat} {M N:Q4},(∀r c,r<n→c<n→M r c=N r c)→det n M=det n N
 |0,_,_,_=>rfl
 |n+1,M,N,h=>Qq fun i hi=>by
  rw[h i 0 hi (by omega),X9 (n:=n) (M:=Kl M i) (N:=Kl N i) fun r c hr hc=>?_]
  unfold Kl Jc
  split
  ·exact h _ _ (by omega) (by omega)
  ·exact h _ _ (by omega) (by omega)
def Xg (M:Q4) (p:Nat) (v:Nat→Rat):Q4:=fun r c=>if r=p then v c else M r c
theorem Ko (M:Q4) (p:Nat) (v:Nat→Rat):Kl (Xg M p v) p=Kl M p:=by
 funext r c
 unfold Kl Xg Jc
 rw[if_neg (by split<;>omega)]
def dwn (i p:Nat):Nat:=if p<i then p else p-1
theorem Uw (M:Q4) {i p:Nat} (v:Nat→Rat) (h:i≠p):Kl (Xg M p v) i=Xg (Kl M i) (dwn i p) fun c=>v (c+1):=by
 funext r c
 unfold Kl Xg Jc dwn
 dsimp only
 by_cases h1:p<i
 ·rw[if_pos h1]
  by_cases h2:r<i
  ·rw[if_pos h2]
  ·rw[if_neg h2,if_neg (by omega),if_neg (by omega)]
 ·rw[if_neg h1]
  by_cases h2:r<i
  ·rw[if_pos h2,if_neg (by omega),if_neg (by omega)]
  ·rw[if_neg h2]
   by_cases h3:r+1=p
   ·rw[if_pos h3,if_pos (by omega)]
   ·rw[if_neg h3,if_neg (by omega)]
theorem dwn_lt {n i p:Nat} (hi:i<n+1) (hp:p<n+1) (h:i≠p):dwn i p<n:=by
 unfold dwn
 split<;>omega
theorem Qbb:∀{n:Nat} {M:Q4} {p:Nat} {u v:Nat→Rat},p<n→det n (Xg M p fun c=>u c+v c)=det n (Xg M p u)+det n (Xg M p v)
 |0,_,_,_,_,h=>absurd h (Nat.not_lt_zero _)
 |n+1,M,p,u,v,hp=>by
  show Qt (n+1) _=Qt (n+1) _+Qt (n+1) _
  rw[← Wl]
  refine Qq fun i hi=>?_
  by_cases h:i=p
  ·subst h
   rw[Ko,Ko,Ko]
   unfold Xg
   rw[if_pos rfl,if_pos rfl,if_pos rfl]
   grind
  ·rw[Uw _ _ h,Uw _ _ h,Uw _ _ h,Qbb (dwn_lt hi hp h)]
   unfold Xg
   rw[if_neg h,if_neg h,if_neg h]
   grind
theorem Qc0:∀{n:Nat} {M:Q4} {p:Nat} {a:Rat} {u:Nat→Rat},p<n→det n (Xg M p fun c=>a*u c)=a*det n (Xg M p u)
 |0,_,_,_,_,h=>absurd h (Nat.not_lt_zero _)
 |n+1,M,p,a,u,hp=>by
  show Qt (n+1) _=a*Qt (n+1) _
  rw[← Yd]
  refine Qq fun i hi=>?_
  by_cases h:i=p
  ·subst h
   rw[Ko,Ko]
   unfold Xg
   rw[if_pos rfl,if_pos rfl]
   grind
  ·rw[Uw _ _ h,Uw _ _ h,Qc0 (dwn_lt hi hp h)]
   unfold Xg
   rw[if_neg h,if_neg h]
   grind
theorem det_next:∀{n:Nat} {M:Q4} {p:Nat},p+1<n→(∀c,c<n→M p c=M (p+1) c)→det n M=0
 |0,_,_,h,_=>absurd h (Nat.not_lt_zero _)
 |n+1,M,p,hp,he=>by
  refine sumN_two (p:=p) hp (fun i hi h1 h2=>?_) ?_
  ·rw[det_next (n:=n) (M:=Kl M i) (p:=dwn i p) ?_ fun c hc=>?_,Rat.mul_zero]
   ·unfold dwn
    split<;>omega
   ·unfold Kl Jc dwn
    by_cases h:p<i
    ·rw[if_pos h,if_pos h,if_pos (by omega)]
     exact he _ (by omega)
    ·rw[if_neg h,if_neg (by omega),if_neg (by omega),show p-1+1=p by omega]
     exact he _ (by omega)
  ·have e:det n (Kl M p)=det n (Kl M (p+1)):=X9 fun r c hr hc=>by
    unfold Kl Jc
    by_cases h1:r<p
    ·rw[if_pos h1,if_pos (by omega)]
    ·rw[if_neg h1]
     by_cases h2:r=p
     ·subst h2
      rw[if_pos (by omega)]
      exact(he _ (by omega)).symm
     ·rw[if_neg (by omega)]
   show sgn p*M p 0*_ + -(sgn p)*M (p+1) 0*_=0
   rw[e,he 0 (by omega)]
   grind
theorem Uh (M:Q4) (p:Nat):Xg M p (M p)=M:=by
 funext r c
 unfold Xg
 split
 ·rename_i h; rw[h]
 ·rfl
theorem Kt (M:Q4) {p q:Nat} (u v:Nat→Rat) (h:p≠q):Xg (Xg M p u) q v=Xg (Xg M q v) p u:=by
 funext r c
 unfold Xg
 by_cases h1:r=q
 ·rw[if_pos h1,if_neg (by omega),if_pos h1]
 ·rw[if_neg h1]
  by_cases h2:r=p
  ·rw[if_pos h2,if_pos h2]
  ·rw[if_neg h2,if_neg h2,if_neg h1]
theorem Qen {n p q:Nat} (hp:p<n) (hq:q<n) (hne:p≠q) (h0:∀(M:Q4) (u:Nat→Rat),det n (Xg (Xg M p u) q u)=0) (M:Q4) (u v:Nat→Rat):det n (Xg (Xg M p u) q v) = -(det n (Xg (Xg M p v) q u)):=by
 have h:=h0 M fun c=>u c+v c
 rw[Qbb hq,Kt M _ u hne,Kt M _ v hne,Qbb hp,Qbb hp,Kt _ _ _ (Ne.symm hne),Kt _ _ _ (Ne.symm hne),Kt _ _ _ (Ne.symm hne),Kt _ _ _ (Ne.symm hne),h0,h0]at h
 grind
theorem Qdr {n p:Nat} (hp:p+1<n) (M:Q4) (u:Nat→Rat):det n (Xg (Xg M p u) (p+1) u)=0:=by
 refine det_next hp fun c _=>?_
 unfold Xg
 rw[if_neg (by omega),if_pos rfl,if_pos rfl]
theorem Qcj {n p:Nat}:∀(d:Nat),p+d+1<n→∀(M:Q4) (u:Nat→Rat),det n (Xg (Xg M p u) (p+d+1) u)=0
 |0,h,M,u=>Qdr h M u
 |d+1,h,M,u=>by
  have ih:=Qcj (n:=n) (p:=p) d (by omega)
  -- rows p + d + 1 and p + d + 2 are exchanged
  have hs:=Qen (n:=n) (p:=p+d+1) (q:=p+d+1+1) (by omega) h (by omega) (Qdr (by omega)) (Xg M p u) (M (p+d+1)) u
  rw[show p+(d+1)+1=p+d+1+1 by omega]
  have e:Xg (Xg (Xg M p u) (p+d+1) (M (p+d+1))) (p+d+1+1) u=Xg (Xg M p u) (p+d+1+1) u:=by
   congr 1
   funext r c
   unfold Xg
   by_cases h1:r=p+d+1
   ·rw[if_pos h1,if_neg (by omega),h1]
   ·rw[if_neg h1]
  rw[e]at hs
  rw[hs]
  have e2:Xg (Xg (Xg M p u) (p+d+1) u) (p+d+1+1) (M (p+d+1))=Xg (Xg (Xg M (p+d+1+1) (M (p+d+1))) p u) (p+d+1) u:=by
   rw[Kt _ _ _ (show p+d+1≠p+d+1+1 by omega),Kt M u _ (show p≠p+d+1+1 by omega)]
  rw[e2,ih]
  grind
theorem det_same {n p q:Nat} (hp:p<n) (hq:q<n) (hne:p≠q) (M:Q4) (u:Nat→Rat):det n (Xg (Xg M p u) q u)=0:=by
 rcases Nat.lt_or_ge p q with h|h
 ·have:=Qcj (n:=n) (p:=p) (q-p-1) (by omega) M u
  rwa [show p+(q-p-1)+1=q by omega]at this
 ·have:=Qcj (n:=n) (p:=q) (p-q-1) (by omega) M u
  rw[show q+(p-q-1)+1=p by omega]at this
  rw[Kt _ _ _ hne]
  exact this
theorem det_swap {n p q:Nat} (hp:p<n) (hq:q<n) (hne:p≠q) (M:Q4):det n (Xg (Xg M p (M q)) q (M p)) = -(det n M):=by
 have h:=Qen hp hq hne (det_same hp hq hne) M (M q) (M p)
 rw[h,Uh]
 congr 2
 rw[Uh]
theorem Vl {n p q:Nat} (hp:p<n) (hq:q<n) (hne:p≠q) (M:Q4) (a:Rat):det n (Xg M p fun c=>M p c+a*M q c)=det n M:=by
 rw[Qbb hp,Uh,Qc0 hp]
 have h:=det_same hq hp (Ne.symm hne) M (M q)
 rw[Uh]at h
 rw[h,Rat.mul_zero,Rat.add_zero]
theorem W3 {n p:Nat} (hp:p<n) {M:Q4} (h:∀c,c<n→M p c=0):det n M=0:=by
 have h1:=Qc0 (n:=n) (M:=M) (a:=0) (u:=M p) hp
 rw[Rat.zero_mul]at h1
 rw[← h1]
 exact X9 fun r c _ hc=>by
  unfold Xg
  split
  ·rename_i e
   rw[e,h c hc]
   show(0:Rat)=0*M p c
   rw[Rat.zero_mul]
  ·rfl
end Wx

namespace Wx

def ent (X:List (List Rat)):Q4:=fun r c=>(X.getD r []).getD c 0
def Yh (n:Nat) (A B:Q4):Q4:=fun r c=>Qt n fun k=>A r k*B k c
def Jw:Nat→(Nat→Rat)→Rat
 |0,_=>1
 |n+1,f=>Jw n f*f n
theorem prodN_congr {n:Nat} {f g:Nat→Rat} (h:∀i,i<n→f i=g i):Jw n f=Jw n g:=by
 induction n with
 |zero=>rfl
 |succ n ih=>
  show Jw n f*f n=Jw n g*g n
  rw[ih fun i hi=>h i (by omega),h n (by omega)]
theorem prodN_head (n:Nat) (f:Nat→Rat):Jw (n+1) f=f 0*Jw n fun i=>f (i+1):=by
 induction n with
 |zero=>show(1:Rat)*f 0=f 0*1; grind
 |succ n ih=>
  show Jw (n+1) f*f (n+1)=f 0*(Jw n (fun i=>f (i+1))*f (n+1))
  rw[ih]
  grind
theorem det_head {n:Nat} {M:Q4} (h:∀r,0<r→r<n+1→M r 0=0):det (n+1) M=M 0 0*det n fun r c=>M (r+1) (c+1):=by
 have h1:det (n+1) M=sgn 0*M 0 0*det n (Kl M 0):=Vg (p:=0) (by omega) fun i hi hne=>by
  rw[h i (by omega) hi,Rat.mul_zero,Rat.zero_mul]
 rw[h1]
 have h2:Kl M 0=fun r c=>M (r+1) (c+1):=by
  funext r c
  unfold Kl Jc
  rw[if_neg (Nat.not_lt_zero _)]
 rw[h2]
 show 1*M 0 0*_=_
 rw[Rat.one_mul]
theorem Qb2:∀{n:Nat} {M:Q4},(∀r c,c<r→r<n→M r c=0)→det n M=Jw n fun i=>M i i
 |0,_,_=>rfl
 |n+1,M,h=>by
  rw[det_head fun r h1 h2=>h r 0 h1 h2,prodN_head,Qb2 fun r c h1 h2=>h (r+1) (c+1) (by omega) (by omega)]
theorem det_sing:∀{k n:Nat} {M:Q4},k<n→(∀r c,c<k→c<r→r<n→M r c=0)→(∀r,k≤r→r<n→M r k=0)→det n M=0
 |_,0,_,h,_,_=>absurd h (Nat.not_lt_zero _)
 |0,n+1,M,_,_,h2=>Jd fun i hi=>by rw[h2 i (Nat.zero_le _) hi,Rat.mul_zero,Rat.zero_mul]
 |k+1,n+1,M,hk,h1,h2=>by
  rw[det_head fun r h3 h4=>h1 r 0 (by omega) h3 h4,det_sing (k:=k) (n:=n) (by omega) (fun r c h3 h4 h5=>h1 (r+1) (c+1) (by omega) (by omega) (by omega)) (fun r h3 h4=>h2 (r+1) (by omega) (by omega)),Rat.mul_zero]
theorem Qd8 {n:Nat} (A B:Q4) (p:Nat) (v:Nat→Rat):Yh n (Xg A p v) B=Xg (Yh n A B) p fun c=>Qt n fun k=>v k*B k c:=by
 funext r c
 unfold Yh Xg
 by_cases h:r=p
 ·rw[if_pos h]
  exact Qq fun k _=>by rw[if_pos h]
 ·rw[if_neg h]
  exact Qq fun k _=>by rw[if_neg h]
theorem Qda {n:Nat} {A A' B:Q4} (h:∀r c,r<n→c<n→A r c=A' r c):∀r c,r<n→c<n→Yh n A B r c=Yh n A' B r c:=fun r c hr _=>Qq fun k hk=>by rw[h r k hr hk]
theorem mul_rowadd {n p q:Nat} (hp:p<n) (hq:q<n) (hne:p≠q) (A B:Q4) (a:Rat):det n (Yh n (Xg A p fun c=>A p c+a*A q c) B)=det n (Yh n A B):=by
 rw[Qd8]
 have e:(fun c=>Qt n fun k=>(A p k+a*A q k)*B k c)=fun c=>Yh n A B p c+a*Yh n A B q c:=by
  funext c
  unfold Yh
  rw[← Yd,← Wl]
  exact Qq fun k _=>by grind
 rw[e]
 exact Vl hp hq hne _ _
theorem mul_swap {n p q:Nat} (hp:p<n) (hq:q<n) (hne:p≠q) (A B:Q4):det n (Yh n (Xg (Xg A p (A q)) q (A p)) B) = -(det n (Yh n A B)):=by
 rw[Qd8,Qd8]
 exact det_swap hp hq hne _
theorem det_lin {n p:Nat} (hp:p<n) (M:Q4) (x:Nat→Rat):∀m,m≤n→det n (Xg M p fun c=>Qt m fun i=>x i*M i c)=if p<m then x p*det n M else 0
 |0,_=>by
  rw[if_neg (Nat.not_lt_zero _)]
  exact W3 hp fun c _=>by unfold Xg; rw[if_pos rfl]; rfl
 |m+1,hm=>by
  have e:(fun c=>Qt (m+1) fun i=>x i*M i c)=fun c=>(Qt m fun i=>x i*M i c)+x m*M m c:=rfl
  rw[e,Qbb hp,det_lin hp M x m (by omega),Qc0 hp]
  by_cases h:p=m
  ·subst h
   rw[if_neg (Nat.lt_irrefl _),if_pos (by omega),Uh,Rat.zero_add]
  ·have h0:=det_same (n:=n) (p:=m) (q:=p) (by omega) hp (fun e=>h e.symm) M (M m)
   rw[Uh]at h0
   rw[h0,Rat.mul_zero,Rat.add_zero]
   by_cases h2:p<m
   ·rw[if_pos h2,if_pos (by omega)]
   ·rw[if_neg h2,if_neg (by omega)]
theorem det_dep {n p:Nat} (hp:p<n) {M:Q4} {x:Nat→Rat} (hx:x p≠0) (h:∀c,c<n→Qt n (fun i=>x i*M i c)=0):det n M=0:=by
 have h1:=det_lin hp M x n (Nat.le_refl _)
 rw[if_pos hp,W3 hp fun c hc=>?_]at h1
 ·rcases Rat.mul_eq_zero.1 h1.symm with h2|h2
  ·exact absurd h2 hx
  ·exact h2
 ·unfold Xg
  rw[if_pos rfl]
  exact h c hc
theorem Qdn {m p:Nat} (hp:p<m+1) (f:Nat→Rat):Qt (m+1) f=f p+Qt m fun i=>f (Jc p i):=by
 induction m with
 |zero=>
  have:p=0:=by omega
  subst this
  show 0+f 0=f 0+0
  grind
 |succ m ih=>
  by_cases h:p=m+1
  ·subst h
   show Qt (m+1) f+f (m+1)=f (m+1)+Qt (m+1) fun i=>f (Jc (m+1) i)
   rw[Qq (g:=fun i=>f (Jc (m+1) i)) fun i hi=>by unfold Jc; rw[if_pos hi]]
   grind
  ·show Qt (m+1) f+f (m+1)=f p+(Qt m (fun i=>f (Jc p i))+f (Jc p m))
   rw[ih (by omega),show Jc p m=m+1 by unfold Jc; rw[if_neg (by omega)]]
   grind
theorem dep:∀(t m:Nat) (V:Q4),t<m→∃x:Nat→Rat,(∃p,p<m∧x p≠0)∧∀c,c<t→Qt m (fun i=>x i*V i c)=0
 |0,m,V,h=>⟨fun _=>1,⟨0,h,by decide⟩,fun c hc=>absurd hc (Nat.not_lt_zero _)⟩
 |t+1,0,V,h=>absurd h (Nat.not_lt_zero _)
 |t+1,m+1,V,h=>by
  by_cases hz:∀i,i<m+1→V i t=0
  ·obtain⟨x,hx,h1⟩:=dep t (m+1) V (by omega)
   refine⟨x,hx,fun c hc=>?_⟩
   by_cases e:c=t
   ·subst e
    exact Jd fun i hi=>by rw[hz i hi,Rat.mul_zero]
   ·exact h1 c (by omega)
  ·have:∃p,p<m+1∧V p t≠0:=Classical.byContradiction fun hn=>hz fun i hi=>Classical.byContradiction fun h0=>hn ⟨i,hi,h0⟩
   obtain⟨p,hp,hv⟩:=this
   obtain⟨x,⟨q,hq,hxq⟩,h1⟩:=dep t m (fun i c=>V (Jc p i) c-V (Jc p i) t/V p t*V p c) (by omega)
   -- the numbers for all vectors
   let s:=Qt m fun i=>x i*(V (Jc p i) t/V p t)
   let y:Nat→Rat:=fun i=>if i=p then -s else x (dwn p i)
   have hyp:y p = -s:=if_pos rfl
   have hys:∀i,y (Jc p i)=x i:=fun i=>by
    show(if Jc p i=p then -s else x (dwn p (Jc p i)))=x i
    unfold Jc dwn
    by_cases h2:i<p
    ·rw[if_pos h2,if_neg (by omega),if_pos h2]
    ·rw[if_neg h2,if_neg (by omega),if_neg (by omega),show i+1-1=i by omega]
   refine⟨y,⟨Jc p q,by unfold Jc; split<;>omega,by rw[hys]; exact hxq⟩,fun c hc=>?_⟩
   have key:∀c,Qt m (fun i=>x i*(V (Jc p i) c-V (Jc p i) t/V p t*V p c))=Qt m (fun i=>x i*V (Jc p i) c) + -s*V p c:=fun c=>by
    have e:∀i,x i*(V (Jc p i) c-V (Jc p i) t/V p t*V p c)=x i*V (Jc p i) c + -(V p c)*(x i*(V (Jc p i) t/V p t)):=fun i=>by grind
    rw[Qq fun i _=>e i,Wl,Yd]
    show _ + -(V p c)*s=_
    grind
   rw[Qdn hp,hyp,Qq fun i _=>by rw[hys i],Rat.add_comm]
   by_cases e:c=t
   ·subst e
    have e2:Qt m (fun i=>x i*V (Jc p i) c)=s*V p c:=by
     show _=Qt m (fun i=>x i*(V (Jc p i) c/V p c))*V p c
     rw[Rat.mul_comm,← Yd]
     refine Qq fun i _=>?_
     rw[Rat.div_def]
     have:=Rat.mul_inv_cancel _ hv
     grind
    rw[e2]
    grind
   ·rw[← key c]
    exact h1 c (by omega)
theorem mul_upper {n:Nat} {U B:Q4} (hU:∀r c,c<r→r<n→U r c=0):det n (Yh n U B)=(Jw n fun i=>U i i)*det n B:=by
 have key:∀t,t≤n→det n (fun r c=>if r<t then Yh n U B r c else B r c)=(Jw t fun i=>U i i)*det n B:=by
  intro t
  induction t with
  |zero=>
   intro _
   show _=1*det n B
   rw[Rat.one_mul]
   exact X9 fun r c _ _=>by rw[if_neg (Nat.not_lt_zero _)]
  |succ t ih=>
   intro ht
   have ih:=ih (by omega)
   let W:Q4:=fun r c=>if r<t then Yh n U B r c else B r c
   have e:∀r c,r<n→c<n→(if r<t+1 then Yh n U B r c else B r c)=Xg W t (fun c=>Qt n fun i=>(if t≤i then U t i else 0)*W i c) r c:=by
    intro r c hr _
    unfold Xg
    by_cases h:r=t
    ·subst h
     rw[if_pos (by omega),if_pos rfl]
     show Qt n _=_
     refine Qq fun i hi=>?_
     by_cases h2:r≤i
     ·rw[if_pos h2]
      show U r i*B i c=U r i*(if i<r then _ else B i c)
      rw[if_neg (by omega)]
     ·rw[if_neg h2,hU r i (by omega) hr,Rat.zero_mul,Rat.zero_mul]
    ·rw[if_neg h]
     show _=if r<t then Yh n U B r c else B r c
     by_cases h2:r<t
     ·rw[if_pos (by omega),if_pos h2]
     ·rw[if_neg (by omega),if_neg h2]
   rw[X9 e,det_lin (by omega) W _ n (Nat.le_refl _),if_pos (by omega),if_pos (Nat.le_refl _),ih]
   show U t t*_=Jw t (fun i=>U i i)*U t t*_
   grind
 rw[← key n (Nat.le_refl _)]
 exact X9 fun r c hr _=>by rw[if_pos hr]
end Wx
