import Derived.Test.YtpiniclogfefjaaGreatJSolves32
namespace Wx

theorem bd_sum1 {j k:Nat} {a b c d:Nat} (ha:Bd j a) (hb:Bd k b) (hc:Bd k c) (hd:Bd j d):Bd (j+k+1) (a*b+c*d):=by
 have h1:=ha.mul hb
 have h2:=hc.mul hd
 unfold Bd at *
 rw[Nat.add_comm k j]at h2
 rw[Nat.pow_succ]
 omega
theorem BdR.add_t {j k:Nat} {x y:Rat} (h:BdR j x) (g:BdR k y):BdR (j+k+1) (x+y):=by
 have d:=h.2.mul g.2
 have hd:=Nat.mul_pos x.den_pos y.den_pos
 have ab:Bd (j+k+1) (x.num.natAbs*y.den+y.num.natAbs*x.den):=bd_sum1 h.1 g.2 g.1 h.2
 have d':Bd (j+k+1) (x.den*y.den):=d.mono (by omega)
 by_cases hs:decide (x.num<0)=decide (y.num<0)
 ·rw[Qf6 x y hs]; exact Un hd ab d'
 ·by_cases hge:y.num.natAbs*x.den≤x.num.natAbs*y.den
  ·rw[add_ge x y hs hge]; exact Un hd (ab.le (by omega)) d'
  ·rw[add_lt x y hs (by omega)]; exact Un hd (ab.le (by omega)) d'
end Wx

namespace Wx

def Xp:Nat→(Nat→Rat)→Rat
 |0,_=>0
 |n+1,f=>Xp n f+f n
theorem X8 {n:Nat} {f g:Nat→Rat} (h:∀i,i<n→f i=g i):Xp n f=Xp n g:=by
 induction n with
 |zero=>rfl
 |succ n ih=>
  show Xp n f+f n=Xp n g+g n
  rw[ih fun i hi=>h i (by omega),h n (by omega)]
theorem Qe9 (n:Nat) (f g:Nat→Rat):Xp n (fun i=>f i+g i)=Xp n f+Xp n g:=by
 induction n with
 |zero=>show(0:Rat)=0+0; rw[Rat.add_zero]
 |succ n ih=>
  show Xp n (fun i=>f i+g i)+(f n+g n)=(Xp n f+f n)+(Xp n g+g n)
  rw[ih]
  grind
theorem Ua (n:Nat) (a:Rat) (f:Nat→Rat):Xp n (fun i=>a*f i)=a*Xp n f:=by
 induction n with
 |zero=>show(0:Rat)=a*0; rw[Rat.mul_zero]
 |succ n ih=>
  show Xp n (fun i=>a*f i)+a*f n=a*(Xp n f+f n)
  rw[ih]
  grind
theorem Qar {n:Nat} {f:Nat→Rat} (h:∀i,i<n→f i=0):Xp n f=0:=by
 induction n with
 |zero=>rfl
 |succ n ih=>
  show Xp n f+f n=0
  rw[ih fun i hi=>h i (by omega),h n (by omega),Rat.add_zero]
theorem Qgy {n p:Nat} {f:Nat→Rat} (hp:p<n) (h:∀i,i<n→i≠p→f i=0):Xp n f=f p:=by
 induction n with
 |zero=>omega
 |succ n ih=>
  show Xp n f+f n=f p
  by_cases e:p=n
  ·subst e
   rw[Qar fun i hi=>h i (by omega) (by omega),Rat.zero_add]
  ·rw[ih (by omega) fun i hi hne=>h i (by omega) hne,h n (by omega) (fun h=>e h.symm),Rat.add_zero]
theorem sumN_two {n p:Nat} {f:Nat→Rat} (hp:p+1<n) (h:∀i,i<n→i≠p→i≠p+1→f i=0) (h2:f p+f (p+1)=0):Xp n f=0:=by
 induction n with
 |zero=>omega
 |succ n ih=>
  show Xp n f+f n=0
  by_cases e:p+1=n
  ·subst e
   rw[Qgy (p:=p) (by omega) fun i hi hne=>h i (by omega) hne (by omega)]
   exact h2
  ·rw[ih (by omega) fun i hi h3 h4=>h i (by omega) h3 h4,h n (by omega) (by omega) (fun h=>e h.symm),Rat.add_zero]
theorem sumN_swap (n m:Nat) (f:Nat→Nat→Rat):Xp n (fun i=>Xp m (f i))=Xp m (fun k=>Xp n fun i=>f i k):=by
 induction n with
 |zero=>exact(Qar fun _ _=>rfl).symm
 |succ n ih=>
  show Xp n (fun i=>Xp m (f i))+Xp m (f n)=Xp m (fun k=>Xp n (fun i=>f i k)+f n k)
  rw[ih,Qe9]
abbrev J5:=Nat→Nat→Rat
def Uq:Nat→Rat
 |0=>1
 |i+1 => -(Uq i)
def Zj (i r:Nat):Nat:=if r<i then r else r+1
def Kq (M:J5) (i:Nat):J5:=fun r c=>M (Zj i r) (c+1)
def Xk:Nat→J5→Rat
 |0,_=>1
 |n+1,M=>Xp (n+1) fun i=>Uq i*M i 0*Xk n (Kq M i)
theorem Zk:∀{n:Nat} {M N:J5},(∀r c,r<n→c<n→M r c=N r c)→Xk n M=Xk n N
 |0,_,_,_=>rfl
 |n+1,M,N,h=>X8 fun i hi=>by
  rw[h i 0 hi (by omega),Zk (n:=n) (M:=Kq M i) (N:=Kq N i) fun r c hr hc=>?_]
  unfold Kq Zj
  split
  ·exact h _ _ (by omega) (by omega)
  ·exact h _ _ (by omega) (by omega)
def X6 (M:J5) (p:Nat) (v:Nat→Rat):J5:=fun r c=>if r=p then v c else M r c
theorem Vq (M:J5) (p:Nat) (v:Nat→Rat):Kq (X6 M p v) p=Kq M p:=by
 funext r c
 unfold Kq X6 Zj
 rw[if_neg (by split<;>omega)]
def dwn (i p:Nat):Nat:=if p<i then p else p-1
theorem Qck (M:J5) {i p:Nat} (v:Nat→Rat) (h:i≠p):Kq (X6 M p v) i=X6 (Kq M i) (dwn i p) fun c=>v (c+1):=by
 funext r c
 unfold Kq X6 Zj dwn
 dsimp only
 by_cases h1:p<i
 ·rw[if_pos h1]
  by_cases h2:r<i
  ·rw[if_pos h2]
  ·rw[if_neg h2,if_neg (by omega),if_neg (by omega)]
 ·rw[if_neg h1]
  by_cases h2:r<i
  ·rw[if_pos h2,if_neg (by omega),if_neg (by omega)]
  ·rw[if_neg h2]
   by_cases h3:r+1=p
   ·rw[if_pos h3,if_pos (by omega)]
   ·rw[if_neg h3,if_neg (by omega)]
theorem dwn_lt {n i p:Nat} (hi:i<n+1) (hp:p<n+1) (h:i≠p):dwn i p<n:=by
 unfold dwn
 split<;>omega
theorem Qd8:∀{n:Nat} {M:J5} {p:Nat} {u v:Nat→Rat},p<n→Xk n (X6 M p fun c=>u c+v c)=Xk n (X6 M p u)+Xk n (X6 M p v)
 |0,_,_,_,_,h=>absurd h (Nat.not_lt_zero _)
 |n+1,M,p,u,v,hp=>by
  show Xp (n+1) _=Xp (n+1) _+Xp (n+1) _
  rw[← Qe9]
  refine X8 fun i hi=>?_
  by_cases h:i=p
  ·subst h
   rw[Vq,Vq,Vq]
   unfold X6
   rw[if_pos rfl,if_pos rfl,if_pos rfl]
   grind
  ·rw[Qck _ _ h,Qck _ _ h,Qck _ _ h,Qd8 (dwn_lt hi hp h)]
   unfold X6
   rw[if_neg h,if_neg h,if_neg h]
   grind
theorem Qgd:∀{n:Nat} {M:J5} {p:Nat} {a:Rat} {u:Nat→Rat},p<n→Xk n (X6 M p fun c=>a*u c)=a*Xk n (X6 M p u)
 |0,_,_,_,_,h=>absurd h (Nat.not_lt_zero _)
 |n+1,M,p,a,u,hp=>by
  show Xp (n+1) _=a*Xp (n+1) _
  rw[← Ua]
  refine X8 fun i hi=>?_
  by_cases h:i=p
  ·subst h
   rw[Vq,Vq]
   unfold X6
   rw[if_pos rfl,if_pos rfl]
   grind
  ·rw[Qck _ _ h,Qck _ _ h,Qgd (dwn_lt hi hp h)]
   unfold X6
   rw[if_neg h,if_neg h]
   grind
theorem det_next:∀{n:Nat} {M:J5} {p:Nat},p+1<n→(∀c,c<n→M p c=M (p+1) c)→Xk n M=0
 |0,_,_,h,_=>absurd h (Nat.not_lt_zero _)
 |n+1,M,p,hp,he=>by
  refine sumN_two (p:=p) hp (fun i hi h1 h2=>?_) ?_
  ·rw[det_next (n:=n) (M:=Kq M i) (p:=dwn i p) ?_ fun c hc=>?_,Rat.mul_zero]
   ·unfold dwn
    split<;>omega
   ·unfold Kq Zj dwn
    by_cases h:p<i
    ·rw[if_pos h,if_pos h,if_pos (by omega)]
     exact he _ (by omega)
    ·rw[if_neg h,if_neg (by omega),if_neg (by omega),show p-1+1=p by omega]
     exact he _ (by omega)
  ·have e:Xk n (Kq M p)=Xk n (Kq M (p+1)):=Zk fun r c hr hc=>by
    unfold Kq Zj
    by_cases h1:r<p
    ·rw[if_pos h1,if_pos (by omega)]
    ·rw[if_neg h1]
     by_cases h2:r=p
     ·subst h2
      rw[if_pos (by omega)]
      exact(he _ (by omega)).symm
     ·rw[if_neg (by omega)]
   show Uq p*M p 0*_ + -(Uq p)*M (p+1) 0*_=0
   rw[e,he 0 (by omega)]
   grind
theorem Qb4 (M:J5) (p:Nat):X6 M p (M p)=M:=by
 funext r c
 unfold X6
 split
 ·rename_i h; rw[h]
 ·rfl
theorem V0 (M:J5) {p q:Nat} (u v:Nat→Rat) (h:p≠q):X6 (X6 M p u) q v=X6 (X6 M q v) p u:=by
 funext r c
 unfold X6
 by_cases h1:r=q
 ·rw[if_pos h1,if_neg (by omega),if_pos h1]
 ·rw[if_neg h1]
  by_cases h2:r=p
  ·rw[if_pos h2,if_pos h2]
  ·rw[if_neg h2,if_neg h2,if_neg h1]
theorem Qia {n p q:Nat} (hp:p<n) (hq:q<n) (hne:p≠q) (h0:∀(M:J5) (u:Nat→Rat),Xk n (X6 (X6 M p u) q u)=0) (M:J5) (u v:Nat→Rat):Xk n (X6 (X6 M p u) q v) = -(Xk n (X6 (X6 M p v) q u)):=by
 have h:=h0 M fun c=>u c+v c
 rw[Qd8 hq,V0 M _ u hne,V0 M _ v hne,Qd8 hp,Qd8 hp,V0 _ _ _ (Ne.symm hne),V0 _ _ _ (Ne.symm hne),V0 _ _ _ (Ne.symm hne),V0 _ _ _ (Ne.symm hne),h0,h0]at h
 grind
theorem Qg2 {n p:Nat} (hp:p+1<n) (M:J5) (u:Nat→Rat):Xk n (X6 (X6 M p u) (p+1) u)=0:=by
 refine det_next hp fun c _=>?_
 unfold X6
 rw[if_neg (by omega),if_pos rfl,if_pos rfl]
theorem Qfv {n p:Nat}:∀(d:Nat),p+d+1<n→∀(M:J5) (u:Nat→Rat),Xk n (X6 (X6 M p u) (p+d+1) u)=0
 |0,h,M,u=>Qg2 h M u
 |d+1,h,M,u=>by
  have ih:=Qfv (n:=n) (p:=p) d (by omega)
  -- rows p + d + 1 and p + d + 2 are exchanged
  have hs:=Qia (n:=n) (p:=p+d+1) (q:=p+d+1+1) (by omega) h (by omega) (Qg2 (by omega)) (X6 M p u) (M (p+d+1)) u
  rw[show p+(d+1)+1=p+d+1+1 by omega]
  have e:X6 (X6 (X6 M p u) (p+d+1) (M (p+d+1))) (p+d+1+1) u=X6 (X6 M p u) (p+d+1+1) u:=by
   congr 1
   funext r c
   unfold X6
   by_cases h1:r=p+d+1
   ·rw[if_pos h1,if_neg (by omega),h1]
   ·rw[if_neg h1]
  rw[e]at hs
  rw[hs]
  have e2:X6 (X6 (X6 M p u) (p+d+1) u) (p+d+1+1) (M (p+d+1))=X6 (X6 (X6 M (p+d+1+1) (M (p+d+1))) p u) (p+d+1) u:=by
   rw[V0 _ _ _ (show p+d+1≠p+d+1+1 by omega),V0 M u _ (show p≠p+d+1+1 by omega)]
  rw[e2,ih]
  grind
theorem det_same {n p q:Nat} (hp:p<n) (hq:q<n) (hne:p≠q) (M:J5) (u:Nat→Rat):Xk n (X6 (X6 M p u) q u)=0:=by
 rcases Nat.lt_or_ge p q with h|h
 ·have:=Qfv (n:=n) (p:=p) (q-p-1) (by omega) M u
  rwa [show p+(q-p-1)+1=q by omega]at this
 ·have:=Qfv (n:=n) (p:=q) (p-q-1) (by omega) M u
  rw[show q+(p-q-1)+1=p by omega]at this
  rw[V0 _ _ _ hne]
  exact this
theorem det_swap {n p q:Nat} (hp:p<n) (hq:q<n) (hne:p≠q) (M:J5):Xk n (X6 (X6 M p (M q)) q (M p)) = -(Xk n M):=by
 have h:=Qia hp hq hne (det_same hp hq hne) M (M q) (M p)
 rw[h,Qb4]
 congr 2
 rw[Qb4]
theorem Qgc {n p q:Nat} (hp:p<n) (hq:q<n) (hne:p≠q) (M:J5) (a:Rat):Xk n (X6 M p fun c=>M p c+a*M q c)=Xk n M:=by
 rw[Qd8 hp,Qb4,Qgd hp]
 have h:=det_same hq hp (Ne.symm hne) M (M q)
 rw[Qb4]at h
 rw[h,Rat.mul_zero,Rat.add_zero]
theorem Qep {n p:Nat} (hp:p<n) {M:J5} (h:∀c,c<n→M p c=0):Xk n M=0:=by
 have h1:=Qgd (n:=n) (M:=M) (a:=0) (u:=M p) hp
 rw[Rat.zero_mul]at h1
 rw[← h1]
 exact Zk fun r c _ hc=>by
  unfold X6
  split
  ·rename_i e
   rw[e,h c hc]
   show(0:Rat)=0*M p c
   rw[Rat.zero_mul]
  ·rfl
end Wx

namespace Wx

def ent (X:List (List Rat)):J5:=fun r c=>(X.getD r []).getD c 0
def Ks (n:Nat) (A B:J5):J5:=fun r c=>Xp n fun k=>A r k*B k c
def Wt:Nat→(Nat→Rat)→Rat
 |0,_=>1
 |n+1,f=>Wt n f*f n
theorem prodN_congr {n:Nat} {f g:Nat→Rat} (h:∀i,i<n→f i=g i):Wt n f=Wt n g:=by
 induction n with
 |zero=>rfl
 |succ n ih=>
  show Wt n f*f n=Wt n g*g n
  rw[ih fun i hi=>h i (by omega),h n (by omega)]
theorem prodN_head (n:Nat) (f:Nat→Rat):Wt (n+1) f=f 0*Wt n fun i=>f (i+1):=by
 induction n with
 |zero=>show(1:Rat)*f 0=f 0*1; grind
 |succ n ih=>
  show Wt (n+1) f*f (n+1)=f 0*(Wt n (fun i=>f (i+1))*f (n+1))
  rw[ih]
  grind
theorem det_head {n:Nat} {M:J5} (h:∀r,0<r→r<n+1→M r 0=0):Xk (n+1) M=M 0 0*Xk n fun r c=>M (r+1) (c+1):=by
 have h1:Xk (n+1) M=Uq 0*M 0 0*Xk n (Kq M 0):=Qgy (p:=0) (by omega) fun i hi hne=>by
  rw[h i (by omega) hi,Rat.mul_zero,Rat.zero_mul]
 rw[h1]
 have h2:Kq M 0=fun r c=>M (r+1) (c+1):=by
  funext r c
  unfold Kq Zj
  rw[if_neg (Nat.not_lt_zero _)]
 rw[h2]
 show 1*M 0 0*_=_
 rw[Rat.one_mul]
theorem Qhc:∀{n:Nat} {M:J5},(∀r c,c<r→r<n→M r c=0)→Xk n M=Wt n fun i=>M i i
 |0,_,_=>rfl
 |n+1,M,h=>by
  rw[det_head fun r h1 h2=>h r 0 h1 h2,prodN_head,Qhc fun r c h1 h2=>h (r+1) (c+1) (by omega) (by omega)]
theorem det_sing:∀{k n:Nat} {M:J5},k<n→(∀r c,c<k→c<r→r<n→M r c=0)→(∀r,k≤r→r<n→M r k=0)→Xk n M=0
 |_,0,_,h,_,_=>absurd h (Nat.not_lt_zero _)
 |0,n+1,M,_,_,h2=>Qar fun i hi=>by rw[h2 i (Nat.zero_le _) hi,Rat.mul_zero,Rat.zero_mul]
 |k+1,n+1,M,hk,h1,h2=>by
  rw[det_head fun r h3 h4=>h1 r 0 (by omega) h3 h4,det_sing (k:=k) (n:=n) (by omega) (fun r c h3 h4 h5=>h1 (r+1) (c+1) (by omega) (by omega) (by omega)) (fun r h3 h4=>h2 (r+1) (by omega) (by omega)),Rat.mul_zero]
theorem Qhi {n:Nat} (A B:J5) (p:Nat) (v:Nat→Rat):Ks n (X6 A p v) B=X6 (Ks n A B) p fun c=>Xp n fun k=>v k*B k c:=by
 funext r c
 unfold Ks X6
 by_cases h:r=p
 ·rw[if_pos h]
  exact X8 fun k _=>by rw[if_pos h]
 ·rw[if_neg h]
  exact X8 fun k _=>by rw[if_neg h]
theorem mulF_congr {n:Nat} {A A' B:J5} (h:∀r c,r<n→c<n→A r c=A' r c):∀r c,r<n→c<n→Ks n A B r c=Ks n A' B r c:=fun r c hr _=>X8 fun k hk=>by rw[h r k hr hk]
theorem mul_rowadd {n p q:Nat} (hp:p<n) (hq:q<n) (hne:p≠q) (A B:J5) (a:Rat):Xk n (Ks n (X6 A p fun c=>A p c+a*A q c) B)=Xk n (Ks n A B):=by
 rw[Qhi]
 have e:(fun c=>Xp n fun k=>(A p k+a*A q k)*B k c)=fun c=>Ks n A B p c+a*Ks n A B q c:=by
  funext c
  unfold Ks
  rw[← Ua,← Qe9]
  exact X8 fun k _=>by grind
 rw[e]
 exact Qgc hp hq hne _ _
theorem mul_swap {n p q:Nat} (hp:p<n) (hq:q<n) (hne:p≠q) (A B:J5):Xk n (Ks n (X6 (X6 A p (A q)) q (A p)) B) = -(Xk n (Ks n A B)):=by
 rw[Qhi,Qhi]
 exact det_swap hp hq hne _
theorem det_lin {n p:Nat} (hp:p<n) (M:J5) (x:Nat→Rat):∀m,m≤n→Xk n (X6 M p fun c=>Xp m fun i=>x i*M i c)=if p<m then x p*Xk n M else 0
 |0,_=>by
  rw[if_neg (Nat.not_lt_zero _)]
  exact Qep hp fun c _=>by unfold X6; rw[if_pos rfl]; rfl
 |m+1,hm=>by
  have e:(fun c=>Xp (m+1) fun i=>x i*M i c)=fun c=>(Xp m fun i=>x i*M i c)+x m*M m c:=rfl
  rw[e,Qd8 hp,det_lin hp M x m (by omega),Qgd hp]
  by_cases h:p=m
  ·subst h
   rw[if_neg (Nat.lt_irrefl _),if_pos (by omega),Qb4,Rat.zero_add]
  ·have h0:=det_same (n:=n) (p:=m) (q:=p) (by omega) hp (fun e=>h e.symm) M (M m)
   rw[Qb4]at h0
   rw[h0,Rat.mul_zero,Rat.add_zero]
   by_cases h2:p<m
   ·rw[if_pos h2,if_pos (by omega)]
   ·rw[if_neg h2,if_neg (by omega)]
theorem det_dep {n p:Nat} (hp:p<n) {M:J5} {x:Nat→Rat} (hx:x p≠0) (h:∀c,c<n→Xp n (fun i=>x i*M i c)=0):Xk n M=0:=by
 have h1:=det_lin hp M x n (Nat.le_refl _)
 rw[if_pos hp,Qep hp fun c hc=>?_]at h1
 ·rcases Rat.mul_eq_zero.1 h1.symm with h2|h2
  ·exact absurd h2 hx
  ·exact h2
 ·unfold X6
  rw[if_pos rfl]
  exact h c hc
theorem sumN_skp {m p:Nat} (hp:p<m+1) (f:Nat→Rat):Xp (m+1) f=f p+Xp m fun i=>f (Zj p i):=by
 induction m with
 |zero=>
  have:p=0:=by omega
  subst this
  show 0+f 0=f 0+0
  grind
 |succ m ih=>
  by_cases h:p=m+1
  ·subst h
   show Xp (m+1) f+f (m+1)=f (m+1)+Xp (m+1) fun i=>f (Zj (m+1) i)
   rw[X8 (g:=fun i=>f (Zj (m+1) i)) fun i hi=>by unfold Zj; rw[if_pos hi]]
   grind
  ·show Xp (m+1) f+f (m+1)=f p+(Xp m (fun i=>f (Zj p i))+f (Zj p m))
   rw[ih (by omega),show Zj p m=m+1 by unfold Zj; rw[if_neg (by omega)]]
   grind
theorem dep:∀(t m:Nat) (V:J5),t<m→∃x:Nat→Rat,(∃p,p<m∧x p≠0)∧∀c,c<t→Xp m (fun i=>x i*V i c)=0
 |0,m,V,h=>⟨fun _=>1,⟨0,h,by decide⟩,fun c hc=>absurd hc (Nat.not_lt_zero _)⟩
 |t+1,0,V,h=>absurd h (Nat.not_lt_zero _)
 |t+1,m+1,V,h=>by
  by_cases hz:∀i,i<m+1→V i t=0
  ·obtain⟨x,hx,h1⟩:=dep t (m+1) V (by omega)
   refine⟨x,hx,fun c hc=>?_⟩
   by_cases e:c=t
   ·subst e
    exact Qar fun i hi=>by rw[hz i hi,Rat.mul_zero]
   ·exact h1 c (by omega)
  ·have:∃p,p<m+1∧V p t≠0:=Classical.byContradiction fun hn=>hz fun i hi=>Classical.byContradiction fun h0=>hn ⟨i,hi,h0⟩
   obtain⟨p,hp,hv⟩:=this
   obtain⟨x,⟨q,hq,hxq⟩,h1⟩:=dep t m (fun i c=>V (Zj p i) c-V (Zj p i) t/V p t*V p c) (by omega)
   -- the numbers for all vectors
   let s:=Xp m fun i=>x i*(V (Zj p i) t/V p t)
   let y:Nat→Rat:=fun i=>if i=p then -s else x (dwn p i)
   have hyp:y p = -s:=if_pos rfl
   have hys:∀i,y (Zj p i)=x i:=fun i=>by
    show(if Zj p i=p then -s else x (dwn p (Zj p i)))=x i
    unfold Zj dwn
    by_cases h2:i<p
    ·rw[if_pos h2,if_neg (by omega),if_pos h2]
    ·rw[if_neg h2,if_neg (by omega),if_neg (by omega),show i+1-1=i by omega]
   refine⟨y,⟨Zj p q,by unfold Zj; split<;>omega,by rw[hys]; exact hxq⟩,fun c hc=>?_⟩
   have key:∀c,Xp m (fun i=>x i*(V (Zj p i) c-V (Zj p i) t/V p t*V p c))=Xp m (fun i=>x i*V (Zj p i) c) + -s*V p c:=fun c=>by
    have e:∀i,x i*(V (Zj p i) c-V (Zj p i) t/V p t*V p c)=x i*V (Zj p i) c + -(V p c)*(x i*(V (Zj p i) t/V p t)):=fun i=>by grind
    rw[X8 fun i _=>e i,Qe9,Ua]
    show _ + -(V p c)*s=_
    grind
   rw[sumN_skp hp,hyp,X8 fun i _=>by rw[hys i],Rat.add_comm]
   by_cases e:c=t
   ·subst e
    have e2:Xp m (fun i=>x i*V (Zj p i) c)=s*V p c:=by
     show _=Xp m (fun i=>x i*(V (Zj p i) c/V p c))*V p c
     rw[Rat.mul_comm,← Ua]
     refine X8 fun i _=>?_
     rw[Rat.div_def]
     have:=Rat.mul_inv_cancel _ hv
     grind
    rw[e2]
    grind
   ·rw[← key c]
    exact h1 c (by omega)
theorem mul_upper {n:Nat} {U B:J5} (hU:∀r c,c<r→r<n→U r c=0):Xk n (Ks n U B)=(Wt n fun i=>U i i)*Xk n B:=by
 have key:∀t,t≤n→Xk n (fun r c=>if r<t then Ks n U B r c else B r c)=(Wt t fun i=>U i i)*Xk n B:=by
  intro t
  induction t with
  |zero=>
   intro _
   show _=1*Xk n B
   rw[Rat.one_mul]
   exact Zk fun r c _ _=>by rw[if_neg (Nat.not_lt_zero _)]
  |succ t ih=>
   intro ht
   have ih:=ih (by omega)
   let W:J5:=fun r c=>if r<t then Ks n U B r c else B r c
   have e:∀r c,r<n→c<n→(if r<t+1 then Ks n U B r c else B r c)=X6 W t (fun c=>Xp n fun i=>(if t≤i then U t i else 0)*W i c) r c:=by
    intro r c hr _
    unfold X6
    by_cases h:r=t
    ·subst h
     rw[if_pos (by omega),if_pos rfl]
     show Xp n _=_
     refine X8 fun i hi=>?_
     by_cases h2:r≤i
     ·rw[if_pos h2]
      show U r i*B i c=U r i*(if i<r then _ else B i c)
      rw[if_neg (by omega)]
     ·rw[if_neg h2,hU r i (by omega) hr,Rat.zero_mul,Rat.zero_mul]
    ·rw[if_neg h]
     show _=if r<t then Ks n U B r c else B r c
     by_cases h2:r<t
     ·rw[if_pos (by omega),if_pos h2]
     ·rw[if_neg (by omega),if_neg h2]
   rw[Zk e,det_lin (by omega) W _ n (Nat.le_refl _),if_pos (by omega),if_pos (Nat.le_refl _),ih]
   show U t t*_=Wt t (fun i=>U i i)*U t t*_
   grind
 rw[← key n (Nat.le_refl _)]
 exact Zk fun r c hr _=>by rw[if_pos hr]
end Wx

namespace Wx

section
variable {X:List (List Rat)} {n c k:Nat}
theorem redAt_ent {x y:List Rat} {f:Rat} {m q:Nat} (h1:q<x.length) (h2:q<m):(Ka x 0 y 0 f m).getD q 0=x.getD q 0-f*y.getD q 0:=by
 unfold Ka
 rw[Xq,List.getElem?_mapIdx,List.getElem?_eq_getElem h1,Xq x,List.getElem?_eq_getElem h1]
 show(if 0≤q∧q<0+m then x[q]-f*y.getD (0+(q-0)) 0 else x[q])=_
 rw[if_pos (by omega),show 0+(q-0)=q by omega]
 rfl
theorem redD_ent {x y:List Rat} {q:Nat} (h1:q<x.length) (h2:q<y.length):(redD x y c).getD q 0=x.getD q 0 + -(x.getD c 0/y.getD c 0)*y.getD q 0:=by
 unfold redD
 split
 ·rename_i h
  rw[h]
  grind
 ·rw[redAt_ent h1 h2]
  grind
theorem elimD_row (hl:X.length=n) (hr:Rect n X) (hc:c<n) (hk:k<n) (hck:c<k):∀r q,r<n→q<n→ent (elimD X c (k+1)) r q=X6 (ent (elimD X c k)) k (fun q=>ent (elimD X c k) k q + -(ent X k c/ent X c c)*ent (elimD X c k) c q) r q:=by
 intro r q hrn hq
 unfold X6
 by_cases h:r=k
 ·subst h
  rw[if_pos rfl]
  unfold ent
  rw[Ww (by omega),if_pos (by omega),elimD_at (by omega) (Nat.le_refl _),elimD_own (by omega),redD_ent (by rw[hr _ (by omega)]; exact hq) (by rw[hr _ (by omega)]; exact hq)]
 ·rw[if_neg h]
  unfold ent
  rw[Ww (by omega),Ww (by omega)]
  by_cases h1:c<r∧r<k
  ·rw[if_pos (by omega),if_pos h1]
  ·rw[if_neg (by omega),if_neg h1]
theorem det_elimD (hl:X.length=n) (hr:Rect n X) (hc:c<n) (B:J5):∀k,k≤n→c<k→Xk n (ent (elimD X c k))=Xk n (ent X)∧Xk n (Ks n (ent (elimD X c k)) B)=Xk n (Ks n (ent X) B):=by
 intro k hk hck
 induction k with
 |zero=>omega
 |succ k ih=>
  by_cases h:c=k
  ·subst h
   rw[elimD_start]
   exact⟨rfl,rfl⟩
  ·obtain⟨h1,h2⟩:=ih (by omega) (by omega)
   have e:=elimD_row hl hr hc (show k<n by omega) (by omega)
   refine⟨?_,?_⟩
   ·rw[Zk e,Qgc (by omega) hc (fun e=>h e.symm),h1]
   ·rw[Zk (mulF_congr e),mul_rowadd (by omega) hc (fun e=>h e.symm),h2]
theorem Qgz {a b:Nat} (hl:X.length=n) (ha:a<n) (hb:b<n):∀r q,ent (J1 X a b) r q=X6 (X6 (ent X) a (ent X b)) b (ent X a) r q:=by
 intro r q
 have hx:X[a]?=some (X.getD a []):=by rw[Xq,List.getElem?_eq_getElem (by omega)]; rfl
 have hy:X[b]?=some (X.getD b []):=by rw[Xq,List.getElem?_eq_getElem (by omega)]; rfl
 have h:=Qas hx hy r
 unfold X6 ent
 rw[Xq (J1 X a b),h]
 by_cases h1:r=b
 ·rw[if_pos h1,if_pos h1]; rfl
 ·rw[if_neg h1,if_neg h1]
  by_cases h2:r=a
  ·rw[if_pos h2,if_pos h2]; rfl
  ·rw[if_neg h2,if_neg h2,Xq X]
def sg1 (X:List (List Rat)) (c:Nat):Rat:=if Xw X c>0 then -1 else 1
theorem det_pivL (hl:X.length=n) (hc:c<n) (B:J5):Xk n (ent X)=sg1 X c*Xk n (ent (Xg X X c))∧Xk n (Ks n (ent X) B)=sg1 X c*Xk n (Ks n (ent (Xg X X c)) B):=by
 unfold sg1
 have hr:=Ws (X:=X) (c:=c) (by omega)
 by_cases h:Xw X c>0
 ·rw[if_pos h]
  have e:Xg X X c=J1 X c (c+(Xw X c).toNat):=by unfold Xg; rw[if_neg (by omega)]
  have hs:=Qgz (a:=c) (b:=c+(Xw X c).toNat) hl hc (by omega)
  rw[e]
  refine⟨?_,?_⟩
  ·rw[Zk fun r q _ _=>hs r q,det_swap hc (by omega) (by omega)]
   grind
  ·rw[Zk (mulF_congr fun r q _ _=>hs r q),mul_swap hc (by omega) (by omega)]
   grind
 ·rw[if_neg h]
  have e:Xg X X c=X:=by
   unfold Xg
   split
   ·rfl
   ·have h0:(Xw X c).toNat=0:=by omega
    rw[h0,Nat.add_zero]
    have hx:X[c]?=some (X.getD c []):=by rw[Xq,List.getElem?_eq_getElem (by omega)]; rfl
    rw[swapL_of hx hx]
    apply List.ext_getElem?
    intro i
    by_cases hi:i=c
    ·subst hi
     rw[List.getElem?_set_self (by rw[List.length_set]; omega),hx]
    ·rw[List.getElem?_set_ne (Ne.symm hi),List.getElem?_set_ne (Ne.symm hi)]
  rw[e]
  exact⟨(Rat.one_mul _).symm,(Rat.one_mul _).symm⟩
theorem pivL_above (hl:X.length=n) (hc:c<n) {r:Nat} (h:r<c):(Xg X X c).getD r []=X.getD r []:=by
 have hr:=Ws (X:=X) (c:=c) (by omega)
 unfold Xg
 split
 ·rfl
 ·have hx:X[c]?=some (X.getD c []):=by rw[Xq,List.getElem?_eq_getElem (by omega)]; rfl
  have hb:c+(Xw X c).toNat<X.length:=by omega
  have hy:X[c+(Xw X c).toNat]?=some (X.getD (c+(Xw X c).toNat) []):=by rw[Xq,List.getElem?_eq_getElem hb]; rfl
  rw[Xq (J1 _ _ _),Qas hx hy,if_neg (by omega),if_neg (by omega),Xq]
theorem pivL_below (hl:X.length=n) (hc:c<n) {r:Nat} (h:c≤r) (hrn:r<n):∃q,c≤q∧q<n∧(Xg X X c).getD r []=X.getD q []:=by
 have hr:=Ws (X:=X) (c:=c) (by omega)
 unfold Xg
 split
 ·exact⟨r,h,hrn,rfl⟩
 ·have hx:X[c]?=some (X.getD c []):=by rw[Xq,List.getElem?_eq_getElem (by omega)]; rfl
  have hb:c+(Xw X c).toNat<X.length:=by omega
  have hy:X[c+(Xw X c).toNat]?=some (X.getD (c+(Xw X c).toNat) []):=by rw[Xq,List.getElem?_eq_getElem hb]; rfl
  rw[Xq (J1 _ _ _),Qas hx hy]
  split
  ·exact⟨c,Nat.le_refl _,hc,rfl⟩
  ·split
   ·exact⟨_,by omega,by omega,rfl⟩
   ·exact⟨r,h,hrn,by rw[Xq]⟩
theorem Qie {p:Nat→Bool} {n:Nat} (h:Ju p n<0):∀j,j<n→p j=false:=by
 intro j hj
 unfold Ju at h
 split at h
 ·rename_i i hi
  omega
 ·rename_i hi
  have:=List.find?_eq_none.1 hi j (List.mem_range.2 hj)
  simpa using this
theorem piv_none (hl:X.length=n) (h:Xw X c<0):∀r,c≤r→r<n→ent X r c=0:=by
 intro r h1 h2
 have:=Qie (p:=fun i=>!(decide ((X.getD (c+i) []).getD c 0=0))) h (r-c) (by omega)
 have this:(!(decide ((X.getD (c+(r-c)) []).getD c 0=0)))=false:=this
 rw[show c+(r-c)=r by omega]at this
 unfold ent
 simpa using this
end
structure DetInv (X:List (List Rat)) (n k:Nat):Prop where
 zero:∀r q,q<k→q<r→r<n→ent (dX X k) r q=0
 diag:∀q,q<k→ent (dX X k) q q≠0
 sign:∃s:Rat,s≠0∧dD X k=s*Wt k (fun q=>ent (dX X k) q q)∧Xk n (ent X)=s*Xk n (ent (dX X k))∧∀B,Xk n (Ks n (ent X) B)=s*Xk n (Ks n (ent (dX X k)) B)
theorem detInv {X:List (List Rat)} {n:Nat} (hl:X.length=n) (hr:Rect n X):∀k,k≤n→(∀c,c<k→0≤Xw (dX X c) c)→DetInv X n k
 |0,_,_=>⟨fun _ q h=>absurd h (Nat.not_lt_zero _),fun q h=>absurd h (Nat.not_lt_zero _),1,by decide,by show(1:Rat)=1*1; rw[Rat.one_mul],(Rat.one_mul _).symm,fun _=>(Rat.one_mul _).symm⟩
 |k+1,hk,hp=>by
  obtain⟨h1,h2,s,hs0,h3,h4,h5⟩:=detInv hl hr k (by omega) fun c hc=>hp c (by omega)
  have hXl:(dX X k).length=n:=by rw[dX_len]; exact hl
  have hXr:Rect n (dX X k):=hr.dX k (by omega)
  have hPl:(Xg (dX X k) (dX X k) k).length=n:=by rw[Wj]; exact hXl
  have hPr:Rect n (Xg (dX X k) (dX X k) k):=hXr.piv (by omega)
  have hpk:=hp k (by omega)
  have hne:ent (Xg (dX X k) (dX X k) k) k k≠0:=piv_ne (by omega) hpk
  have eE:dX X (k+1)=elimD (Xg (dX X k) (dX X k) k) k n:=by show elimD _ k X.length=_; rw[hl]
  -- rows up to k
  have row:∀r,r≤k→(dX X (k+1)).getD r []=(Xg (dX X k) (dX X k) k).getD r []:=fun r h=>by rw[eE,Ww (by omega),if_neg (by omega)]
  have above:∀r,r<k→(dX X (k+1)).getD r []=(dX X k).getD r []:=fun r h=>by rw[row r (by omega),pivL_above hXl (by omega) h]
  have zb:∀r q,q<k→k≤r→r<n→ent (Xg (dX X k) (dX X k) k) r q=0:=fun r q hq h hrn=>by
   obtain⟨t,ht1,ht2,e⟩:=pivL_below hXl (show k<n by omega) h hrn
   unfold ent
   rw[e]
   exact h1 t q hq (by omega) ht2
  refine⟨fun r q hq hqr hrn=>?_,fun q hq=>?_,s*sg1 (dX X k) k,?_,?_,?_,fun B=>?_⟩
  ·rcases Nat.lt_or_ge r k with h|h
   ·unfold ent
    rw[above r h]
    exact h1 r q (by omega) hqr hrn
   ·by_cases e:r=k
    ·subst e
     unfold ent
     rw[row r (Nat.le_refl _)]
     exact zb r q (by omega) (Nat.le_refl _) hrn
    ·unfold ent
     rw[eE,Ww (by omega),if_pos (by omega),redD_ent (by rw[hPr r (by omega)]; omega) (by rw[hPr k (by omega)]; omega)]
     rcases Nat.lt_or_ge q k with h6|h6
     ·have z1:=zb r q h6 h hrn
      have z2:=zb k q h6 (Nat.le_refl _) (by omega)
      unfold ent at z1 z2
      rw[z1,z2]
      grind
     ·have:q=k:=by omega
      subst this
      unfold ent at hne
      rw[Rat.div_def]
      have:=Rat.mul_inv_cancel _ hne
      grind
  ·rcases Nat.lt_or_ge q k with h|h
   ·unfold ent
    rw[above q h]
    exact h2 q h
   ·have:q=k:=by omega
    subst this
    unfold ent
    rw[row q (Nat.le_refl _)]
    exact hne
  ·intro h
   rcases Rat.mul_eq_zero.1 h with h|h
   ·exact hs0 h
   ·unfold sg1 at h
    split at h
    ·revert h; decide
    ·revert h; decide
  ·have e1:ent (dX X (k+1)) k k=ent (Xg (dX X k) (dX X k) k) k k:=by unfold ent; rw[row k (Nat.le_refl _)]
   show(if Xw (dX X k) k>0 then -(dD X k)else dD X k)*ent (Xg (dX X k) (dX X k) k) k k=s*sg1 (dX X k) k*(Wt k (fun q=>ent (dX X (k+1)) q q)*ent (dX X (k+1)) k k)
   rw[e1,prodN_congr (g:=fun q=>ent (dX X k) q q) fun q hq=>by unfold ent; rw[above q hq],h3]
   unfold sg1
   split<;>grind
  ·rw[h4,(det_pivL hXl (show k<n by omega) (fun _ _=>0)).1,eE,(det_elimD hPl hPr (show k<n by omega) (fun _ _=>0) n (Nat.le_refl _) (by omega)).1]
   grind
  ·rw[h5 B,(det_pivL hXl (show k<n by omega) B).2,eE,(det_elimD hPl hPr (show k<n by omega) B n (Nat.le_refl _) (by omega)).2]
   grind
theorem first_sing {P:Nat→Prop} {n:Nat} (h:∃c,c<n∧P c):∃c,c<n∧P c∧∀q,q<c→¬P q:=by
 induction n with
 |zero=>obtain⟨c,hc,_⟩:=h; omega
 |succ n ih=>
  by_cases h1:∃c,c<n∧P c
  ·obtain⟨c,hc,h2,h3⟩:=ih h1
   exact⟨c,by omega,h2,h3⟩
  ·obtain⟨c,hc,h2⟩:=h
   refine⟨c,hc,h2,fun q hq h3=>h1 ⟨q,by omega,h3⟩⟩
theorem Qbl {X:List (List Rat)} {n:Nat} (hl:X.length=n) (hr:Rect n X):detG X=Xk n (ent X)∧(dSing X n↔Xk n (ent X)=0)∧∀B,Xk n (Ks n (ent X) B)=Xk n (ent X)*Xk n B:=by
 by_cases hs:dSing X n
 ·obtain⟨c,hc,h1,h2⟩:=first_sing hs
  obtain⟨g1,_,s,_,_,g4,g5⟩:=detInv hl hr c (by omega) fun q hq=>by have:=h2 q hq; omega
  have hXl:(dX X c).length=n:=by rw[dX_len]; exact hl
  have hz:=piv_none hXl h1
  have h0:Xk n (ent X)=0:=by
   rw[g4,det_sing hc (fun r q hq hqr hrn=>g1 r q hq hqr hrn) hz,Rat.mul_zero]
  refine⟨by rw[h0,detG_sing (by rw[hl]; exact hs)],⟨fun _=>h0,fun _=>hs⟩,fun B=>?_⟩
  rw[h0,Rat.zero_mul,g5 B]
  -- the rows from c on lean on each other
  obtain⟨x,⟨p,hp,hxp⟩,hx⟩:=dep (n-c-1) (n-c) (fun i k=>ent (dX X c) (c+i) (c+1+k)) (by omega)
  let y:Nat→Rat:=fun i=>if c≤i then x (i-c)else 0
  have hall:∀k,k<n→Xp n (fun i=>y i*ent (dX X c) i k)=0:=by
   intro k hk
   have split:∀m,c+m≤n→Xp (c+m) (fun i=>y i*ent (dX X c) i k)=Xp m fun i=>x i*ent (dX X c) (c+i) k:=by
    intro m
    induction m with
    |zero=>
     intro _
     exact Qar fun i hi=>by
      show(if c≤i then _ else(0:Rat))*_=0
      rw[if_neg (by omega),Rat.zero_mul]
    |succ m ih=>
     intro hm
     show Xp (c+m) _+y (c+m)*_=Xp m _+x m*_
     rw[ih (by omega)]
     have:y (c+m)=x m:=by
      show(if c≤c+m then x (c+m-c)else 0)=x m
      rw[if_pos (by omega),show c+m-c=m by omega]
     rw[this]
     rfl
   have:=split (n-c) (by omega)
   rw[show c+(n-c)=n by omega]at this
   rw[this]
   rcases Nat.lt_or_ge c k with h|h
   ·have:=hx (k-c-1) (by omega)
    rw[← this]
    refine X8 fun i _=>?_
    show _=x i*ent (dX X c) (c+i) (c+1+(k-c-1))
    rw[show c+1+(k-c-1)=k by omega]
   ·refine Qar fun i hi=>?_
    by_cases e:k=c
    ·subst e
     rw[hz (k+i) (by omega) (by omega),Rat.mul_zero]
    ·rw[g1 (c+i) k (by omega) (by omega) (by omega),Rat.mul_zero]
  have:Xk n (Ks n (ent (dX X c)) B)=0:=by
   refine det_dep (p:=c+p) (x:=y) (by omega) ?_ fun q hq=>?_
   ·show(if c≤c+p then x (c+p-c)else 0)≠0
    rw[if_pos (by omega),show c+p-c=p by omega]
    exact hxp
   ·have e:∀i,y i*Ks n (ent (dX X c)) B i q=Xp n fun k=>B k q*(y i*ent (dX X c) i k):=fun i=>by
     unfold Ks
     rw[← Ua]
     exact X8 fun k _=>by grind
    rw[X8 fun i _=>e i,sumN_swap]
    exact Qar fun k hk=>by rw[Ua,hall k hk,Rat.mul_zero]
  rw[this,Rat.mul_zero]
 ·have hp:∀c,c<n→0≤Xw (dX X c) c:=fun c hc=>by
   rcases Int.lt_or_le (Xw (dX X c) c) 0 with h|h
   ·exact absurd ⟨c,hc,h⟩ hs
   ·exact h
  obtain⟨g1,g2,s,hs0,g3,g4,g5⟩:=detInv hl hr n (Nat.le_refl _) hp
  have hU:Xk n (ent (dX X n))=Wt n fun q=>ent (dX X n) q q:=Qhc fun r q h1 h2=>g1 r q (by omega) h1 h2
  have e:detG X=Xk n (ent X):=by rw[detG_reg (by rw[hl]; exact hs),hl,g3,g4,hU]
  have hnz:∀m,m≤n→Wt m (fun q=>ent (dX X n) q q)≠0:=by
   intro m
   induction m with
   |zero=>intro _; show(1:Rat)≠0; decide
   |succ m ih=>
    intro hm h
    rcases Rat.mul_eq_zero.1 h with h|h
    ·exact ih (by omega) h
    ·exact g2 m (by omega) h
  refine⟨e,⟨fun h=>absurd h hs,fun h=>?_⟩,fun B=>?_⟩
  ·rw[g4,hU]at h
   rcases Rat.mul_eq_zero.1 h with h|h
   ·exact absurd h hs0
   ·exact absurd h (hnz n (Nat.le_refl _))
  ·rw[g5 B,mul_upper fun r q h1 h2=>g1 r q (by omega) h1 h2,g4,hU]
   grind
end Wx
