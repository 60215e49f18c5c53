import Derived.Test.YtkcceahelokheaaGreatJLT47
import Derived.Test.YtkcceahelokheaaGreatJLT46
namespace Wx
set_option linter.unusedVariables false
def mE (A:List (Rat×Nat)) (g:Nat->Rat):Rat:=match A with
 |[]=>0
 |x::A=>x.1*g x.2+mE A g
theorem zF {g h:Nat->Rat} {z:Rat}:∀{A:List (Rat×Nat)},mE A (λt=>g t+h t*z)=mE A g+mE A h*z
 |[]=>by show(0:Rat)=0+0*z; grind
 |x::A=>by
  show x.1*(g x.2+h x.2*z)+mE A (λt=>g t+h t*z)=(x.1*g x.2+mE A g)+(x.1*h x.2+mE A h)*z
  rw[zF (A:=A)]
  grind
theorem wm:∀{A:List (Rat×Nat)},mE A (λ_=>0)=0
 |[]=>rfl
 |x::A=>by
  show x.1*0+mE A (λ_=>0)=0
  rw[wm (A:=A)]
  grind
theorem yw {ms:Nat->List Rat} {S S':List bK} {A B:List (Rat×Nat)} {n:Nat} (hh:∀i,ia S' i=ia S i):∀{k:Nat},(∀i,i<k->mE A (λt=>(su ms S i).getD t 0)=mE B (λt=>(su ms S' i).getD t 0))->mE A (λt=>tT ms S n t k)=mE B (λt=>tT ms S' n t k)
 |0,_=>by
  show mE A (λ_=>0)=mE B (λ_=>0)
  rw[wm,wm]
 |k+1,h=>by
  show mE A (λt=>tT ms S n t k+(su ms S k).getD t 0*(tw (ia S k) (ia S (k+1))).getD n 0)=mE B (λt=>tT ms S' n t k+(su ms S' k).getD t 0*(tw (ia S' k) (ia S' (k+1))).getD n 0)
  rw[zF,zF,yw hh λi hi=>h i (by omega),h k (by omega),hh k,hh (k+1)]
section
variable {b:List Rat} {c s m:Rat}{t:Nat}
theorem At {f:List Rat}:xD b f t 4=b.getD 0 0*f.getD (4*t) 0+b.getD 1 0*f.getD (4*t+1) 0+b.getD 2 0*f.getD (4*t+2) 0+b.getD 3 0*f.getD (4*t+3) 0:=by
 show 0+b.getD 0 0*f.getD (4*t+0) 0+b.getD 1 0*f.getD (4*t+1) 0+b.getD 2 0*f.getD (4*t+2) 0+b.getD 3 0*f.getD (4*t+3) 0=_
 rw[Rat.zero_add,Nat.add_zero]
def eT (b:List Rat) (c s m:Rat) (t:Nat):Rat:=(kP b (Rx c s m)).getD t 0
theorem E4 (ht:t<9):eT b c s m t=xD b (Rx c s m) t 4:=eM ht
theorem eT0:eT b c s m 0=b.getD 0 0*(c*c)+b.getD 1 0*(s*s)+b.getD 2 0*(2*(m*m))+b.getD 3 0*(4*(m*m)):=by rw[E4 (by decide),At]; rfl
theorem eT1:eT b c s m 1=b.getD 0 0*(m*m)+b.getD 1 0*(m*m)+b.getD 2 0*(c*c+s*s)+b.getD 3 0*(-(4*(m*m))):=by rw[E4 (by decide),At]; rfl
theorem eT3:eT b c s m 3=b.getD 0 0*(m*m)+b.getD 1 0*(m*m)+b.getD 2 0*(c*c+s*s)+b.getD 3 0*(-(4*(m*m))):=by rw[E4 (by decide),At]; rfl
theorem eT4:eT b c s m 4=b.getD 0 0*(s*s)+b.getD 1 0*(c*c)+b.getD 2 0*(2*(m*m))+b.getD 3 0*(4*(m*m)):=by rw[E4 (by decide),At]; rfl
theorem eT8:eT b c s m 8=b.getD 0 0*(m*m)+b.getD 1 0*(m*m)+b.getD 2 0*(-(2*(m*m)))+b.getD 3 0*((c-s)*(c-s)):=by rw[E4 (by decide),At]; rfl
theorem Om (h1:c+s=1) (h2:m*m=c*s):eT b c s m 0+eT b c s m 4+eT b c s m 1+eT b c s m 3=b.getD 0 0+b.getD 1 0+2*b.getD 2 0:=by
 rw[eT0,eT1,eT3,eT4]
 grind
theorem J4 (h1:c+s=1) (h2:m*m=c*s):eT b c s m 8-eT b c s m 1=b.getD 3 0-b.getD 2 0:=by
 rw[eT8,eT1]
 grind
theorem XS:eT b s c (-m) 4=eT b c s m 0:=by rw[eT4,eT0]; grind
theorem XU:eT b s c (-m) 0=eT b c s m 4:=by rw[eT4,eT0]; grind
theorem XT:eT b s c (-m) 1=eT b c s m 1:=by rw[eT1,eT1]; grind
theorem XV:eT b s c (-m) 8=eT b c s m 8:=by rw[eT8,eT8]; grind
end
def DZ (p q:Int):Rat:=((p*p:Int):Rat)/((p*p+q*q:Int):Rat)
def D1 (p q:Int):Rat:=((q*q:Int):Rat)/((p*p+q*q:Int):Rat)
def En (p q:Int):Rat:=((p*q:Int):Rat)/((p*p+q*q:Int):Rat)
theorem Up (z:Int):0<=z*z:=(Int.le_total 0 z).elim (λh=>Int.mul_nonneg h h) λh=>Int.mul_nonneg_of_nonpos_of_nonpos h h
variable {z:Int}
theorem sq_pos (hz:z≠0):0<z*z:=(Int.lt_or_gt_of_ne hz).elim (λh=>Int.mul_pos_of_neg_of_neg h h) λh=>Int.mul_pos h h
variable {p q:Int}
theorem zK (h:p≠0\/q≠0):0<p*p+q*q:=by
 have h1:=Up p
 have h2:=Up q
 rcases h with h|h
 ·have:=sq_pos h; omega
 ·have:=sq_pos h; omega
theorem td (h:fM p q=true):p≠0\/q≠0:=by
 unfold fM at h
 simp only[Bool.and_eq_true,Bool.or_eq_true,decide_eq_true_eq]at h
 exact h.2
theorem CW (h:0<z):((z:Int):Rat)≠0:=λe=>by
 have:z=0:=by exact_mod_cast e
 omega
theorem D2 (h:p≠0\/q≠0):DZ p q+D1 p q=1:=by
 have h1:=CW (zK h)
 unfold DZ D1
 rw[Rat.div_def,Rat.div_def,<-Rat.add_mul,<-Rat.intCast_add,Rat.mul_inv_cancel _ h1]
theorem KY:En p q*En p q=DZ p q*D1 p q:=by
 unfold En DZ D1
 rw[Rat.div_def,Rat.div_def,Rat.div_def,Rat.intCast_mul,Rat.intCast_mul,Rat.intCast_mul]
 grind
theorem Ak {g:Int} (hg:g≠0) (h:p≠0\/q≠0):DZ (g*p) (g*q)=DZ p q/\D1 (g*p) (g*q)=D1 p q/\En (g*p) (g*q)=En p q:=by
 have h1:=CW (zK h)
 have h2:=CW (sq_pos hg)
 have e:g*p*(g*p)+g*q*(g*q)=(g*g)*(p*p+q*q):=by grind
 have h3:(((g*g)*(p*p+q*q):Int):Rat)≠0:=by
  rw[Rat.intCast_mul]
  exactλe=>(Rat.mul_eq_zero.1 e).elim h2 h1
 have key:∀a a':Int,a'=(g*g)*a->((a':Int):Rat)/(((g*g)*(p*p+q*q):Int):Rat)=((a:Int):Rat)/((p*p+q*q:Int):Rat):=by
  rintro a _ rfl
  rw[Rat.intCast_mul,Rat.intCast_mul (g*g) (p*p+q*q)]
  generalize ((g*g:Int):Rat)=G at *
  generalize ((p*p+q*q:Int):Rat)=N at *
  generalize ((a:Int):Rat)=X at *
  grind
 unfold DZ D1 En
 rw[e]
 exact⟨key _ _ (by grind),key _ _ (by grind),key _ _ (by grind)⟩
theorem D3:DZ (-q) p=D1 p q/\D1 (-q) p=DZ p q/\En (-q) p = -En p q:=by
 have e:-q * -q+p*p=p*p+q*q:=by grind
 unfold DZ D1 En
 rw[e,show -q * -q=q*q by grind,show -q*p = -(p*q) by grind,Rat.intCast_neg]
 refine⟨rfl,rfl,?_⟩
 rw[Rat.div_def,Rat.div_def,Rat.neg_mul]
variable {S:List bK}
theorem o6 (i:Nat):(ai (cM S p q) i).t=(ai S i).t/\(ai (cM S p q) i).gP=(ai S i).gP:=by
 by_cases h:i<S.length
 ·rw[r5 h]
  exact⟨rfl,rfl⟩
 ·rw[wO (S:=S) (by omega),wO (by unfold cM; rw[List.length_map]; omega)]
  exact⟨rfl,rfl⟩
theorem eE:(cM S p q).length=S.length:=by unfold cM; rw[List.length_map]
theorem Cu {S:List bK} {p q:Int}:∀k,cU (cM S p q) k=cU S k
 |0=>rfl
 |k+1=>by
  show cU (cM S p q) k+(ai (cM S p q) k).t=cU S k+(ai S k).t
  rw[Cu k,(o6 k).1]
theorem qQ {S:List bK} {p q:Int}:∀i,ia (cM S p q) i=ia S i
 |0=>by
  show((-(cU (cM S p q) (cM S p q).length):Int):Rat)/lF=((-(cU S S.length):Int):Rat)/lF
  rw[Cu,eE]
 |i+1=>by
  show ia (cM S p q) i+(((ai (cM S p q) i).t:Int):Rat)=ia S i+(((ai S i).t:Int):Rat)
  rw[qQ i,(o6 i).1]
variable {ms:Nat->List Rat}
theorem nI {i t:Nat}:(su ms S i).getD t 0=eT (iS (ms (ai S i).gP.toNat)) (DZ (ai S i).p (ai S i).q) (D1 (ai S i).p (ai S i).q) (En (ai S i).p (ai S i).q) t:=rfl
variable {n:Nat} {E:Nat->Int}
theorem Ge (h1:sM n S=false) (h2:∀i,i<n->E i=0) (h3:∀i,i<S.length->A9 n (ai S i)=0):fR n E S=0:=by
 unfold fR
 rw[h1,if_neg Bool.false_ne_true,if_pos (ke h2)]
 exact ke h3
theorem S2 (h:fR n E S=0):sM n S=false:=by
 unfold fR at h
 split at h
 ·exact absurd h (by decide)
 ·rename_i h1
  simpa using h1
theorem MF {t:Int} (h1:fM p q=true) (h2:1<=t/\t<=10000):I3 p q t=0:=by
 unfold I3
 rw[h1,if_neg]
 simp only[Bool.not_true,Bool.false_or,Bool.or_eq_true,decide_eq_true_eq,not_or]
 omega
theorem vw (h:ic S p q=0):kB S=0/\fM p q=true/\∀i,i<S.length->fM (bP p q (ai S i)).p (bP p q (ai S i)).q=true:=by
 unfold ic at h
 split at h
 ·exact absurd h (by assumption)
 ·rename_i h1
  split at h
  ·exact absurd h (by decide)
  ·rename_i h2
   split at h
   ·exact absurd h (by decide)
   ·rename_i h3
    exact⟨Decidable.not_not.1 h1,by simpa using h2,Ev (show Gs S p q=true by simpa using h3)⟩
theorem JB (h1:kB S=0) (h2:fM p q=true) (h3:∀i,i<S.length->fM (bP p q (ai S i)).p (bP p q (ai S i)).q=true):ic S p q=0:=by
 unfold ic
 rw[if_neg (by rw[h1]; decide),h2,if_neg (by decide),show Gs S p q=true from kQ h3,if_neg (by decide)]
theorem p9 (h:lq n ms S=0) (ht:ic S p q=0):lq n ms (cM S p q)=0:=by
 refine Ge ?_ (Cq h) λi hi=>?_
 ·have:=S2 h
  unfold sM at this ⊢
  rw[eE]
  exact this
 ·rw[eE]at hi
  have h1:=mg h hi
  have h2:=uU h1.2
  rw[r5 hi]
  unfold A9
  rw[if_neg]
  ·exact MF ((vw ht).2.2 i hi) h2.2
  ·show ¬(decide ((ai S i).gP<0)||decide ((ai S i).gP>=(n:Int)))=true
   simp only[Bool.or_eq_true,decide_eq_true_eq,not_or]
   omega
variable {x:bK}
theorem Au (hx:fM x.p x.q=true) (hd:fM p q=true):qG (x.p*p-x.q*q) (x.p*q+x.q*p)≠0/\qG (x.p*p-x.q*q) (x.p*q+x.q*p)*(bP p q x).p=x.p*p-x.q*q/\qG (x.p*p-x.q*q) (x.p*q+x.q*p)*(bP p q x).q=x.p*q+x.q*p:=
 ⟨Gt hx hd,Int.mul_tdiv_cancel' (Int.gcd_dvd_left _ _),Int.mul_tdiv_cancel' (Int.gcd_dvd_right _ _)⟩
theorem K9 (hx:fM x.p x.q=true) (hd:fM p q=true):(bP p q x).p≠0\/(bP p q x).q≠0:=by
 obtain⟨h1,h2,h3⟩:=Au hx hd
 by_cases h4:(bP p q x).p=0
 ·right
  intro h5
  rw[h4,Int.mul_zero]at h2
  rw[h5,Int.mul_zero]at h3
  have e:qG (x.p*p-x.q*q) (x.p*q+x.q*p)=0:=by rw[<-h2,<-h3]; rfl
  exact h1 e
 ·exact .inl h4
theorem La (hx:fM x.p x.q=true) (hd:fM p q=true):DZ (bP p q x).p (bP p q x).q=DZ (x.p*p-x.q*q) (x.p*q+x.q*p)/\D1 (bP p q x).p (bP p q x).q=D1 (x.p*p-x.q*q) (x.p*q+x.q*p)/\En (bP p q x).p (bP p q x).q=En (x.p*p-x.q*q) (x.p*q+x.q*p):=by
 obtain⟨h1,h2,h3⟩:=Au hx hd
 have:=Ak h1 (K9 hx hd)
 rw[h2,h3]at this
 exact⟨this.1.symm,this.2.1.symm,this.2.2.symm⟩
theorem D8 (hx:fM x.p x.q=true):DZ (bP 0 1 x).p (bP 0 1 x).q=D1 x.p x.q/\D1 (bP 0 1 x).p (bP 0 1 x).q=DZ x.p x.q/\En (bP 0 1 x).p (bP 0 1 x).q = -En x.p x.q:=by
 have h:=La hx (show fM 0 1=true by decide)
 rw[show x.p*0-x.q*1 = -x.q by omega,show x.p*1+x.q*0=x.p by omega,(D3 (p:=x.p) (q:=x.q)).1,(D3 (p:=x.p) (q:=x.q)).2.1,(D3 (p:=x.p) (q:=x.q)).2.2]at h
 exact h
theorem Nn (hx:fM x.p x.q=true) (hd:fM p q=true) (ht:fM (bP p q x).p (bP p q x).q=true) (RJ:fM p (-q)=true):DZ (bP p (-q) (bP p q x)).p (bP p (-q) (bP p q x)).q=DZ x.p x.q/\D1 (bP p (-q) (bP p q x)).p (bP p (-q) (bP p q x)).q=D1 x.p x.q/\En (bP p (-q) (bP p q x)).p (bP p (-q) (bP p q x)).q=En x.p x.q:=by
 have h:=La ht RJ
 obtain⟨h1,h2,h3⟩:=Au hx hd
 generalize hg:qG (x.p*p-x.q*q) (x.p*q+x.q*p)=g at *
 generalize hP:(bP p q x).p=P at *
 generalize hQ:(bP p q x).q=Q at *
 have hN:=zK (td hd)
 have e1:g*(P*p-Q * -q)=(p*p+q*q)*x.p:=by grind
 have e2:g*(P * -q+Q*p)=(p*p+q*q)*x.q:=by grind
 have hne:P*p-Q * -q≠0\/P * -q+Q*p≠0:=by
  by_cases h4:P*p-Q * -q=0
  ·right
   intro h5
   rw[h4,Int.mul_zero]at e1
   rw[h5,Int.mul_zero]at e2
   rcases td hx with h6|h6
   ·exact(Int.mul_eq_zero.1 e1.symm).elim (by omega) h6
   ·exact(Int.mul_eq_zero.1 e2.symm).elim (by omega) h6
  ·exact .inl h4
 have k1:=Ak h1 hne
 have k2:=Ak (g:=p*p+q*q) (by omega) (td hx)
 rw[e1,e2]at k1
 exact⟨h.1.trans (k1.1.symm.trans k2.1),h.2.1.trans (k1.2.1.symm.trans k2.2.1),h.2.2.trans (k1.2.2.symm.trans k2.2.2)⟩
theorem gp (h:lq n ms S=0) {i t:Nat} (hi:i<3) (ht:t<9):(((pZ n ms S).drop (i*9)).take 9).getD t 0=tT ms S i t S.length:=by
 rw[OH ht]
 unfold pZ
 rw[if_pos h]
 unfold xN
 rw[eM (by omega),show(i*9+t)/9=i by omega,show(i*9+t)%9=t by omega]
section
variable {n:Nat} {ms:Nat->List Rat} {S:List bK} {p q:Int}
theorem tJ (h:lq n ms S=0) {i:Nat} (hi:i<S.length):fM (ai S i).p (ai S i).q=true:=(uU (mg h hi).2).1
variable {S':List bK}
theorem J3 (hm:∀i,(ai S' i).gP=(ai S i).gP) (i t:Nat):(su ms S' i).getD t 0=eT (iS (ms (ai S i).gP.toNat)) (DZ (ai S' i).p (ai S' i).q) (D1 (ai S' i).p (ai S' i).q) (En (ai S' i).p (ai S' i).q) t:=by rw[nI,hm]
theorem Sj (hh:∀i,ia S' i=ia S i) (hm:∀i,(ai S' i).gP=(ai S i).gP) (h1:∀i,i<S.length->fM (ai S i).p (ai S i).q=true) (h2:∀i,i<S.length->fM (ai S' i).p (ai S' i).q=true) (m:Nat):
  tT ms S m 0 S.length+tT ms S m 4 S.length+tT ms S m 1 S.length+tT ms S m 3 S.length=tT ms S' m 0 S.length+tT ms S' m 4 S.length+tT ms S' m 1 S.length+tT ms S' m 3 S.length/\tT ms S m 8 S.length-tT ms S m 1 S.length=tT ms S' m 8 S.length-tT ms S' m 1 S.length:=by
 constructor
 ·have:=yw (ms:=ms) (S:=S) (S':=S') (A:=[(1,0),(1,4),(1,1),(1,3)]) (B:=[(1,0),(1,4),(1,1),(1,3)]) (n:=m) hh (k:=S.length) λi hi=>by
   have e1:=Om (b:=iS (ms (ai S i).gP.toNat)) (D2 (td (h1 i hi))) KY
   have e2:=Om (b:=iS (ms (ai S i).gP.toNat)) (D2 (td (h2 i hi))) KY
   simp only[mE,J3 hm,nI]
   grind
  simp only[mE]at this
  grind
 ·have:=yw (ms:=ms) (S:=S) (S':=S') (A:=[(1,8),(-1,1)]) (B:=[(1,8),(-1,1)]) (n:=m) hh (k:=S.length) λi hi=>by
   have e1:=J4 (b:=iS (ms (ai S i).gP.toNat)) (D2 (td (h1 i hi))) KY
   have e2:=J4 (b:=iS (ms (ai S i).gP.toNat)) (D2 (td (h2 i hi))) KY
   simp only[mE,J3 hm,nI]
   grind
  simp only[mE]at this
  grind
theorem uP (hh:∀i,ia S' i=ia S i) (m t t':Nat) (h:∀i,i<S.length->(su ms S i).getD t 0=(su ms S' i).getD t' 0):tT ms S m t S.length=tT ms S' m t' S.length:=by
 have:=yw (ms:=ms) (S:=S) (S':=S') (A:=[(1,t)]) (B:=[(1,t')]) (n:=m) hh (k:=S.length) λi hi=>by
  simp only[mE]
  rw[h i hi]
 simp only[mE]at this
 grind
theorem Lc (h:lq n ms S=0):ic S 0 1=0:=by
 have hl:=wU h
 refine JB ?_ (by decide) λi hi=>?_
 ·unfold kB
  rw[if_neg (by simp only[Bool.or_eq_true,decide_eq_true_eq,not_or]; omega)]
  exact tf λk hk=>(mg h hk).2
 ·have hd:=tJ h hi
  have hne:=K9 hd (show fM 0 1=true by decide)
  have hb:=uo hd
  have b1:=tdiv_le ((ai S i).p*0-(ai S i).q*1) (qG ((ai S i).p*0-(ai S i).q*1) ((ai S i).p*1+(ai S i).q*0))
  have b2:=tdiv_le ((ai S i).p*1+(ai S i).q*0) (qG ((ai S i).p*0-(ai S i).q*1) ((ai S i).p*1+(ai S i).q*0))
  have b1:(bP 0 1 (ai S i)).p.natAbs<=((ai S i).p*0-(ai S i).q*1).natAbs:=b1
  have b2:(bP 0 1 (ai S i)).q.natAbs<=((ai S i).p*1+(ai S i).q*0).natAbs:=b2
  generalize (bP 0 1 (ai S i)).p=P at *
  generalize (bP 0 1 (ai S i)).q=Q at *
  unfold fM Oy
  simp only[Bool.and_eq_true,Bool.not_eq_true',Bool.or_eq_false_iff,decide_eq_false_iff_not,Bool.or_eq_true,decide_eq_true_eq]
  refine⟨⟨?_,?_⟩,hne⟩<;>omega
def S7 (l:List Rat):Rat:=l.getD 0 0+l.getD 4 0+l.getD 1 0+l.getD 3 0
def SS (l:List Rat):Rat:=l.getD 8 0-l.getD 1 0
abbrev FX (L:List Rat) (i:Nat):List Rat:=(L.drop (i*9)).take 9
theorem R7 (h:lq n ms S=0) (ht:ic S p q=0) {i:Nat} (hi:i<3):S7 (FX (pZ n ms S) i)=S7 (FX (pZ n ms (cM S p q)) i)/\SS (FX (pZ n ms S) i)=SS (FX (pZ n ms (cM S p q)) i):=by
 have h':=p9 h ht
 have:=Sj (ms:=ms) (S:=S) (S':=cM S p q) qQ (λi=>(o6 i).2) (λi hi=>tJ h hi) (λi hi=>tJ h' (by rw[eE]; exact hi)) i
 unfold S7 SS
 simp only[gp h hi (by decide:0<9),gp h hi (by decide:1<9),gp h hi (by decide:3<9),gp h hi (by decide:4<9),gp h hi (by decide:8<9),gp h' hi (by decide:0<9),gp h' hi (by decide:1<9),gp h' hi (by decide:3<9),gp h' hi (by decide:4<9),gp h' hi (by decide:8<9),eE]
 exact this
theorem VS (h:lq n ms S=0) {i:Nat} (hi:i<3):(FX (pZ n ms S) i).getD 0 0=(FX (pZ n ms (cM S 0 1)) i).getD 4 0/\(FX (pZ n ms S) i).getD 4 0=(FX (pZ n ms (cM S 0 1)) i).getD 0 0/\(FX (pZ n ms S) i).getD 1 0=(FX (pZ n ms (cM S 0 1)) i).getD 1 0/\(FX (pZ n ms S) i).getD 8 0=(FX (pZ n ms (cM S 0 1)) i).getD 8 0:=by
 have h':=p9 h (Lc h)
 have key:∀k,k<S.length->∀t,(su ms (cM S 0 1) k).getD t 0=eT (iS (ms (ai S k).gP.toNat)) (D1 (ai S k).p (ai S k).q) (DZ (ai S k).p (ai S k).q) (-En (ai S k).p (ai S k).q) t:=λk hk t=>by
  rw[J3 (S:=S) (λi=>(o6 i).2),r5 hk,(D8 (tJ h hk)).1,(D8 (tJ h hk)).2.1,(D8 (tJ h hk)).2.2]
 simp only[gp h hi (by decide:0<9),gp h hi (by decide:1<9),gp h hi (by decide:4<9),gp h hi (by decide:8<9),gp h' hi (by decide:0<9),gp h' hi (by decide:1<9),gp h' hi (by decide:4<9),gp h' hi (by decide:8<9),eE]
 exact⟨uP qQ i 0 4 λk hk=>by rw[key k hk,nI,XS],uP qQ i 4 0 λk hk=>by rw[key k hk,nI,XU],uP qQ i 1 1 λk hk=>by rw[key k hk,nI,XT],uP qQ i 8 8 λk hk=>by rw[key k hk,nI,XV]⟩
theorem Pk (h:lq n ms S=0) (ht:ic S p q=0) (hb:ic (cM S p q) p (-q)=0):pZ n ms (cM (cM S p q) p (-q))=pZ n ms S:=by
 have h':=p9 h ht
 have h2:=p9 h' hb
 have hl:(cM (cM S p q) p (-q)).length=S.length:=by rw[eE,eE]
 unfold pZ
 rw[if_pos h,if_pos h2,hl]
 unfold xN
 refine gz λu _=>?_
 refine(uP (S:=S) (S':=cM (cM S p q) p (-q)) (λi=>by rw[qQ,qQ]) _ _ _ λk hk=>?_).symm
 rw[J3 (S:=S) (S':=cM (cM S p q) p (-q)) (λi=>by rw[(o6 i).2,(o6 i).2]),nI,r5 (by rw[eE]; exact hk),r5 hk]
 have e:=Nn (tJ h hk) (vw ht).2.1 ((vw ht).2.2 k hk) (vw hb).2.1
 rw[e.1,e.2.1,e.2.2]
end
end Wx

namespace Wx
set_option maxRecDepth 100000
set_option maxHeartbeats 1000000
open Go Go.RowKit Go.Proofs
set_option linter.unusedVariables false
attribute [local irreducible] OpOk
def eqB (l m:List Rat):Bool:=xF (λt=>decide (l.getD t 0=m.getD t 0)) 9
variable {l:List Rat}
theorem y7:eqB l l=true:=kQ λ_ _=>decide_eq_true rfl
def thr (l:List Rat):List Rat:=(l.drop 0).take 9++(l.drop 9).take 9++(l.drop 18).take 9
theorem WE (h:l.length=27):thr l=l:=by
 apply List.ext_getElem?
 intro t
 unfold thr
 simp only[List.getElem?_append,List.getElem?_take,List.getElem?_drop,List.length_append,List.length_take,List.length_drop]
 by_cases h1:t<9
 ·have c1:t<min 9 (l.length-0):=by omega
  have c2:t<min 9 (l.length-0)+min 9 (l.length-9):=by omega
  simp only[c1,c2,h1,if_true,Nat.zero_add]
 ·by_cases h2:t<18
  ·have c1:¬t<min 9 (l.length-0):=by omega
   have c2:t<min 9 (l.length-0)+min 9 (l.length-9):=by omega
   have c3:t-min 9 (l.length-0)<9:=by omega
   have c4:9+(t-min 9 (l.length-0))=t:=by omega
   simp only[c1,c2,c3,if_true,if_false,c4]
  ·have c2:¬t<min 9 (l.length-0)+min 9 (l.length-9):=by omega
   have c4:18+(t-(min 9 (l.length-0)+min 9 (l.length-9)))=t:=by omega
   by_cases h3:t<27
   ·have c3:t-(min 9 (l.length-0)+min 9 (l.length-9))<9:=by omega
    simp only[c2,c3,if_true,if_false,c4]
   ·have c3:¬t-(min 9 (l.length-0)+min 9 (l.length-9))<9:=by omega
    simp only[c2,c3,if_false]
    exact(List.getElem?_eq_none (by omega)).symm
section
variable {P:Program} {ops:Array Oper} {ms:List Nat} {c:fT} {V:List Vr} {A:List Al} {G:List bz} {i:Nat}{d:Nat} {x y z:Operand} {ty:TypeId} {pos:String} {aft:Array Edge}{j:Nat} {l1 l2 l3:List Rat}
theorem P3 {F:Rat->Pred} {n1 n2 n3:Nat} (e1:n1=l1.length*3) (e2:n2=l2.length*3) (e3:n3=l3.length*3):∀w v,pS [⟨true,n1,pV F j l1⟩,⟨true,n2,pV F j l2⟩,⟨true,n3,pV F j l3⟩] w v->pV F j (l1++l2++l3) w v:=by
 rintro w v ⟨cs,rfl,k1,k2,k3,k4,k5,k6,k7⟩
 have k1:n1<=cs.length:=k1
 have k3:n2<=(cs.drop n1).length:=k3
 have k5:n3<=((cs.drop n1).drop n2).length:=k5
 have k7:((cs.drop n1).drop n2).drop n3=[]:=k7
 obtain⟨ds1,ea,ha⟩:=(show pV F j l1 w (aj true (cs.take n1))from k2)
 obtain⟨ds2,eb,hb⟩:=(show pV F j l2 w (aj true ((cs.drop n1).take n2))from k4)
 obtain⟨ds3,ec,hc⟩:=(show pV F j l3 w (aj true (((cs.drop n1).drop n2).take n3))from k6)
 have ea:=bG (show aj true _=aj true ds1 from ea)
 have eb:=bG (show aj true _=aj true ds2 from eb)
 have ec:=bG (show aj true _=aj true ds3 from ec)
 subst ea eb ec
 have hc':((cs.drop n1).drop n2).take n3=(cs.drop n1).drop n2:=List.take_of_length_le (by have:=List.drop_eq_nil_iff.1 k7; omega)
 rw[hc']at hc
 have:=tD (tD ha hb) hc
 rw[List.append_assoc (List.take n1 cs),List.take_append_drop,List.take_append_drop]at this
 exact⟨cs,rfl,this⟩
theorem bdT {T:TypeId} {x0 x1 x2:Operand} (h1:Has ms G i x0 (pV au j l1):=by exact hs) (h2:Has ms G i x1 (pV au j l2):=by exact hs) (h3:Has ms G i x2 (pV au j l3):=by exact hs) (e1:l1.length=9:=by first|rfl|omega) (e2:l2.length=9:=by first|rfl|omega) (e3:l3.length=9:=by first|rfl|omega) (hp:Post G i (pV au j (l1++l2++l3)):=by exact pt rfl)
  (ht:∀parts,P.built T parts=Instr.fill (λi=>some (i*27,27)) ((List.replicate 3 (Zf.m (List.replicate 9 .r))).flatMap Zf.cs).toArray parts:=by(intro parts; kernel_rfl)):
  OpOk P ops ms c V A G i ⟨some d,.build T #[(0,x0),(1,x1),(2,x2)],ty,pos,aft,none⟩:=by
 refine rS (ps:=[(0,pV au j l1),(1,pV au j l2),(2,pV au j l3)]) (gs:=[⟨true,27,pV au j l1⟩,⟨true,27,pV au j l2⟩,⟨true,27,pV au j l3⟩]) ht (DL (by kernel_rfl)) (λw=>Lh w _) (show dy ms G i _ [(0,x0),(1,x1),(2,x2)] _ from⟨⟨rfl,h1,_,rfl,eF (λ_=>cE) (by rw[e1]; rfl)⟩,⟨rfl,h2,_,rfl,eF (λ_=>cE) (by rw[e2]; rfl)⟩,⟨rfl,h3,_,rfl,eF (λ_=>cE) (by rw[e3]; rfl)⟩,trivial⟩) rfl (hp.down (P3 (by rw[e1]) (by rw[e2]) (by rw[e3])))
end
variable {l:List Rat} {j:Nat}
theorem Dv {m:List Rat} {u:Nat} (h:l.length=9/\m.length=9):K2 Tryz.prog 26 (pV au j l) (pV au u m) (pB (eqB l m)):=by
 intro M w0 v0 v1 hM hv0 eI
 have hl:=h.1
 have hm:=h.2
 refine rG (N:=27) Tryz.func26 rfl rfl rfl hM hv0 eI λa hI=>?_
 refine bf hI 3 [⟨2,2,some 0,none,.ptr,75,27,true,pv _,[]⟩,⟨3,3,some 1,none,.ptr,75,27,true,pv _,[]⟩] [] [Uc 2 4 _] .z (.kk .z) ⟨bo,bo,mv,trivial⟩ (.k (.k .z)) (.lQ .z) λa w hI=>?_
 refine az ?_
 refine bf hI 1 [] [] [Uc 0 7 _] (.k (.k .z)) (.k .z) ⟨mv,trivial⟩ (.k (.k .z)) (.kk .z) λa w hI=>?_
 refine aC ?_
 refine tN [Vz 2 2 75 27 true _,Vz 3 3 75 27 true _] [] (λ(i:Nat)=>[]) (λ(i:Nat)=>[Uz 7 (pI (i:Int))]) (λ(i:Nat)=>i<=3/\∀t,t<3*i->l.getD t 0=m.getD t 0) (λ(i:Nat)=>3-i) (0) ⟨Nat.zero_le _,λt ht=>absurd ht (by omega)⟩ hI ⟨vi,vi,trivial⟩ ⟨gc,trivial⟩ ?_
 intro i a w hp hI
 refine bf hI 1 [] [] [Uc 0 8 _] (.k (.k .z)) (.k .z) ⟨bn,trivial⟩ (.k (.k .z)) (.kk .z) λa w hI=>?_
 refine az ?_
 refine mj hI (λt1=>?_) (λt1=>?_)
 ·
  refine aJ ?_
  refine ae ?_
  refine az ?_
  refine aC ?_
  refine bf hI 2 [] [] [Uc 0 9 _,Uc 1 5 _] (.k (.k .z)) (.kk .z) ⟨mv,mv,trivial⟩ (.k (.k .z)) (.nh .z) λa w hI=>?_
  refine bf hI 1 [] [] [Uc 0 10 _] (.k (.k .z)) (.kk .z) ⟨mv,trivial⟩ (.k (.k .z)) (.bS .z) λa w hI=>?_
  refine aC ?_
  refine tN [Vz 2 2 75 27 true _,Vz 3 3 75 27 true _] [Uz 7 _,Uz 5 _] (λ(k:Nat)=>[]) (λ(k:Nat)=>[Uz 10 (pI (k:Int))]) (λ(k:Nat)=>k<=3/\∀t,t<3*i+k->l.getD t 0=m.getD t 0) (λ(k:Nat)=>3-k) (0) ⟨Nat.zero_le _,hp.2⟩ hI ⟨vi,vi,trivial⟩ ⟨gi,gi,gc,trivial⟩ ?_
  intro k a w hk hI
  refine bf hI 1 [] [] [Uc 0 11 _] (.k (.k .z)) (.bS .z) ⟨bn,trivial⟩ (.k (.k .z)) (.ah .z) λa w hI=>?_
  refine az ?_
  refine mj hI (λt2=>?_) (λt2=>?_)
  ·
   refine aJ ?_
   refine ae ?_
   refine az ?_
   refine aC ?_
   refine bf hI 2 [] [] [Uc 0 12 _,Uc 1 6 _] (.k (.k .z)) (.ah .z) ⟨mv,mv,trivial⟩ (.k (.k .z)) (.cA (.dk .z)) λa w hI=>?_
   refine mR hI [0,0,1,7,15,0,0,32,224,480,1023,2047] [] [⟨some 2,15,2,(i)*9,True⟩,⟨some 3,16,2,(i)*9+(k)*3,True⟩,⟨some 7,20,3,(i)*9,True⟩,⟨some 8,21,3,(i)*9+(k)*3,True⟩] [Uc 0 13 _,Uc 1 14 _,Uc 4 17 _,Uc 5 18 _,Uc 6 19 _,Uc 9 22 _,Uc 10 23 _,Uc 11 24 _] (.k (.k .z)) (.ah .z) ⟨mv,mv,iA 3 9 i,iB 3 3 k,lV (3*(i)+(k)),mv,mv,iA 3 9 i,iB 3 3 k,lV (3*(i)+(k)),fZ sU,nt,trivial⟩ (.k (.k .z)) (.cA (.bh (.dw .z))) λa w hI=>?_
   refine Cy hI (λt3=>?_) (λt3=>?_)
   ·
    have e1:eqB l m=false:=rK (k:=3*i+k) (by simpa using t3) (by omega)
    refine bf hI 1 [] [] [Uc 0 4 _] (.k (.k .z)) (.ah .z) ⟨mv,trivial⟩ (.k (.k .z)) (.cA (.k .z)) λa w hI=>?_
    refine aL ?_
    refine bj ?_
    refine aB ?_
    refine aB ?_
    refine bj ?_
    refine bj ?_
    refine aB ?_
    refine aB ?_
    refine bj ?_
    refine aB ?_
    exact ck hI rfl (iu (hq:=gw e1.symm))
   ·
    have e2:l.getD (3*i+k) 0=m.getD (3*i+k) 0:=by simpa using t3
    have e4:∀t,t<3*i+(k+1)->l.getD t 0=m.getD t 0:=λt ht=>if hk2:t=3*i+k then hk2▸e2 else hk.2 t (by omega)
    refine aJ ?_
    refine aG ?_
    refine ae ?_
    refine qq hI 2 [] [] [Uc 0 25 _,Uc 1 10 _] (.k (.k .z)) (.kk (.t 1 (.k .z))) ⟨bn,mv,trivial⟩ (.k (.k .z)) (.dI (.dk .z)) λa w hI=>?_
    refine ae ?_
    exact qR (k+1) ⟨by omega,e4⟩ hI ⟨vc,vc,trivial⟩ ⟨gc,gc,gc,trivial⟩ (by omega)
  ·
   have e5:∀t,t<3*(i+1)->l.getD t 0=m.getD t 0:=λt ht=>hk.2 t (by omega)
   refine bO ?_
   refine ak ?_
   refine ak ?_
   refine aH ?_
   refine aG ?_
   refine ae ?_
   refine qq hI 2 [] [] [Uc 0 26 _,Uc 1 7 _] (.k (.k .z)) (.t 1 (.bS .z)) ⟨bn,mv,trivial⟩ (.k (.k .z)) (.bh (.dk .z)) λa w hI=>?_
   refine ae ?_
   exact qR (i+1) ⟨by omega,e5⟩ hI ⟨vc,vc,trivial⟩ ⟨gc,trivial⟩ (by omega)
 ·
  have e3:eqB l m=true:=kQ λt ht=>decide_eq_true (hp.2 t (by omega))
  refine bO ?_
  refine ak ?_
  refine ak ?_
  refine aH ?_
  refine ae ?_
  refine bf hI 1 [] [] [Uc 0 4 _] (.k (.k .z)) (.kk .z) ⟨mv,trivial⟩ (.d (.d .z)) (.lQ .z) λa w hI=>?_
  refine aL ?_
  exact ck hI rfl (iu (hq:=gw e3.symm))
theorem Dx (h:l.length=27/\1<=j):K1 Tryz.prog 27 (pV au j l) (pV au j l):=by
 intro M w0 v0 hM hv0
 have hl:=h.1
 have h1:((l.drop 0).take 9).length=9:=by simp only[List.length_take,List.length_drop]; omega
 have h2:((l.drop 9).take 9).length=9:=by simp only[List.length_take,List.length_drop]; omega
 have h3:((l.drop 18).take 9).length=9:=by simp only[List.length_take,List.length_drop]; omega
 have h4:((l.drop 0).take 9++(l.drop 9).take 9++(l.drop 18).take 9).length=27:=by rw[List.length_append,List.length_append,h1,h2,h3]
 refine om (N:=10) Tryz.func27 rfl rfl rfl hM hv0 λa hI=>?_
 refine bf hI 2 [⟨2,2,some 1,none,.ptr,83,81,true,pv _,[]⟩] [] [Uc 0 1 _] .z (.k .z) ⟨AK 81 true,fB [.r,.r,.r,.r,.r,.r,.r,.r,.r,.r,.r,.r,.r,.r,.r,.r,.r,.r,.r,.r,.r,.r,.r,.r,.r,.r,.r],trivial⟩ (.k .z) (.dk .z) λa w hI=>?_
 refine bf hI 8 [] [] [Uc 0 3 _,Uc 1 4 _,Uc 2 5 _,Uc 3 6 _,Uc 4 7 _,Uc 5 8 _,Uc 6 9 _] (.u none [(7,pv _)] .z) (.k .z) ⟨fW 0 9,ld,fW 9 9,ld,fW 18 9,ld,bdT,dM,trivial⟩ (.s .o .z) (.d8 .z) λa w hI=>?_
 refine aL ?_
 exact ck hI rfl (r7 (hq:=cq (WE hl) (Nat.le_refl _)))
theorem Pj (h:l.length=9/\1<=j/\j<=1000000):K1 Tryz.prog 28 (pV au j l) (pR (j+j+1+j+1+j+1) (S7 l)):=by
 intro M w0 v0 hM hv0
 have hl:=h.1
 refine om (N:=18) Tryz.func28 rfl rfl rfl hM hv0 λa hI=>?_
 refine bf hI 2 [⟨1,1,some 0,none,.ptr,75,27,true,pv _,[]⟩,⟨2,2,some 1,none,.ptr,40,3,true,pv _,[]⟩] [] [] .z (.k .z) ⟨bo,fB [.r],trivial⟩ (.k (.k .z)) (.d .z) λa w hI=>?_
 refine mR hI [0,1,3,0,8,24,63,0,128,384,1023,0,2048,6144,16383,32767] [] [⟨some 0,3,1,0,True⟩,⟨some 1,4,1,0,True⟩,⟨some 3,6,1,9,True⟩,⟨some 4,7,1,12,True⟩,⟨some 7,10,1,0,True⟩,⟨some 8,11,1,3,True⟩,⟨some 11,14,1,9,True⟩,⟨some 12,15,1,9,True⟩] [Uc 2 5 _,Uc 5 8 _,Uc 6 9 _,Uc 9 12 _,Uc 10 13 _,Uc 13 16 _,Uc 14 17 _] (.k (.u none [(15,pv _)] .z)) .z ⟨fa,fa,lV 0,fa,fa,lV 4,fZ ow,fa,fa,lV 1,fZ ow,fa,fa,lV 3,fZ ow,dM,trivial⟩ (.d (.s .o .z)) (.bh (.qy .z)) λa w hI=>?_
 refine aL ?_
 exact ck hI rfl r7
theorem Pg (h:l.length=9/\1<=j/\j<=1000000):K1 Tryz.prog 29 (pV au j l) (pR (j+j+1) (SS l)):=by
 intro M w0 v0 hM hv0
 have hl:=h.1
 refine om (N:=10) Tryz.func29 rfl rfl rfl hM hv0 λa hI=>?_
 refine bf hI 2 [⟨1,1,some 0,none,.ptr,75,27,true,pv _,[]⟩,⟨2,2,some 1,none,.ptr,40,3,true,pv _,[]⟩] [] [] .z (.k .z) ⟨bo,fB [.r],trivial⟩ (.k (.k .z)) (.d .z) λa w hI=>?_
 refine bf hI 8 [] [⟨some 0,3,1,18,True⟩,⟨some 1,4,1,24,True⟩,⟨some 3,6,1,0,True⟩,⟨some 4,7,1,3,True⟩] [Uc 2 5 _,Uc 5 8 _,Uc 6 9 _] (.k (.u none [(7,pv _)] .z)) .z ⟨fa,fa,lV 8,fa,fa,lV 1,fZ sA,dM,trivial⟩ (.d (.s .o .z)) (.qy .z) λa w hI=>?_
 refine aL ?_
 exact ck hI rfl r7
end Wx

namespace Wx
set_option maxRecDepth 100000
set_option maxHeartbeats 1000000
open Go Go.RowKit Go.Proofs
set_option linter.unusedVariables false
attribute [local irreducible] OpOk
variable {L:List (List (Int×Int))}
theorem yq (h:∀k,k<L.length->(L.getD k []).length=16/\∀q,J6 ((L.getD k []).getD q z2)):jQ L.length 64 (λk=>gU (L.getD k [])) where
 m16:=λ_ _=>zH
 j1:=by decide
 bd:=λi q hi=>by
  have hb:∀q,aZ 64 (rN ((L.getD i []).getD q z2)):=λq=>GQ ((h i hi).2 q).1 ((h i hi).2 q).2.1 ((h i hi).2 q).2.2
  refine ud (by decide) (λx hx=>?_) q
  unfold gU at hx
  obtain⟨u,_,rfl⟩:=List.mem_map.1 hx
  exact hb u
variable {n:Nat} {ms:Nat->List Rat} {S:List bK}
theorem KA (hm:jQ n 64 ms) (hn:n<=1000000) (hs:S.length<=1000000):jQ n 64 ms/\64<=100000/\n<=1000000/\S.length<=1000000/\1<=300000/\300000<=10000000/\(lq n ms S=0->∀m t k,m<3->t<9->k<=S.length->aZ 300000 (tT ms S m t k)):=
 ⟨hm,by decide,hn,hs,by decide,by decide,λh m t k _ _ hk=>(DD (mP hm.m16 h) hm m t k hk).mono (by
  have:=(wU h).2
  have h1:k*(28*64+2558)<=64*(28*64+2558):=Nat.mul_le_mul_right _ (by omega)
  exact Nat.le_trans (Nat.add_le_add_left h1 1) (by decide))⟩
theorem jH:(pZ n ms S).length=27:=by
 unfold pZ
 split
 ·exact dS
 ·rfl
theorem DO {L:List Rat} {i:Nat} (h:L.length=27) (hi:i<3):(FX L i).length=9:=by
 simp only[List.length_take,List.length_drop]
 omega
variable {p q:Int}
theorem D7 (h:ic S p q=0):∀w v,Xl (ic S p q) (aA 4 true S.length λi=>cP (ai (cM S p q) i)) w v->aA 4 true (cM S p q).length (λi=>cP (ai (cM S p q) i)) w v:=λw v hv=>by
 rw[eE]
 exact hv.1 h
theorem VT:∀w v,aA 48 true L.length (λk=>I1 (L.getD k [])) w v->aA 48 true L.length (λk=>pV au 64 (gU (L.getD k []))) w v:=λ_ _ h=>h
theorem pl {L:List Rat} (h:L.length=27) (k:Nat) (hk:k<=18):((L.drop k).take 9).length=9:=by
 simp only[List.length_take,List.length_drop]
 omega
theorem R6 (h:∀k,k<L.length->(L.getD k []).length=16/\∀q,J6 ((L.getD k []).getD q z2)):K3 Tryz.prog 4 (aA 32 true L.length λk=>V9 (L.getD k [])) (aA 4 true S.length λi=>cP (ai S i)) (pS [⟨false,1,pI p⟩,⟨false,1,pI q⟩]) (pB true):=by
 intro M w0 v0 v1 v2 hM hv0 eI hv2
 have hlS:=jH (n:=L.length) (ms:=(λk=>gU (L.getD k []))) (S:=S)
 have hlA:=jH (n:=L.length) (ms:=(λk=>gU (L.getD k []))) (S:=(cM S p q))
 have hlU:=jH (n:=L.length) (ms:=(λk=>gU (L.getD k []))) (S:=(cM S 0 1))
 have hlB:=jH (n:=L.length) (ms:=(λk=>gU (L.getD k []))) (S:=(cM (cM S p q) p (-q)))
 refine WJ (N:=218) Tryz.func4 rfl rfl rfl hM hv0 eI hv2 λa hI=>?_
 refine bf hI 2 [⟨5,5,some 0,none,.ptr,66,2,true,pv _,[]⟩] [] [Uc 1 6 _] .z (.bS .z) ⟨bo,mv,trivial⟩ (.k .z) (.sq .z) λa w hI=>?_
 refine az ?_
 refine bf hI 24 [] [⟨some 5,32,5,0,_⟩,⟨some 10,37,5,0,_⟩,⟨some 15,42,5,1,_⟩,⟨some 20,47,5,1,_⟩] [Uc 0 27 _,Uc 1 28 _,Uc 2 29 _,Uc 3 30 _,Uc 4 31 _,Uc 6 33 _,Uc 7 34 _,Uc 8 35 _,Uc 9 36 _,Uc 11 38 _,Uc 12 39 _,Uc 13 40 _,Uc 14 41 _,Uc 16 43 _,Uc 17 44 _,Uc 18 45 _,Uc 19 46 _,Uc 21 48 _,Uc 22 49 _,Uc 23 50 _] (.k .z) (.bS .z) ⟨mv,mv,cb4 (Zt (L:=L) (S:=S) (plies:=8) (most:=1000)) (hφ:=⟨by decide,λk hk=>(h k hk).1⟩),nt,mv,gd λh=>mZ h,gd λh=>Fa h,gd λh=>ya h,pk,mv,gd λh=>mZ h,gd λh=>Fa h,gd λh=>ya h,pk,mv,gd λh=>mZ h,gd λh=>Fa h,gd λh=>ya h,pk,mv,gd λh=>mZ h,gd λh=>Fa h,gd λh=>ya h,pk,trivial⟩ (.k .z) (.cA (.d8 (.d8 (.lQ .z)))) λa w hI=>?_
 refine Cy hI (λt1=>?_) (λt1=>?_)
 ·
  refine bf hI 2 [] [] [Uc 0 51 _,Uc 1 6 _] (.k .z) (.kk (.t 1 (.k .z))) ⟨cb0 Ds,mv,trivial⟩ (.k .z) (.dI (.dk .z)) λa w hI=>?_
  refine aL ?_
  refine aB ?_
  exact ck hI rfl iu
 ·
  simp only[Bool.or_eq_false_iff,Bool.not_eq_false',decide_eq_false_iff_not]at t1
  have hsz:=U2 t1.1.1.1.1
  refine aJ ?_
  refine ae ?_
  refine bf hI 7 [] [] [Uc 0 53 _,Uc 1 54 _,Uc 2 52 _,Uc 3 55 _,Uc 4 56 _,Uc 5 7 _,Uc 6 8 _] (.k .z) (.ah .z) ⟨mv,mS (VQ (L:=L)) (hφ:=⟨by omega,h⟩),mv,ext,ext,mv,mv,trivial⟩ (.k .z) (.Rp (.bh (.dkd .z))) λa w hI=>?_
  have hI:=CN hI 7 (VT)
  refine bf hI 9 [⟨9,9,some 6,none,.ptr,77,81,true,pv _,[(7,pv _)]⟩] [] [Uc 0 58 _,Uc 1 59 _,Uc 2 60 _,Uc 3 57 _,Uc 4 61 _,Uc 5 62 _,Uc 8 10 _] (.k .z) (.ah .z) ⟨mv,mv,pq (Pc (n:=L.length) (j:=64) (J:=300000) (ms:=(λk=>gU (L.getD k []))) (S:=S)) (hφ:=KA (yq h) (by omega) (by omega)),mv,ext,ext,lE 300000 27,gV rfl rfl hs rfl rfl (aY (by kernel_rfl)) (eF (λ_=>cE) (by rw[jH])) (by kernel_rfl),mv,trivial⟩ (.k (.s .o .z)) (.ah (.bh (.lQ .z))) λa w hI=>?_
  refine bf hI 8 [] [] [Uc 0 64 _,Uc 1 65 _,Uc 2 66 _,Uc 3 63 _,Uc 4 67 _,Uc 5 68 _,Uc 6 11 _,Uc 7 12 _] (.k (.k .z)) (.ah (.k .z)) ⟨mv,ld,pq (Iq (S:=S) (p:=p) (q:=q)) (hφ:=by omega),mv,ext,ext,mv,mv,trivial⟩ (.k (.k .z)) (.ah (.dx (.dw (.k .z)))) λa w hI=>?_
  refine az ?_
  refine bf hI 6 [] [] [Uc 0 69 _,Uc 1 70 _,Uc 2 71 _,Uc 3 72 _,Uc 4 73 _,Uc 5 74 _] (.k (.k .z)) (.ah (.bS .z)) ⟨mv,bn,mv,gd λh=>yf h,gd λh=>ya h,pk,trivial⟩ (.k (.k .z)) (.ah (.LC (.bh (.k .z)))) λa w hI=>?_
  refine Cy hI (λt2=>?_) (λt2=>?_)
  ·
   refine bf hI 2 [] [] [Uc 0 75 _,Uc 1 6 _] (.k (.k .z)) (.kk (.t 1 (.bS .z))) ⟨cb0 Ds,mv,trivial⟩ (.k (.k .z)) (.sq (.nh .z)) λa w hI=>?_
   refine aL ?_
   refine aB ?_
   exact ck hI rfl iu
  ·
   simp only[Bool.or_eq_false_iff,decide_eq_false_iff_not,Decidable.not_not]at t2
   have e0:lq L.length (λk=>gU (L.getD k [])) S=0:=t2.1
   have f0:ic S p q=0:=t2.2
   have hA:=p9 e0 f0
   have hU:=p9 e0 (Lc e0)
   refine aJ ?_
   refine ae ?_
   have hI:=CN hI 11 (D7 f0)
   refine bf hI 9 [⟨13,13,some 6,none,.ptr,77,81,true,pv _,[(7,pv _)]⟩] [] [Uc 0 77 _,Uc 1 78 _,Uc 2 79 _,Uc 3 76 _,Uc 4 80 _,Uc 5 81 _,Uc 8 10 _] (.k (.k .z)) (.ah (.bS .z)) ⟨mv,mv,pq (Pc (n:=L.length) (j:=64) (J:=300000) (ms:=(λk=>gU (L.getD k []))) (S:=(cM S p q))) (hφ:=KA (yq h) (by omega) (by rw[eE]; omega)),mv,ext,ext,lE 300000 27,gV rfl rfl hs rfl rfl (aY (by kernel_rfl)) (eF (λ_=>cE) (by rw[jH])) (by kernel_rfl),mv,trivial⟩ (.k (.k (.s .o .z))) (.ah (.dI (.bh (.dk .z)))) λa w hI=>?_
   refine bf hI 8 [] [] [Uc 0 83 _,Uc 1 84 _,Uc 2 85 _,Uc 3 82 _,Uc 4 86 _,Uc 5 87 _,Uc 6 14 _,Uc 7 12 _] (.k (.k (.k .z))) (.ah (.bS .z)) ⟨mv,bd [.o .i,.o .i] [(1,_)],pq (Iq (S:=S) (p:=0) (q:=1)) (hφ:=by omega),mv,ext,ext,mv,mv,trivial⟩ (.k (.k (.k .z))) (.sq (.cA (.bh (.Ok .z)))) λa w hI=>?_
   have hI:=CN hI 14 (D7 (Lc e0))
   refine bf hI 9 [⟨15,15,some 6,none,.ptr,77,81,true,pv _,[(7,pv _)]⟩] [] [Uc 0 89 _,Uc 1 90 _,Uc 2 91 _,Uc 3 88 _,Uc 4 92 _,Uc 5 93 _,Uc 8 16 _] (.k (.k (.k .z))) (.k8 (.k .z)) ⟨mv,mv,pq (Pc (n:=L.length) (j:=64) (J:=300000) (ms:=(λk=>gU (L.getD k []))) (S:=(cM S 0 1))) (hφ:=KA (yq h) (by omega) (by rw[eE]; omega)),mv,ext,ext,lE 300000 27,gV rfl rfl hs rfl rfl (aY (by kernel_rfl)) (eF (λ_=>cE) (by rw[jH])) (by kernel_rfl),mv,trivial⟩ (.k (.k (.k (.s .o .z)))) (.mw (.cA (.dx (.dw .z)))) λa w hI=>?_
   refine az ?_
   have hI:=CN hI 10 (bk hA)
   have hI:=CN hI 12 (bk (Lc e0))
   have hI:=CN hI 16 (bk hU)
   refine bf hI 5 [] [] [Uc 0 94 _,Uc 1 95 _,Uc 2 96 _,Uc 3 97 _,Uc 4 98 _] (.k (.k (.k (.k .z)))) (.k8 (.bS .z)) ⟨mv,mv,mv,FO hs hs hs (pt rfl),bn,trivial⟩ (.k (.k (.k (.k .z)))) (.dw (.ah (.bh (.dw .z)))) λa w hI=>?_
   refine wcF hI (rfl) ?_
   refine aJ ?_
   refine ae ?_
   refine Td [Vz 9 9 77 81 true _,Vz 13 13 77 81 true _,Vz 15 15 77 81 true _] [Uz 6 _] hI ⟨vi,vi,vi,trivial⟩ ⟨gi,trivial⟩ ?_ (λa w hI=>?_)
   ·
    refine bf hI 13 [] [⟨some 1,101,5,0,True⟩,⟨some 3,103,5,1,True⟩] [Uc 0 100 _,Uc 2 102 _,Uc 4 104 _,Uc 5 105 _,Uc 6 106 _,Uc 7 107 _,Uc 8 99 _,Uc 9 108 _,Uc 10 109 _,Uc 11 17 _,Uc 12 18 _] (.k (.k (.k (.k .z)))) (.ah (.kk .z)) ⟨mv,fa,ld,fa,ld,ng,bd [.o .i,.o .i] [(0,_),(1,_)],pq (Iq (S:=(cM S p q)) (p:=p) (q:=(-q))) (hφ:=by rw[eE]; omega),mv,ext,ext,mv,mv,trivial⟩ (.d (.k (.k (.k .z)))) (.mw (.d8 (.dw (.k .z)))) λa w hI=>?_
    refine bf hI 2 [] [] [Uc 0 110 _,Uc 1 111 _] (.k (.k (.k .z))) (.ah (.k .z)) ⟨mv,bn,trivial⟩ (.k (.k (.k .z))) (.ah (.lQ .z)) λa w hI=>?_
    refine mj hI (λt3=>?_) (λt3=>?_)
    ·
     have hB:=Pk e0 f0 t3
     have hBE:lq L.length (λk=>gU (L.getD k [])) (cM (cM S p q) p (-q))=0:=p9 hA t3
     have hI:=CN hI 17 (D7 t3)
     refine bf hI 9 [⟨19,19,some 6,none,.ptr,77,81,true,pv _,[(7,pv _)]⟩] [] [Uc 0 113 _,Uc 1 114 _,Uc 2 115 _,Uc 3 112 _,Uc 4 116 _,Uc 5 117 _,Uc 8 20 _] (.k (.k (.k .z))) (.ah (.kk .z)) ⟨mv,mv,pq (Pc (n:=L.length) (j:=64) (J:=300000) (ms:=(λk=>gU (L.getD k []))) (S:=(cM (cM S p q) p (-q)))) (hφ:=KA (yq h) (by omega) (by rw[eE,eE]; omega)),mv,ext,ext,lE 300000 27,gV rfl rfl hs rfl rfl (aY (by kernel_rfl)) (eF (λ_=>cE) (by rw[jH])) (by kernel_rfl),mv,trivial⟩ (.k (.k (.k (.s .o .z)))) (.Hf (.d8 (.k .z))) λa w hI=>?_
     refine bf hI 26 [] [⟨some 3,121,19,0,_⟩,⟨some 5,123,9,0,_⟩,⟨some 11,129,19,27,_⟩,⟨some 13,131,9,27,_⟩,⟨some 19,137,19,54,_⟩,⟨some 21,139,9,54,_⟩] [Uc 0 118 _,Uc 1 119 _,Uc 2 120 _,Uc 4 122 _,Uc 6 124 _,Uc 7 125 _,Uc 8 126 _,Uc 9 127 _,Uc 10 128 _,Uc 12 130 _,Uc 14 132 _,Uc 15 133 _,Uc 16 134 _,Uc 17 135 _,Uc 18 136 _,Uc 20 138 _,Uc 22 140 _,Uc 23 141 _,Uc 24 142 _,Uc 25 143 _] (.k (.k (.k (.k .z)))) (.kk .z) ⟨mv,bn,mv,gd λh=>mZ h,gd λhc=>lW 0 9 (hcd:=hc) (hp:=pg hc rfl),gd λh=>mZ h,gd λhc=>lW 0 9 (hcd:=hc) (hp:=pg hc rfl),gd λh=>RD h (Dv (l:=((pZ L.length (λk=>gU (L.getD k [])) (cM (cM S p q) p (-q))).drop 0).take 9) (m:=((pZ L.length (λk=>gU (L.getD k [])) S).drop 0).take 9) (j:=300000) (u:=300000)) (hφ:=⟨pl hlB 0 (by decide),pl hlS 0 (by decide)⟩),gd λh=>RF h,pk,mv,gd λh=>mZ h,gd λhc=>lW 9 9 (hcd:=hc) (hp:=pg hc rfl),gd λh=>mZ h,gd λhc=>lW 9 9 (hcd:=hc) (hp:=pg hc rfl),gd λh=>RD h (Dv (l:=((pZ L.length (λk=>gU (L.getD k [])) (cM (cM S p q) p (-q))).drop 9).take 9) (m:=((pZ L.length (λk=>gU (L.getD k [])) S).drop 9).take 9) (j:=300000) (u:=300000)) (hφ:=⟨pl hlB 9 (by decide),pl hlS 9 (by decide)⟩),gd λh=>RF h,pk,mv,gd λh=>mZ h,gd λhc=>lW 18 9 (hcd:=hc) (hp:=pg hc rfl),gd λh=>mZ h,gd λhc=>lW 18 9 (hcd:=hc) (hp:=pg hc rfl),gd λh=>RD h (Dv (l:=((pZ L.length (λk=>gU (L.getD k [])) (cM (cM S p q) p (-q))).drop 18).take 9) (m:=((pZ L.length (λk=>gU (L.getD k [])) S).drop 18).take 9) (j:=300000) (u:=300000)) (hφ:=⟨pl hlB 18 (by decide),pl hlS 18 (by decide)⟩),gd λh=>RF h,pk,trivial⟩ (.k (.k (.k (.d .z)))) (.dx (.d8 (.d8 (.dk .z)))) λa w hI=>?_
     refine Cy hI (λt4=>?_) (λt4=>?_)
     ·exfalso; rw[hB,hBE,y7,y7,y7]at t4; exact Bool.noConfusion t4
     refine aJ ?_
     refine ae ?_
     exact hI.cv ⟨vi,vi,vi,trivial⟩ ⟨gi,trivial⟩
    ·
     refine aJ ?_
     refine ae ?_
     exact hI.cv ⟨vi,vi,vi,trivial⟩ ⟨gi,trivial⟩
   ·
    refine az ?_
    refine bf hI 3 [] [] [Uc 0 144 _,Uc 1 145 _,Uc 2 146 _] (.k (.k (.k .z))) (.k .z) ⟨ld,mS (Dx (l:=pZ L.length (λk=>gU (L.getD k [])) S) (j:=300000)) (hφ:=⟨jH,by decide⟩),mv,trivial⟩ (.d (.k (.k .z))) (.oM .z) λa w hI=>?_
    refine aC ?_
    refine tN [Vz 13 13 77 81 true _,Vz 15 15 77 81 true _] [Uz 145 _] (λ(i:Nat)=>[]) (λ(i:Nat)=>[Uz 146 (pI (i:Int))]) (λ(i:Nat)=>i<=3) (λ(i:Nat)=>3-i) (0) (Nat.zero_le 3) hI ⟨vi,vi,trivial⟩ ⟨gi,gc,trivial⟩ ?_
    intro i a w hi hI
    refine bf hI 1 [] [] [Uc 0 147 _] (.k (.k .z)) (.kk .z) ⟨bn,trivial⟩ (.k (.k .z)) (.bS .z) λa w hI=>?_
    refine az ?_
    refine mj hI (λt5=>?_) (λt5=>?_)
    ·
     have YV:i<3:=by omega
     have h9S:(((pZ L.length (λk=>gU (L.getD k [])) S).drop (i*9)).take 9).length=9:=DO hlS YV
     have h9A:(((pZ L.length (λk=>gU (L.getD k [])) (cM S p q)).drop (i*9)).take 9).length=9:=DO hlA YV
     have h9U:(((pZ L.length (λk=>gU (L.getD k [])) (cM S 0 1)).drop (i*9)).take 9).length=9:=DO hlU YV
     have k1:=R7 e0 f0 YV
     have k2:=VS e0 YV
     refine aJ ?_
     refine ae ?_
     refine az ?_
     refine aC ?_
     refine bf hI 5 [⟨22,22,some 2,none,.ptr,75,27,true,pv _,[(4,pv _)]⟩] [] [Uc 0 148 _,Uc 1 149 _,Uc 3 21 _] (.k (.k .z)) (.bS .z) ⟨mv,iV 3 9 i,lE 300000 9,mv,gV rfl rfl hs rfl rfl (aY (by kernel_rfl)) (eF (λ_=>cE) (by rw[h9S])) (by kernel_rfl),trivial⟩ (.k (.k (.s .o .z))) (.dI (.dk .z)) λa w hI=>?_
     refine mR hI [0,1,0,7,0,19,0,115,0,0,831,2047] [⟨23,23,some 8,none,.ptr,75,27,true,pv _,[(10,pv _)]⟩,⟨24,24,some 9,none,.ptr,75,27,true,pv _,[(11,pv _)]⟩] [] [Uc 0 150 _,Uc 1 151 _,Uc 2 152 _,Uc 3 153 _,Uc 4 154 _,Uc 5 155 _,Uc 6 156 _,Uc 7 157 _] (.k (.k (.k .z))) (.bS .z) ⟨ld,mS (Dx (l:=pZ L.length (λk=>gU (L.getD k [])) (cM S p q)) (j:=300000)) (hφ:=⟨jH,by decide⟩),mv,iV 3 9 i,ld,mS (Dx (l:=pZ L.length (λk=>gU (L.getD k [])) (cM S 0 1)) (j:=300000)) (hφ:=⟨jH,by decide⟩),mv,iV 3 9 i,lE 300000 9,lE 300000 9,gV rfl rfl hs rfl rfl (aY (by kernel_rfl)) (eF (λ_=>cE) (by rw[h9A])) (by kernel_rfl),gV rfl rfl hs rfl rfl (aY (by kernel_rfl)) (eF (λ_=>cE) (by rw[h9U])) (by kernel_rfl),trivial⟩ (.k (.k (.k (.s .o (.s .o .z))))) (.dI (.bh (.qy .z))) λa w hI=>?_
     refine bf hI 1 [] [] [Uc 0 25 _] (.k (.k (.k (.k (.k .z))))) (.kk .z) ⟨mv,trivial⟩ (.k (.k (.k (.k (.k .z))))) (.bS .z) λa w hI=>?_
     refine bf hI 1 [] [] [Uc 0 26 _] (.k (.k (.k (.k (.k .z))))) (.bS .z) ⟨mv,trivial⟩ (.k (.k (.k (.k (.k .z))))) (.ah .z) λa w hI=>?_
     refine mR hI [0,0,3,0,0,31,63,127,255,511,511,2047,511,511,16383,32767,65535,131071,262143,524287,1048575,2097151,524287,4718591,13107199,33554431,67108863,134217727,268435455,536870911,1073741823,2147483647,536870911,4831838207,13421772799,34359738367,68719476735,137438953471,274877906943,549755813887,1099511627775,2199023255551,549755813887,4947802324991,13743895347199,35184372088831,70368744177663,140737488355327,281474976710655,562949953421311,1125899906842623,2251799813685247,562949953421311,5066549580791807,14073748835532799,36028797018963967,72057594037927935,144115188075855871] [] [⟨some 19,177,22,0,_⟩,⟨some 20,178,22,0,_⟩,⟨some 22,180,24,9,_⟩,⟨some 23,181,24,12,_⟩,⟨some 29,187,22,9,_⟩,⟨some 30,188,22,12,_⟩,⟨some 32,190,24,0,_⟩,⟨some 33,191,24,0,_⟩,⟨some 39,197,22,0,_⟩,⟨some 40,198,22,3,_⟩,⟨some 42,200,24,0,_⟩,⟨some 43,201,24,3,_⟩,⟨some 49,207,22,18,_⟩,⟨some 50,208,22,24,_⟩,⟨some 52,210,24,18,_⟩,⟨some 53,211,24,24,_⟩] [Uc 0 158 _,Uc 1 159 _,Uc 2 160 _,Uc 3 161 _,Uc 4 162 _,Uc 5 163 _,Uc 6 164 _,Uc 7 165 _,Uc 8 166 _,Uc 9 167 _,Uc 10 168 _,Uc 11 169 _,Uc 12 170 _,Uc 13 171 _,Uc 14 172 _,Uc 15 173 _,Uc 16 174 _,Uc 17 175 _,Uc 18 176 _,Uc 21 179 _,Uc 24 182 _,Uc 25 183 _,Uc 26 184 _,Uc 27 185 _,Uc 28 186 _,Uc 31 189 _,Uc 34 192 _,Uc 35 193 _,Uc 36 194 _,Uc 37 195 _,Uc 38 196 _,Uc 41 199 _,Uc 44 202 _,Uc 45 203 _,Uc 46 204 _,Uc 47 205 _,Uc 48 206 _,Uc 51 209 _,Uc 54 212 _,Uc 55 213 _,Uc 56 214 _,Uc 57 215 _] (.k (.k (.k (.k (.k .z))))) (.ah .z) ⟨mv,ld,XP (Pj (l:=FX (pZ L.length (λk=>gU (L.getD k [])) S) i) (j:=300000)) (hφ:=⟨h9S,by decide,by decide⟩),mv,ld,XP (Pj (l:=FX (pZ L.length (λk=>gU (L.getD k [])) (cM S p q)) i) (j:=300000)) (hφ:=⟨h9A,by decide,by decide⟩),fZ sU,nt,mv,gd λh=>yf h,gd λh=>Fa h,gd λhc=>U6 hc (Pg (l:=FX (pZ L.length (λk=>gU (L.getD k [])) S) i) (j:=300000)) (hφ:=⟨h9S,by decide,by decide⟩),gd λh=>yf h,gd λh=>Fa h,gd λhc=>U6 hc (Pg (l:=FX (pZ L.length (λk=>gU (L.getD k [])) (cM S p q)) i) (j:=300000)) (hφ:=⟨h9A,by decide,by decide⟩),gd λh=>LL h sU,gd λh=>RF h,pk,mv,gd λh=>mZ h,gd λh=>mZ h,gd λhc=>lV 0 (hcd:=hc) (hp:=pg hc rfl),gd λh=>mZ h,gd λh=>mZ h,gd λhc=>lV 4 (hcd:=hc) (hp:=pg hc rfl),gd λh=>LL h sU,gd λh=>RF h,pk,mv,gd λh=>mZ h,gd λh=>mZ h,gd λhc=>lV 4 (hcd:=hc) (hp:=pg hc rfl),gd λh=>mZ h,gd λh=>mZ h,gd λhc=>lV 0 (hcd:=hc) (hp:=pg hc rfl),gd λh=>LL h sU,gd λh=>RF h,pk,mv,gd λh=>mZ h,gd λh=>mZ h,gd λhc=>lV 1 (hcd:=hc) (hp:=pg hc rfl),gd λh=>mZ h,gd λh=>mZ h,gd λhc=>lV 1 (hcd:=hc) (hp:=pg hc rfl),gd λh=>LL h sU,gd λh=>RF h,pk,mv,gd λh=>mZ h,gd λh=>mZ h,gd λhc=>lV 8 (hcd:=hc) (hp:=pg hc rfl),gd λh=>mZ h,gd λh=>mZ h,gd λhc=>lV 8 (hcd:=hc) (hp:=pg hc rfl),gd λh=>LL h sU,gd λh=>RF h,pk,trivial⟩ (.k (.k (.d (.d (.d .z))))) (.dI (.d8 (.d8 (.d8 (.d8 (.d8 (.dk .z))))))) λa w hI=>?_
     refine Cy hI (λt6=>?_) (λt6=>?_)
     ·exfalso; rw[decide_eq_true k1.1,decide_eq_true k1.2,decide_eq_true k2.1,decide_eq_true k2.2.1,decide_eq_true k2.2.2.1,decide_eq_true k2.2.2.2]at t6; exact Bool.noConfusion t6
     refine aJ ?_
     refine aG ?_
     refine ae ?_
     refine qq hI 2 [] [] [Uc 0 216 _,Uc 1 146 _] (.k (.k .z)) (.k (.t 1 (.k .z))) ⟨bn,mv,trivial⟩ (.k (.k .z)) (.dx (.k .z)) λa w hI=>?_
     refine ae ?_
     exact qR (i+1) (by omega) hI ⟨vc,vc,trivial⟩ ⟨gc,gc,trivial⟩ (by omega)
    ·
     refine bO ?_
     refine ak ?_
     refine ak ?_
     refine aH ?_
     refine ae ?_
     refine bf hI 2 [] [] [Uc 0 217 _,Uc 1 6 _] (.k (.k .z)) (.bS .z) ⟨cb0 Ds,mv,trivial⟩ (.d (.d .z)) (.bh (.k .z)) λa w hI=>?_
     refine aL ?_
     exact ck hI rfl iu
end Wx
