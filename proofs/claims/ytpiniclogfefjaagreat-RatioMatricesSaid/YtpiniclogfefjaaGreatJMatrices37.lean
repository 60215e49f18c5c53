import Derived.Test.YtpiniclogfefjaaGreatJMatrices36
import Derived.Test.YtpiniclogfefjaaGreatJMatrices35
namespace Wx

open Classical in
noncomputable def chk (X:List (List Rat)):Int:=if Right X then 0 else 4
theorem Up {X:List (List Rat)} (h:Right X):chk X=0:=if_pos h
theorem Qbh {X:List (List Rat)} (h:¬Right X):chk X=4:=if_neg h
open Classical in
noncomputable def Kv (X:List (List Rat)):Int:=if Right X∧X.length=(X.getD 0 []).length then 0 else 4
theorem Qa5 {X:List (List Rat)} (h:Right X) (h2:X.length=(X.getD 0 []).length):Kv X=0:=if_pos ⟨h,h2⟩
theorem Qa4 {X:List (List Rat)} (h:¬(Right X∧X.length=(X.getD 0 []).length)):Kv X=4:=if_neg h
def rowBad (X:List (List Rat)) (k:Nat):Bool:=((decide (((X.getD k []).length:Int)<1)||decide (((X.getD k []).length:Int)>8))||(((X.getD k []).length:Int) != ((X.getD 0 []).length:Int)))
def numBad (X:List (List Rat)):Bool:=(decide ((X.length:Int)<1)||decide ((X.length:Int)>8))
theorem Qcy {X:List (List Rat)}:numBad X=false↔0<X.length∧X.length≤8:=by
 unfold numBad
 simp only[Bool.or_eq_false_iff,decide_eq_false_iff_not]
 omega
theorem Qc4 {X:List (List Rat)} {k:Nat}:rowBad X k=false↔(0<(X.getD k []).length∧(X.getD k []).length≤8)∧(X.getD k []).length=(X.getD 0 []).length:=by
 unfold rowBad
 simp only[Bool.or_eq_false_iff,decide_eq_false_iff_not,bne_eq_false_iff_eq]
 omega
theorem wr_num {X:List (List Rat)} (h:numBad X=true):chk X=4:=Qbh fun hR=>by rw[Qcy.2 hR.rows]at h; cases h
theorem wr_row {X:List (List Rat)} {k:Nat} (hk:k<X.length) (h:rowBad X k=true):chk X=4:=Qbh fun hR=>by
 have e:=hR.rect k hk
 rw[Qc4.2 ⟨by rw[e]; exact hR.cols,e⟩]at h
 cases h
theorem wr_ok {X:List (List Rat)} (h:numBad X=false) (h2:∀k,k<X.length→rowBad X k=false):chk X=0:=by
 have h1:=Qcy.1 h
 refine Up ⟨h1,(Qc4.1 (h2 0 h1.1)).1,fun i hi=>(Qc4.1 (h2 i hi)).2⟩
def SqOk (A:List (List Rat)):Prop:=Right A∧A.length=(A.getD 0 []).length
theorem SqOk.rect {A:List (List Rat)} (h:SqOk A):Rect A.length A:=fun i hi=>(h.1.rect i hi).trans h.2.symm
def qIn (A:List (List Rat)) (x:List Rat) (i:Nat) (s:Rat):Nat→Rat
 |0=>s
 |k+1=>qIn A x i s k+x.getD i 0*((A.getD i []).getD k 0*x.getD k 0)
def qOut (A:List (List Rat)) (x:List Rat) (n:Nat):Nat→Rat
 |0=>0
 |i+1=>qIn A x i (qOut A x n i) n
def qSum (A:List (List Rat)) (x:List Rat) (n:Nat):Nat→Rat
 |0=>0
 |i+1=>qSum A x n i+x.getD i 0*Jy (A.getD i []) x n
theorem qIn_eq (A:List (List Rat)) (x:List Rat) (i:Nat) (s:Rat):∀k,qIn A x i s k=s+x.getD i 0*Jy (A.getD i []) x k
 |0=>by show s=s+_*0; grind
 |k+1=>by
  show qIn A x i s k+_=s+_*(Jy (A.getD i []) x k+_)
  rw[qIn_eq A x i s k]
  grind
theorem qOut_eq (A:List (List Rat)) (x:List Rat) (n:Nat):∀i,qOut A x n i=qSum A x n i
 |0=>rfl
 |i+1=>by
  show qIn A x i (qOut A x n i) n=_
  rw[qIn_eq,qOut_eq A x n i]
  rfl
theorem bd_qIn {A:List (List Rat)} {x:List Rat} {i j jx J:Nat} {s:Rat} (hs:BdR J s) (hA:BdX j A) (hx:∀k,BdR jx (x.getD k 0)):∀k,BdR (J+k*(jx+(j+jx)+1)) (qIn A x i s k)
 |0=>by rw[Nat.zero_mul]; exact hs
 |k+1=>((bd_qIn hs hA hx k).add_t ((hx i).mul ((hA i k).mul (hx k)))).mono (by rw[Nat.succ_mul]; omega)
theorem bd_qOut {A:List (List Rat)} {x:List Rat} {n j jx:Nat} (hA:BdX j A) (hx:∀k,BdR jx (x.getD k 0)):∀i,BdR (1+i*(n*(jx+(j+jx)+1))) (qOut A x n i)
 |0=>by rw[Nat.zero_mul]; exact bd_zero
 |i+1=>(bd_qIn (bd_qOut hA hx i) hA hx n).mono (by rw[Nat.succ_mul]; omega)
theorem qn_bits {n i k J:Nat} (hn:n<5) (hi:i<n) (hk:k<n) (hJ:J≤100000):1+i*(n*(J+1))+k*(J+1)+J+(1+i*(n*(J+1))+k*(J+1))+J+1≤10000000:=by
 have h1:=Nat.mul_le_mul (show i≤3 by omega) (Nat.mul_le_mul_right (J+1) (show n≤4 by omega))
 have h2:=Nat.mul_le_mul_right (J+1) (show k≤3 by omega)
 omega
theorem bd_qSum {A:List (List Rat)} {x:List Rat} {n j jx:Nat} (hA:BdX j A) (hx:∀k,BdR jx (x.getD k 0)) (i:Nat):BdR (1+i*(n*(jx+(j+jx)+1))) (qSum A x n i):=by rw[← qOut_eq]; exact bd_qOut hA hx i
end Wx

namespace Wx
open Go Go.RowKit Go.Proofs

def Wp (q:Rat):It:=⟨Qz q,Yo q⟩
def sT (A B:List (List Rat)) (i k:Nat):Nat→Rat
 |0=>0
 |j+1=>sT A B i k j+(A.getD i []).getD j 0*(B.getD j []).getD k 0
open Classical in
noncomputable def tF (A B:List (List Rat)) (i0 k0 j0:Nat):Nat→Nat→It:=fun i k=>Wp (if i<i0∨(i=i0∧k<k0)then sT A B i k B.length else if i=i0∧k=k0 then sT A B i k j0 else 0)
section
variable {A B:List (List Rat)} {i0 k0 j0:Nat}
theorem tF_at:tF A B i0 k0 j0 i0 k0=Wp (sT A B i0 k0 j0):=by
 unfold tF
 rw[if_neg (by omega),if_pos ⟨rfl,rfl⟩]
theorem tF_step:setC (tF A B i0 k0 j0) i0 k0 (Wp (sT A B i0 k0 j0+(A.getD i0 []).getD j0 0*(B.getD j0 []).getD k0 0))=tF A B i0 k0 (j0+1):=by
 funext i k
 unfold setC
 by_cases h:i=i0∧k=k0
 ·obtain⟨rfl,rfl⟩:=h
  rw[if_pos ⟨rfl,rfl⟩,tF_at]
  rfl
 ·rw[if_neg h]
  unfold tF
  rw[if_neg h,if_neg h]
theorem tF_next:tF A B i0 k0 B.length=tF A B i0 (k0+1) 0:=by
 funext i k
 unfold tF
 congr 1
 by_cases h:i=i0∧k=k0
 ·obtain⟨rfl,rfl⟩:=h
  rw[if_neg (by omega),if_pos ⟨rfl,rfl⟩,if_pos (by omega)]
 ·rw[if_neg h]
  by_cases h1:i<i0∨(i=i0∧k<k0)
  ·rw[if_pos h1,if_pos (by omega)]
  ·rw[if_neg h1,if_neg (by omega)]
   split<;>rfl
theorem tF_row {p:Nat} (i:Nat):Zr p (tF A B i0 p 0) i=Zr p (tF A B (i0+1) 0 0) i:=Qbf fun k hk=>by
 unfold tF
 congr 1
 by_cases h1:i<i0∨(i=i0∧k<p)
 ·rw[if_pos h1,if_pos (by omega)]
 ·rw[if_neg h1,if_neg (by omega),if_neg (by omega)]
  split<;>rfl
theorem tF_zero {p:Nat} (i:Nat):Zr p (fun _ _=>Wp 0) i=Zr p (tF A B 0 0 0) i:=Qbf fun k _=>by
 unfold tF
 congr 1
 rw[if_neg (by omega)]
 split<;>rfl
end
theorem grid_refs {n p:Nat} {f:Nat→Nat→It} {M:List (List Rat)} (hM:∀i,i<n→(M.getD i []).length=p) (hf:∀i k,i<n→k<p→f i k=Wp ((M.getD i []).getD k 0)):∀w v,Qj 1 false n (fun i=>Qj 3 true (Zr p f i).length fun k=>((Zr p f i).getD k W4).p) w v→Qj 1 false n (fun i=>Qg (M.getD i [])) w v:=
 Qbl rfl fun i hi w v h=>by
  rw[pRefs_len (hM i hi)]
  rw[K0]at h
  exact Qbl rfl (fun k hk w v h=>by rw[rectX_getD hk,hf i k hi hk]at h; exact h) w v h
theorem sT_dot {A B:List (List Rat)} {i k:Nat}:∀j,j≤B.length→sT A B i k j=Jy (A.getD i []) (Ve B k) j
 |0,_=>rfl
 |j+1,h=>by
  show sT A B i k j+_=Jy _ _ j+_
  rw[sT_dot j (by omega),Qbi (by omega)]
open Classical in
noncomputable def Wh (A B:List (List Rat)):Int:=if(Right A∧Right B)∧B.length=(A.getD 0 []).length then 0 else 4
open Classical in
noncomputable def Zl (A B:List (List Rat)):List (List Rat):=if(Right A∧Right B)∧B.length=(A.getD 0 []).length then Ko A (Xu B)else[]
open Classical in
noncomputable def Zn (A:List (List Rat)):List (List Rat):=if Right A then Xu A else[]
def uF (A:List (List Rat)) (i0 k0:Nat):Nat→Nat→It:=fun k i=>Wp (if i<i0∨(i=i0∧k<k0)then(A.getD i []).getD k 0 else 0)
section
variable {A:List (List Rat)} {i0 k0:Nat}
theorem uF_step:setC (uF A i0 k0) k0 i0 (Wp ((A.getD i0 []).getD k0 0))=uF A i0 (k0+1):=by
 funext k i
 unfold setC uF
 by_cases h:k=k0∧i=i0
 ·obtain⟨rfl,rfl⟩:=h
  rw[if_pos ⟨rfl,rfl⟩,if_pos (by omega)]
 ·rw[if_neg h]
  congr 1
  by_cases h1:i<i0∨(i=i0∧k<k0)
  ·rw[if_pos h1,if_pos (by omega)]
  ·rw[if_neg h1,if_neg (by omega)]
theorem uF_row {n m:Nat} (k:Nat) (hk:k<m):Zr n (uF A i0 m) k=Zr n (uF A (i0+1) 0) k:=Qbf fun i _=>by
 unfold uF
 congr 1
 by_cases h1:i<i0∨(i=i0∧k<m)
 ·rw[if_pos h1,if_pos (by omega)]
 ·rw[if_neg h1,if_neg (by omega)]
theorem uF_zero {n:Nat} (k:Nat):Zr n (fun _ _=>Wp 0) k=Zr n (uF A 0 0) k:=Qbf fun i _=>by
 unfold uF
 congr 1
 rw[if_neg (by omega)]
end
end Wx

namespace Wx

section
variable {X:List (List Rat)} {n m k:Nat}
end
end Wx

namespace Wx

theorem sumN_head (n:Nat) (f:Nat→Rat):Xy (n+1) f=f 0+Xy n fun i=>f (i+1):=by
 rw[sumN_skp (p:=0) (by omega)]
 rfl
theorem sgn_two (i:Nat):W9 (i+2)=W9 i:=by show -(-(W9 i))=W9 i; grind
theorem det_last:∀(m:Nat) (M:Jz),Ym (m+1) M=Xy (m+1) fun q=>W9 (m+q)*M m q*Ym m fun r c=>M r (Zo q c)
 |0,M=>by
  show Xy 1 _=Xy 1 _
  simp[Xy,Ym,W9]
 |m+1,M=>by
  show Xy (m+2) _=_
  rw[sumN_head (m+1) fun q=>W9 (m+1+q)*M (m+1) q*Ym (m+1) fun r c=>M r (Zo q c)]
  show Xy (m+1) (fun i=>W9 i*M i 0*Ym (m+1) (J3 M i))+W9 (m+1)*M (m+1) 0*Ym (m+1) (J3 M (m+1))=_
  have e1:Ym (m+1) (J3 M (m+1))=Ym (m+1) fun r c=>M r (Zo 0 c):=Jf fun r c hr _=>by
   show M (Zo (m+1) r) (c+1)=M r (Zo 0 c)
   rw[show Zo (m+1) r=r from if_pos hr,show Zo 0 c=c+1 from if_neg (Nat.not_lt_zero _)]
  have e2:Xy (m+1) (fun i=>W9 i*M i 0*Ym (m+1) (J3 M i))=Xy (m+1) fun i=>Xy (m+1) fun q=>(W9 i*M i 0)*(W9 (m+q)*M (m+1) (q+1)*Ym m fun r c=>M (Zo i r) (Zo q c+1)):=Y1 fun i hi=>by
   rw[det_last m (J3 M i),V8]
   congr 1
   refine Y1 fun q _=>?_
   show W9 (m+q)*M (Zo i m) (q+1)*_=_
   rw[show Zo i m=m+1 from if_neg (by omega)]
   rfl
  have e3:∀q,q<m+1→W9 (m+1+(q+1))*M (m+1) (q+1)*(Ym (m+1) fun r c=>M r (Zo (q+1) c))=Xy (m+1) fun i=>(W9 i*M i 0)*(W9 (m+q)*M (m+1) (q+1)*Ym m fun r c=>M (Zo i r) (Zo q c+1)):=fun q _=>by
   have e4:(Ym (m+1) fun r c=>M r (Zo (q+1) c))=Xy (m+1) fun i=>W9 i*M i 0*Ym m fun r c=>M (Zo i r) (Zo q c+1):=by
    show Xy (m+1) _=_
    refine Y1 fun i _=>?_
    show W9 i*M i (Zo (q+1) 0)*Ym m _=_
    rw[show Zo (q+1) 0=0 from if_pos (Nat.succ_pos _)]
    congr 1
    refine Jf fun r c _ _=>?_
    show M (Zo i r) (Zo (q+1) (c+1))=_
    congr 1
    unfold Zo
    by_cases h:c<q
    ·rw[if_pos (by omega),if_pos h]
    ·rw[if_neg (by omega),if_neg h]
   rw[e4,show m+1+(q+1)=(m+q)+2 by omega,sgn_two,← V8]
   exact Y1 fun i _=>by grind
  rw[e1,e2,sumN_swap,Y1 e3]
  grind
def Ja (s k:Nat):Nat:=s/2^k%2
def Yc (s:Nat):Nat→Nat
 |0=>0
 |k+1=>Yc s k+Ja s k
def Wg (s:Nat):Nat→List Nat
 |0=>[]
 |k+1=>if Ja s k=0 then Wg s k else Wg s k++[k]
section
variable (A:List (List Rat)) (D:Nat→Rat) (n s:Nat)
def Ui (k:Nat):Rat:=if(Yc s n-1+Yc s k)%2=1 then -((A.getD (Yc s n-1) []).getD k 0*D (s-2^k))else(A.getD (Yc s n-1) []).getD k 0*D (s-2^k)
def Ks:Nat→Rat
 |0=>0
 |k+1=>if Ja s k=0 then Ks k else Ks k+Ui A D n s k
end
def mL (A:List (List Rat)) (n:Nat):Nat→List Rat
 |0=>[]
 |s+1=>mL A n s++[if s=0 then 1 else Ks A (fun i=>(mL A n s).getD i 0) n s n]
def mD (A:List (List Rat)) (n s:Nat):Rat:=(mL A n (s+1)).getD s 0
theorem mL_len (A:List (List Rat)) (n:Nat):∀s,(mL A n s).length=s
 |0=>rfl
 |s+1=>by rw[mL,List.length_append,mL_len A n s]; rfl
theorem mL_get (A:List (List Rat)) (n:Nat):∀{t i:Nat},i<t→(mL A n t).getD i 0=mD A n i
 |t+1,i,h=>by
  by_cases e:i=t
  ·subst e; rfl
  ·have hi:i<t:=by omega
   rw[mL,List.getD_eq_getElem?_getD,List.getElem?_append_left (by rw[mL_len]; exact hi),← List.getD_eq_getElem?_getD]
   exact mL_get A n hi
theorem mD_zero (A:List (List Rat)) (n:Nat):mD A n 0=1:=rfl
theorem bit_le {s k:Nat} (h:Ja s k≠0):2^k≤s:=by
 rcases Nat.lt_or_ge s (2^k)with h'|h'
 ·exact absurd (by unfold Ja; rw[Nat.div_eq_of_lt h']) h
 ·exact h'
theorem mSum_congr {A:List (List Rat)} {D D':Nat→Rat} {n s:Nat} (h:∀i,i<s→D i=D' i):∀k,Ks A D n s k=Ks A D' n s k
 |0=>rfl
 |k+1=>by
  unfold Ks
  rw[mSum_congr h k]
  split
  ·rfl
  ·rename_i hb
   have:=bit_le hb
   have:=Nat.two_pow_pos k
   unfold Ui
   rw[h (s-2^k) (by omega)]
theorem mD_eq (A:List (List Rat)) (n:Nat) {s:Nat} (h:s≠0):mD A n s=Ks A (mD A n) n s n:=by
 unfold mD
 rw[mL,List.getD_eq_getElem?_getD,List.getElem?_append_right (by rw[mL_len]; exact Nat.le_refl _),mL_len,Nat.sub_self]
 show(if s=0 then 1 else _)=_
 rw[if_neg h]
 exact mSum_congr (fun i hi=>mL_get A n hi) n
theorem cols_f1:∀n,n<5→∀s,s<2^n→∀k,k<n+1→(Wg s k).length=Yc s k∧Yc s k≤Yc s n:=by decide +kernel
theorem cols_f2:∀n,n<5→∀s,s<2^n→∀k,k<n→Ja s k=0∨(Ja s k=1∧Yc s k<Yc s n∧(Wg s n).getD (Yc s k) 0=k):=by decide +kernel
theorem cols_f3:∀n,n<5→∀s,s<2^n→∀k,k<n→Ja s k=0∨(s-2^k<2^n∧Yc (s-2^k) n=Yc s n-1∧Wg (s-2^k) n=(Wg s n).eraseIdx (Yc s k)):=by decide +kernel
theorem Kq (n:Nat) (hn:n<5) (s:Nat) (hs:s<2^n):(Wg s n).length=Yc s n∧∀k,k<n→(Wg s k).length=Yc s k∧Yc s k≤Yc s n∧(Ja s k≠0→Ja s k=1∧Yc s k<Yc s n∧(Wg s n).getD (Yc s k) 0=k∧s-2^k<2^n∧Yc (s-2^k) n=Yc s n-1∧Wg (s-2^k) n=(Wg s n).eraseIdx (Yc s k)):=
 ⟨(cols_f1 n hn s hs n (by omega)).1,fun k hk=>⟨(cols_f1 n hn s hs k (by omega)).1,(cols_f1 n hn s hs k (by omega)).2,fun hb=>by
  obtain⟨a1,a2,a3⟩:=(cols_f2 n hn s hs k hk).resolve_left hb
  obtain⟨b1,b2,b3⟩:=(cols_f3 n hn s hs k hk).resolve_left hb
  exact⟨a1,a2,a3,b1,b2,b3⟩⟩⟩
theorem pc_pos':∀n,n<5→∀s,s<2^n→s=0∨0<Yc s n:=by decide +kernel
theorem pc_pos (n:Nat) (hn:n<5) (s:Nat) (hs:s<2^n) (h:s≠0):0<Yc s n:=(pc_pos' n hn s hs).resolve_left h
theorem pc_le:∀n,n<5→∀s,s<2^n→Yc s n≤n:=by decide +kernel
theorem pc_full:∀n,n<5→Yc (2^n-1) n=n∧Wg (2^n-1) n=List.range n:=by decide +kernel
def dC (A:List (List Rat)) (l:List Nat):Rat:=Ym l.length fun r q=>(A.getD r []).getD (l.getD q 0) 0
theorem erase_get {l:List Nat} {p c:Nat}:(l.eraseIdx p).getD c 0=l.getD (Zo p c) 0:=by
 rw[List.getD_eq_getElem?_getD,List.getElem?_eraseIdx,List.getD_eq_getElem?_getD]
 unfold Zo
 split<;>rfl
theorem sgn_par:∀i,W9 i=if i%2=1 then -1 else 1
 |0=>rfl
 |i+1=>by
  show -(W9 i)=_
  rw[sgn_par i]
  by_cases h:i%2=1
  ·rw[if_pos h,if_neg (by omega)]; grind
  ·rw[if_neg h,if_pos (by omega)]
theorem mSum_cols {A:List (List Rat)} {D:Nat→Rat} {n s:Nat} (hn:n<5) (hs:s<2^n):∀k,k≤n→Ks A D n s k=Xy (Yc s k) fun p=>W9 (Yc s n-1+p)*(A.getD (Yc s n-1) []).getD ((Wg s n).getD p 0) 0*D (s-2^((Wg s n).getD p 0))
 |0,_=>rfl
 |k+1,hk=>by
  have hf:=(Kq n hn s hs).2 k (by omega)
  unfold Ks
  rw[mSum_cols hn hs k (by omega),show Yc s (k+1)=Yc s k+Ja s k from rfl]
  by_cases hb:Ja s k=0
  ·rw[if_pos hb,hb,Nat.add_zero]
  ·obtain⟨h1,h2,h3,_⟩:=hf.2.2 hb
   rw[if_neg hb,h1]
   show _=Xy (Yc s k) _+_
   congr 1
   show Ui A D n s k=W9 (Yc s n-1+Yc s k)*(A.getD (Yc s n-1) []).getD ((Wg s n).getD (Yc s k) 0) 0*D (s-2^((Wg s n).getD (Yc s k) 0))
   rw[h3]
   unfold Ui
   rw[sgn_par]
   split<;>grind
theorem mD_det {A:List (List Rat)} {n:Nat} (hn:n<5):∀m s,s<2^n→Yc s n=m→mD A n s=dC A (Wg s n)
 |0,s,hs,hp=>by
  have:s=0:=by
   rcases Nat.eq_zero_or_pos s with h|h
   ·exact h
   ·have:=pc_pos n hn s hs (by omega)
    omega
  subst this
  rw[mD_zero]
  unfold dC
  rw[(Kq n hn 0 hs).1,hp]
  rfl
 |m+1,s,hs,hp=>by
  have h0:s≠0:=fun e=>by
   subst e
   have h2:∀k,Yc 0 k=0:=fun k=>by
    induction k with
    |zero=>rfl
    |succ k ih=>unfold Yc; rw[ih]; unfold Ja; simp
   rw[h2]at hp
   omega
  rw[mD_eq A n h0,mSum_cols hn hs n (Nat.le_refl _),hp]
  unfold dC
  rw[(Kq n hn s hs).1,hp,det_last]
  refine Y1 fun p hpm=>?_
  have hk:∃k,k<n∧Ja s k≠0∧Yc s k=p:=by
   have key:∀j,j≤n→p<Yc s j→∃k,k<j∧Ja s k≠0∧Yc s k=p:=by
    intro j
    induction j with
    |zero=>intro _ h; exact absurd h (Nat.not_lt_zero _)
    |succ j ih=>
     intro hj h
     by_cases hb:p<Yc s j
     ·obtain⟨k,h1,h2⟩:=ih (by omega) hb
      exact⟨k,by omega,h2⟩
     ·have hbit:Ja s j≠0:=fun e=>by
       have h':p<Yc s j+Ja s j:=h
       rw[e]at h'
       omega
      have h':p<Yc s j+Ja s j:=h
      have:=((Kq n hn s hs).2 j (by omega)).2.2 hbit
      exact⟨j,by omega,hbit,by omega⟩
   exact key n (Nat.le_refl _) (by omega)
  obtain⟨k,hkn,hb,hpk⟩:=hk
  obtain⟨_,_,h3,h4,h5,h6⟩:=((Kq n hn s hs).2 k hkn).2.2 hb
  rw[← hpk,h3,Nat.add_sub_cancel,mD_det hn m (s-2^k) h4 (by omega),h6]
  unfold dC
  have hl:((Wg s n).eraseIdx (Yc s k)).length=m:=by
   rw[← h6,(Kq n hn _ h4).1,h5,hp]
   rfl
  rw[hl]
  congr 1
  exact Jf fun r c _ _=>by rw[erase_get]
theorem minors_det {A:List (List Rat)} {n:Nat} (hn:n<5):mD A n (2^n-1)=Ym n (ent A):=by
 have h2:=Nat.two_pow_pos n
 rw[mD_det hn n (2^n-1) (by omega) (pc_full n hn).1,(pc_full n hn).2]
 unfold dC
 rw[List.length_range]
 refine Jf fun r c _ hc=>?_
 rw[show(List.range n).getD c 0=c by rw[List.getD_eq_getElem?_getD,List.getElem?_range hc]; rfl]
 rfl
theorem bd_one':BdR 1 1:=⟨by unfold Bd; decide,by unfold Bd; decide⟩
theorem bd_mTerm {A:List (List Rat)} {D:Nat→Rat} {n s j k J:Nat} (hA:BdX j A) (hD:BdR J (D (s-2^k))):BdR (j+J) (Ui A D n s k):=by
 unfold Ui
 split
 ·exact((hA _ _).mul hD).neg
 ·exact(hA _ _).mul hD
theorem bd_mSum {A:List (List Rat)} {D:Nat→Rat} {n s j J:Nat} (hA:BdX j A) (hD:∀k,k<n→Ja s k≠0→BdR J (D (s-2^k))):∀k,k≤n→BdR (1+k*(j+J+1)) (Ks A D n s k)
 |0,_=>by rw[Nat.zero_mul]; exact bd_zero
 |k+1,hk=>by
  have ih:=bd_mSum hA hD k (by omega)
  unfold Ks
  split
  ·exact ih.mono (by rw[Nat.succ_mul]; omega)
  ·rename_i hb
   exact(ih.add_t (bd_mTerm hA (hD k (by omega) hb))).mono (by rw[Nat.succ_mul]; omega)
def dBn (j n:Nat):Nat→Nat
 |0=>1
 |m+1=>1+n*(j+dBn j n m+1)
theorem bd_mD {A:List (List Rat)} {n j:Nat} (hn:n<5) (hA:BdX j A):∀m s,s<2^n→Yc s n=m→BdR (dBn j n m) (mD A n s)
 |0,s,hs,hp=>by
  have:s=0:=by
   rcases Nat.eq_zero_or_pos s with h|h
   ·exact h
   ·have:=pc_pos n hn s hs (by omega)
    omega
  subst this
  rw[mD_zero]
  exact bd_one'
 |m+1,s,hs,hp=>by
  by_cases h0:s=0
  ·subst h0
   rw[mD_zero]
   exact bd_one'.mono (by show 1≤1+_; omega)
  ·rw[mD_eq A n h0]
   exact bd_mSum hA (fun k hk hb=>bd_mD hn hA m (s-2^k) (((Kq n hn s hs).2 k hk).2.2 hb).2.2.2.1 (by have:=(((Kq n hn s hs).2 k hk).2.2 hb).2.2.2.2.1; omega)) n (Nat.le_refl _)
theorem dBn_mono {j n:Nat} {a b:Nat} (h:a≤b):dBn j n a≤dBn j n b:=by
 have step:∀m,dBn j n m≤dBn j n (m+1):=by
  intro m
  induction m with
  |zero=>show 1≤1+_; omega
  |succ m ih=>exact Nat.add_le_add_left (Nat.mul_le_mul_left _ (by omega)) _
 induction b with
 |zero=>rw[Nat.le_zero.1 h]; exact Nat.le_refl _
 |succ b ih=>
  rcases Nat.lt_or_ge a (b+1)with h'|h'
  ·exact Nat.le_trans (ih (by omega)) (step b)
  ·rw[show a=b+1 by omega]; exact Nat.le_refl _
theorem dBn_four {j n:Nat} (hn:n<5):dBn j n 4≤400*j+900:=by
 have step:∀m a b,dBn j n m≤a*j+b→dBn j n (m+1)≤(4*(a+1))*j+(4*b+5):=fun m a b h=>by
  show 1+n*(j+dBn j n m+1)≤_
  have h1:=Nat.mul_le_mul_right (j+dBn j n m+1) (show n≤4 by omega)
  have h2:(4*(a+1))*j=4*(a*j)+4*j:=by rw[Nat.mul_assoc,Nat.add_mul,Nat.one_mul,Nat.mul_add]
  omega
 have h0:dBn j n 0≤0*j+1:=by show 1≤0*j+1; omega
 have h1:=step 0 _ _ h0
 have h2:=step 1 _ _ h1
 have h3:=step 2 _ _ h2
 have h4:=step 3 _ _ h3
 refine Nat.le_trans h4 ?_
 have:=Nat.mul_le_mul_right j (show 4*(4*(4*(4*(0+1)+1)+1)+1)≤400 by decide)
 omega
theorem bd_minor {A:List (List Rat)} {n j s:Nat} (hn:n<5) (hA:BdX j A) (hs:s<2^n):BdR (400*j+900) (mD A n s):=
 (bd_mD hn hA _ s hs rfl).mono (Nat.le_trans (dBn_mono (Nat.le_trans (pc_le n hn s hs) (by omega))) (dBn_four hn))
end Wx
