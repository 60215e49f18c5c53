import Derived.Test.YtpiniclogfefjaaGreatJSolves35
import Derived.Test.YtpiniclogfefjaaGreatJSolves36
namespace Wx
open Go Go.RowKit

section
variable {L:List Int} {n f k j:Nat}
theorem Qdt {α:Type} {g:Nat→α} {d:α} {i:Nat} (h:i<n):((List.range n).map g).getD i d=g i:=by
 rw[Xq,List.getElem?_map,List.getElem?_range h]
 rfl
end
theorem BldOk.setItem {g n:Nat} {R:List RowL} {X:List (List Rat)} {H:List Bk} (h:BldOk g n R X H) {i k:Nat} {q:Rat} (hi:i<n) (hk:k<(X.getD i []).length):
  BldOk g n R (X.set i ((X.getD i []).set k q)) (Ye H (Xe R i).b k (itR q)):=by
 have hr0:(Xe R i).n≠0:=by rw[h.num i hi]; omega
 obtain⟨c1,c2,hmem,hoff⟩:=h.rows i hi hr0
 have eX:∀j,(X.set i ((X.getD i []).set k q)).getD j []=if j=i then(X.getD i []).set k q else X.getD j []:=fun j=>K4 (by rw[h.len.2]; exact hi)
 refine⟨Qay h.top (Ne.symm hoff),⟨h.len.1,by rw[List.length_set]; exact h.len.2⟩,fun j hj=>?_,fun j hj hj0=>?_,h.apart⟩
 ·rw[eX,h.num j hj]
  split
  ·rename_i e
   rw[e,List.length_set]
  ·rfl
 ·obtain⟨k1,k2,k3,k4⟩:=h.rows j hj hj0
  refine⟨k1,k2,?_,k4⟩
  rw[eX]
  split
  ·rename_i e
   subst e
   have:=hset_mem (idx:=k) (it:=itR q) hmem rfl
   rw[← Qht hk]
   exact this
  ·rename_i e
   exact Qay k3 (h.apart j i hj hi e hj0 hr0)
theorem Qbq {H:List Bk} {l':List Rat} {r:RowL} (h:AppOk H (.slice none 0 0) [] l' r):r.n=l'.length∧∀e,e∈H→e.b≠r.b:=by
 refine⟨by rw[h.1]; simp,?_⟩
 rcases h.2.2.2 with⟨r',e,_⟩|h'
 ·unfold RowL.hdr at e
  cases e
 ·exact h'
end Wx

namespace Wx
open Go Go.RowKit

def oneR (n i:Nat):List Rat:=(List.range n).map fun k=>if k=i then 1 else 0
def Um (n:Nat):List (List Rat):=(List.range n).map (oneR n)
def oneB (n k:Nat):List (List Rat):=(List.range n).map fun i=>if i<k then oneR n i else[]
section
variable {n k:Nat}
theorem Qe0 {i:Nat}:(oneR n i).length=n:=by unfold oneR; rw[List.length_map,List.length_range]
theorem Qgp:(Um n).length=n:=by unfold Um; rw[List.length_map,List.length_range]
theorem Ux:(oneB n k).length=n:=by unfold oneB; rw[List.length_map,List.length_range]
theorem oneR_get {i q:Nat} (h:q<n):(oneR n i).getD q 0=if q=i then 1 else 0:=Qdt h
theorem Qgo {i:Nat} (h:i<n):(Um n).getD i []=oneR n i:=Qdt h
theorem Qcy {i:Nat} (h:i<n):(oneB n k).getD i []=if i<k then oneR n i else[]:=Qdt h
theorem oneB_zero:oneB n 0=List.replicate n []:=by
 refine Kp (d:=[]) (by rw[Ux,List.length_replicate]) fun i hi=>?_
 rw[Ux]at hi
 rw[Qcy hi,if_neg (Nat.not_lt_zero _),Xq,List.getElem?_replicate,if_pos hi]
 rfl
theorem oneB_end:oneB n n=Um n:=by
 refine Kp (d:=[]) (by rw[Ux,Qgp]) fun i hi=>?_
 rw[Ux]at hi
 rw[Qcy hi,if_pos hi,Qgo hi]
theorem oneR_set {i:Nat} (hi:i<n):(List.replicate n (0:Rat)).set i 1=oneR n i:=by
 refine Kp (d:=0) (by rw[List.length_set,List.length_replicate,Qe0]) fun q hq=>?_
 rw[List.length_set,List.length_replicate]at hq
 rw[K4 (by rw[List.length_replicate]; exact hi),oneR_get hq]
 split
 ·rfl
 ·rw[Xq,List.getElem?_replicate,if_pos hq]
  rfl
theorem oneB_at (hk:k<n):((oneB n k).set k (List.replicate n 0)).getD k []=List.replicate n 0:=by
 rw[K4 (by rw[Ux]; exact hk),if_pos rfl]
theorem oneB_step (hk:k<n):((oneB n k).set k (List.replicate n 0)).set k ((((oneB n k).set k (List.replicate n 0)).getD k []).set k 1)=oneB n (k+1):=by
 rw[oneB_at hk,List.set_set,oneR_set hk]
 refine Kp (d:=[]) (by rw[List.length_set,Ux,Ux]) fun i hi=>?_
 rw[List.length_set,Ux]at hi
 rw[K4 (by rw[Ux]; exact hk),Qcy hi,Qcy hi]
 by_cases e:i=k
 ·rw[if_pos e,if_pos (by omega),e]
 ·rw[if_neg e]
  by_cases h:i<k
  ·rw[if_pos h,if_pos (by omega)]
  ·rw[if_neg h,if_neg (by omega)]
theorem Qam {i:Nat} (hi:i<n):((Um n).getD i []).length=n:=by rw[Qgo hi,Qe0]
theorem oneM_bd {j:Nat} (h1:1≤j):BdX j (Um n):=fun i k=>by
 rcases Nat.lt_or_ge i n with h|h
 ·rw[Qgo h]
  rcases Nat.lt_or_ge k n with h2|h2
  ·rw[oneR_get h2]
   split
   ·exact bd_one1.mono h1
   ·exact bd_zero.mono h1
  ·rw[Zv (by rw[Qe0]; exact h2)]
   exact bd_zero.mono h1
 ·rw[show(Um n).getD i []=[]from Zv (by rw[Qgp]; exact h)]
  exact bd_zero.mono h1
end
end Wx

namespace Wx

theorem Qd9 (x y:List Rat):∀n,Zq x y n=Xp n fun k=>x.getD k 0*y.getD k 0
 |0=>rfl
 |n+1=>by
  show Zq x y n+_=Xp n _+_
  rw[Qd9 x y n]
section
variable {X Y V:List (List Rat)} {n:Nat}
theorem sing_det (hX:X.length=n) (hXr:Rect n X) {B:List (List Rat)} {m:Nat} (hB:∀i,i<n→(B.getD i []).length=m):Qa6 (Y8 X B) X.length↔detG X=0:=by
 rw[hX,gjSing_iff hX hXr hB,(Qbl hX hXr).2.1,(Qbl hX hXr).1]
theorem reg_det (hX:X.length=n) (hXr:Rect n X) (h:detG X≠0):¬dSing X n:=fun hs=>h (by rw[(Qbl hX hXr).1]; exact(Qbl hX hXr).2.1.1 hs)
theorem sol_ok (hX:X.length=n) (hXr:Rect n X) {b:List Rat} (hb:b.length=n) (h:detG X≠0) {r:Nat} (hr:r<n):Zq (X.getD r []) (Jj X b) n=b.getD r 0:=by
 have hB:∀i,i<n→((Z1 b).getD i []).length=1:=fun i hi=>Wv (by omega)
 have key:=(sol_iff hX hXr hB (reg_det hX hXr h) (q:=0) (by omega) (fun k=>(Jj X b).getD k 0)).2 (fun i hi=>by
  unfold Jj
  rw[Ur (by rw[Jx]; omega)]
  rfl) r hr
 rw[Qd9]
 have e:ent (Z1 b) r 0=b.getD r 0:=by
  show((Z1 b).getD r []).getD 0 0=_
  rw[Qek (by omega)]
  rfl
 rw[← e,← key]
 rfl
end
end Wx

namespace Wx
open Go Go.RowKit Go.Proofs

def mF (A:List (List Rat)) (b:List Rat) (i r0 k0:Nat):Nat→Nat→It:=fun r k=>Zr (if r<r0 then(if k=i then b.getD r 0 else(A.getD r []).getD k 0)else if r=r0∧k<k0 then(A.getD r []).getD k 0 else 0)
def Uo (A:List (List Rat)) (b:List Rat) (i:Nat):List (List Rat):=(List.range A.length).map fun r=>(List.range A.length).map fun k=>if k=i then b.getD r 0 else(A.getD r []).getD k 0
section
variable {A:List (List Rat)} {b:List Rat} {i r0 k0:Nat}
theorem mF_zero {n:Nat} (r:Nat):X9 n (fun _ _=>Zr 0) r=X9 n (mF A b i 0 0) r:=W1 fun k _=>by
 unfold mF
 rw[if_neg (by omega),if_neg (by omega)]
theorem mF_step:setC (mF A b i r0 k0) r0 k0 (Zr ((A.getD r0 []).getD k0 0))=mF A b i r0 (k0+1):=by
 funext r k
 unfold setC mF
 by_cases h:r=r0∧k=k0
 ·obtain⟨rfl,rfl⟩:=h
  rw[if_pos ⟨rfl,rfl⟩,if_neg (Nat.lt_irrefl _),if_pos ⟨rfl,Nat.lt_succ_self _⟩]
 ·rw[if_neg h]
  by_cases h1:r<r0
  ·rw[if_pos h1,if_pos h1]
  ·rw[if_neg h1,if_neg h1]
   by_cases h2:r=r0∧k<k0
   ·rw[if_pos h2,if_pos (by omega)]
   ·rw[if_neg h2,if_neg (by omega)]
theorem mF_row {n:Nat} (r:Nat):X9 n (setC (mF A b i r0 n) r0 i (Zr (b.getD r0 0))) r=X9 n (mF A b i (r0+1) 0) r:=W1 fun k hk=>by
 unfold setC mF
 by_cases h:r=r0
 ·subst h
  by_cases hki:k=i
  ·rw[if_pos ⟨rfl,hki⟩,if_pos (Nat.lt_succ_self _),if_pos hki]
  ·rw[if_neg (fun h=>hki h.2),if_neg (Nat.lt_irrefl _),if_pos ⟨rfl,hk⟩,if_pos (Nat.lt_succ_self _),if_neg hki]
 ·rw[if_neg (fun h'=>h h'.1)]
  by_cases h1:r<r0
  ·rw[if_pos h1,if_pos (show r<r0+1 by omega)]
  ·rw[if_neg h1,if_neg (show ¬(r=r0∧k<n) by omega),if_neg (show ¬r<r0+1 by omega),if_neg (show ¬(r=r0+1∧k<0) by omega)]
theorem Qc4:(Uo A b i).length=A.length:=by simp[Uo]
theorem Qgt {r:Nat} (h:r<A.length):(Uo A b i).getD r []=(List.range A.length).map fun k=>if k=i then b.getD r 0 else(A.getD r []).getD k 0:=by
 unfold Uo
 rw[List.getD_eq_getElem?_getD,List.getElem?_map,List.getElem?_range h]
 rfl
theorem repM_get {r k:Nat} (h:r<A.length) (hk:k<A.length):((Uo A b i).getD r []).getD k 0=if k=i then b.getD r 0 else(A.getD r []).getD k 0:=by
 rw[Qgt h,List.getD_eq_getElem?_getD,List.getElem?_map,List.getElem?_range hk]
 rfl
theorem repM_rect:Rect A.length (Uo A b i):=fun r hr=>by
 rw[Qc4]at hr
 rw[Qgt hr]
 simp
theorem mF_fin {r k:Nat} (h:r<A.length) (hk:k<A.length):mF A b i A.length 0 r k=Zr (((Uo A b i).getD r []).getD k 0):=by
 unfold mF
 rw[if_pos h,repM_get h hk]
theorem repM_bd {j:Nat} (hA:BdX j A) (hb:∀k,BdR j (b.getD k 0)) (h1:1≤j):BdX j (Uo A b i):=fun r k=>by
 rcases Nat.lt_or_ge r A.length with h|h
 ·rcases Nat.lt_or_ge k A.length with hk|hk
  ·rw[repM_get h hk]
   split
   ·exact hb _
   ·exact hA _ _
  ·rw[Zv (by rw[Qgt h]; simp; exact hk)]
   exact bd_zero.mono h1
 ·rw[show(Uo A b i).getD r []=[]from Zv (by rw[Qc4]; exact h)]
  exact bd_zero.mono h1
theorem repM_det:Xk A.length (ent (Uo A b i))=Xk A.length (setCol (ent A) i fun r=>b.getD r 0):=Zk fun r c hr hc=>by
 show((Uo A b i).getD r []).getD c 0=_
 rw[repM_get hr hc]
 rfl
theorem cram_sol (hr:Rect A.length A) (hb:b.length=A.length) (hd:Xk A.length (ent A)≠0) (hi:i<A.length):Xk A.length (ent (Uo A b i))/Xk A.length (ent A)=(Jj A b).getD i 0:=by
 have hg:=Qbl rfl hr
 have hd':detG A≠0:=by rw[hg.1]; exact hd
 have hx:∀r,r<A.length→Xp A.length (fun k=>ent A r k*(Jj A b).getD k 0)=b.getD r 0:=fun r h=>by
  rw[← sol_ok rfl hr hb hd' h,Qd9]
  rfl
 rw[repM_det,cramer hi hg.2.2 hx,Rat.mul_comm,Rat.mul_div_cancel hd]
theorem sol_bits {j:Nat} (h:j≤2000):(400*j+900)+(400*j+900)≤10000000:=by omega
end
def eB (n k:Nat):List Rat:=(List.range n).map fun i=>if i=k then 1 else 0
theorem eB_len (n k:Nat):(eB n k).length=n:=by simp[eB]
theorem eB_get {n k i:Nat} (h:i<n):(eB n k).getD i 0=if i=k then 1 else 0:=by
 unfold eB
 rw[List.getD_eq_getElem?_getD,List.getElem?_map,List.getElem?_range h]
 rfl
theorem eB_bd (n k i:Nat):BdR 1 ((eB n k).getD i 0):=by
 rcases Nat.lt_or_ge i n with h|h
 ·rw[eB_get h]
  split
  ·exact bd_one'
  ·exact bd_zero
 ·rw[Zv (by rw[eB_len]; exact h)]
  exact bd_zero
def vF (A:List (List Rat)) (k0 i0:Nat):Nat→Nat→It:=fun i k=>Zr (if k<k0∨(k=k0∧i<i0)then(Jj A (eB A.length k)).getD i 0 else 0)
section
variable {A:List (List Rat)} {k0 i0:Nat}
theorem vF_zero {n:Nat} (i:Nat):X9 n (fun _ _=>Zr 0) i=X9 n (vF A 0 0) i:=W1 fun k _=>by
 unfold vF
 rw[if_neg (by omega)]
theorem vF_step:setC (vF A k0 i0) i0 k0 (Zr ((Jj A (eB A.length k0)).getD i0 0))=vF A k0 (i0+1):=by
 funext i k
 unfold setC vF
 by_cases h:i=i0∧k=k0
 ·obtain⟨rfl,rfl⟩:=h
  rw[if_pos ⟨rfl,rfl⟩,if_pos (by omega)]
 ·rw[if_neg h]
  congr 1
  by_cases h1:k<k0∨(k=k0∧i<i0)
  ·rw[if_pos h1,if_pos (by omega)]
  ·rw[if_neg h1,if_neg (by omega)]
theorem vF_col {n:Nat} (i:Nat) (hi:i<n):∀m,X9 m (vF A k0 n) i=X9 m (vF A (k0+1) 0) i:=fun m=>W1 fun k _=>by
 unfold vF
 congr 1
 by_cases h1:k<k0∨(k=k0∧i<n)
 ·rw[if_pos h1,if_pos (by omega)]
 ·rw[if_neg h1,if_neg (by omega)]
theorem inv_col (hr:Rect A.length A) (hd:Xk A.length (ent A)≠0) {i k:Nat} (hi:i<A.length) (hk:k<A.length):((Wk A (Um A.length)).getD i []).getD k 0=(Jj A (eB A.length k)).getD i 0:=by
 have hg:=Qbl rfl hr
 have hd':detG A≠0:=by rw[hg.1]; exact hd
 have h2:=(sol_iff rfl hr (fun i hi=>Qam (n:=A.length) (by omega)) (reg_det rfl hr hd') (q:=k) hk fun r=>(Jj A (eB A.length k)).getD r 0).1 (fun r h=>by
  have h3:=sol_ok rfl hr (eB_len A.length k) hd' h
  rw[Qd9]at h3
  rw[eB_get h]at h3
  refine h3.trans ?_
  show _=((Um A.length).getD r []).getD k 0
  rw[Qgo h,oneR_get hk]
  by_cases e:r=k
  ·rw[if_pos e,if_pos e.symm]
  ·rw[if_neg e,if_neg (fun e'=>e e'.symm)])
 exact(h2 i hi).symm
theorem vF_fin (hr:Rect A.length A) (hd:Xk A.length (ent A)≠0) {i k:Nat} (hi:i<A.length) (hk:k<A.length):vF A A.length 0 i k=Zr (((Wk A (Um A.length)).getD i []).getD k 0):=by
 unfold vF
 rw[if_pos (by omega),inv_col hr hd hi hk]
end
end Wx

namespace Wx

section
variable {M:List (List Rat)} {b x o:List Rat} {n c:Nat}
end
end Wx

namespace Wx

theorem Qf8 {x y:List Rat} {j1 j2:Nat} (hx:∀k,BdR j1 (x.getD k 0)) (hy:∀k,BdR j2 (y.getD k 0)):∀k,BdR (1+k*(j1+j2+1)) (Zq x y k)
 |0=>by rw[Nat.zero_mul]; exact bd_zero
 |k+1=>((Qf8 hx hy k).add_t ((hx k).mul (hy k))).mono (by rw[Nat.succ_mul]; omega)
theorem mulT_bd_t {A C:List (List Rat)} {j1 j2 n:Nat} (hA:BdX j1 A) (hC:BdX j2 C) (hn:∀i,i<A.length→(A.getD i []).length≤n):BdX (1+n*(j1+j2+1)) (Je A C):=fun i k=>by
 rcases Nat.lt_or_ge i A.length with h|h
 ·rw[Qbo h]
  rcases Nat.lt_or_ge k C.length with h2|h2
  ·rw[Qcl h2]
   exact(Qf8 (hA i) (hC k) _).mono (Nat.add_le_add_left (Nat.mul_le_mul_right _ (hn i h)) _)
  ·rw[Zv (by rw[Qcm]; exact h2)]
   exact bd_zero.mono (by omega)
 ·rw[show(Je A C).getD i []=[]from Zv (by rw[V7]; exact h)]
  exact bd_zero.mono (by omega)
section
variable {A:List (List Rat)} {b:List Rat} {j:Nat}
theorem Qf3:(Kl A b).length=(A.getD 0 []).length:=by
 unfold Kl
 rw[Kh,V7,Yu]
theorem lsB_dot (h0:0<A.length) (hb:b.length=A.length) {i:Nat} (hi:i<(A.getD 0 []).length):(Kl A b).getD i 0=Zq ((Qq A).getD i []) b A.length:=by
 have h1:((Z1 b).getD 0 []).length=1:=Wv (by omega)
 unfold Kl
 rw[Ur (by rw[V7,Yu]; exact hi),Qbo (by rw[Yu]; exact hi),Qcl (by rw[Yu]; omega),We hi,We (A:=Z1 b) (by omega),Kh,Qd9,Qd9]
 exact X8 fun q hq=>by
  congr 1
  rw[Ur (by rw[Ko]; omega),Qek (by omega)]
  rfl
theorem lsM_bd (hA:BdX j A) (h1:1≤j) (hn:A.length≤4):BdX (1+4*(j+j+1)) (Jy A):=
 mulT_bd_t (Wl hA h1) (Wl hA h1) fun i hi=>by
  have:=Wu (A:=A) i hi
  omega
theorem lsB_bd (hA:BdX j A) (hb:∀k,BdR j (b.getD k 0)) (h1:1≤j) (hn:A.length≤4):∀k,BdR (1+4*(j+j+1)) ((Kl A b).getD k 0):=fun k=>by
 have h:=mulT_bd_t (A:=Qq A) (C:=Qq (Z1 b)) (n:=4) (Wl hA h1) (Wl (Qbs hb h1) h1) fun i hi=>by
  have:=Wu (A:=A) i hi
  omega
 exact bd_col h (by omega) 0 k
theorem Qin (hR:Right A):Right (Qq A):=by
 have h1:=hR.rows
 have h2:=hR.cols
 have hr:=Wu (A:=A)
 have h0:((Qq A).getD 0 []).length=A.length:=hr 0 (by rw[Yu]; omega)
 exact⟨by rw[Yu]; exact h2,by rw[h0]; exact h1,fun i hi=>by rw[hr i hi,h0]⟩
theorem K5:(Jy A).length=(A.getD 0 []).length:=by
 unfold Jy
 rw[V7,Yu]
theorem lsM_sq (hR:Right A):SqOk (Jy A):=by
 have h2:=hR.cols
 have hr:Rect (A.getD 0 []).length (Jy A):=by
  have h:=Qdj (A:=Qq A) (C:=Qq A)
  rw[Yu]at h
  exact h
 have h0:((Jy A).getD 0 []).length=(A.getD 0 []).length:=hr 0 (by rw[K5]; omega)
 exact⟨⟨by rw[K5]; exact h2,by rw[h0]; exact h2,fun i hi=>by rw[hr i hi,h0]⟩,by rw[K5,h0]⟩
end
end Wx
