import Derived.Test.YtpiniclogfefjaaGreatCSolvesNSolve
namespace Wx
attribute [local irreducible] Q0
set_option maxRecDepth 100000
open Go Go.RowKit Go.Proofs
set_option linter.unusedVariables false

theorem setP_to {f:Nat→Qg} {q:Nat} {p p':Qg} (h:∀w v,p w v→p' w v) {n:Nat}:∀i,i<n→∀w v,Zx f q p i w v→Zx f q p' i w v:=fun i _ w v k=>by
 unfold Zx at k ⊢
 by_cases e:i=q
 ·rw[if_pos e]at k ⊢
  exact h w v k
 ·rw[if_neg e]at k ⊢
  exact k
theorem setP_two {f:Nat→Qg} {q:Nat} {p p':Qg} {n:Nat}:∀i,i<n→∀w v,Zx (Zx f q p) q p' i w v→Zx f q p' i w v:=fun i _ w v k=>by
 unfold Zx at k ⊢
 by_cases e:i=q
 ·rw[if_pos e]at k ⊢
  exact k
 ·rw[if_neg e,if_neg e]at k
  rw[if_neg e]
  exact k
theorem setP_at {f:Nat→Qg} {q:Nat} {p:Qg}:∀w v,Zx f q p q w v→p w v:=fun w v k=>by
 unfold Zx at k
 rw[if_pos rfl]at k
 exact k
theorem cn_Least_ok {A:List (List Rat)} {b:List Rat} {j:Nat} (hA:Right A) (h4:A.length<5∧(A.getD 0 []).length<5) (hbl:b.length=A.length) (hb:BdX j A) (hbb:∀k,BdR j (b.getD k 0)) (hj:1≤j∧j≤200) (hd:Xk (A.getD 0 []).length (ent (Jy A))≠0):∀(M:Nat→Nat→Prop) (w:World) (v0 v1:Value),Mid M w→Box M (fun w=>(Qc 1 false A.length (fun i=>Qk (A.getD i []))) w v0) w→Box M (fun w=>(Qk b) w v1) w→Calls Tryz.prog 29 #[v0,v1] w (RetB M (Xr (Qk (Jj (Jy A) (Kl A b))) (pI 0)) w):=by
 intro M w0 v0 v1 hM hv0 hv1
 have h0:=hA.rows
 have h0':=hA.cols
 have hT0:A.length=((Qq A).getD 0 []).length:=(Wu 0 (by rw[Yu]; omega)).symm
 have hTb:=Wl hb hj.1
 have hjj:∀n,n<5→(n+1)*(j+j+1)≤2000000:=fun n hn=>Nat.le_trans (Nat.mul_le_mul (show n+1≤5 by omega) (show j+j+1≤401 by omega)) (by decide)
 refine Q8 (N:=76) Tryz.func29 rfl rfl rfl hM (show EntsA M w0 [v0,v1] [⟨none,none,0,Qc 1 false A.length (fun i=>Qk (A.getD i []))⟩,⟨none,none,1,Qk b⟩]from⟨⟨rfl,_,rfl,hv0⟩,⟨rfl,_,rfl,hv1⟩,trivial⟩) fun a hI=>?_
 refine Qj hI 2 [Uc 0 4 _,Uc 1 5 _] (.kk .z) ⟨mv,mv,trivial⟩ (.kkkk .z) fun a w hI=>?_
 refine Qj hI 7 [Uc 0 14 _,Uc 1 15 _,Uc 2 13 _,Uc 3 16 _,Uc 4 17 _,Uc 5 6 _,Uc 6 7 _] (.kkkk .z) ⟨mv,Z0 (Qbj hA),mv,ext,ext,mv,mv,trivial⟩ (.kkkk (.dddd (.dkk .z))) fun a w hI=>?_
 refine wp_seq ?_
 refine Qj hI 2 [Uc 0 18 _,Uc 1 19 (pB false)] (.kkkk (.kk .z)) ⟨mv,Q6 (v:=.bool (false)) (.tmp 6 rfl rfl) (.const _) (fun _=>rfl) (.here 7 rfl),trivial⟩ (.kkkk (.kkdk .z)) fun a w hI=>?_
 refine Xv hI 6 rfl ?_
 refine wp_skip ?_
 refine Qb ?_
 refine wp_seq ?_
 refine Qj hI 5 [Uc 0 21 _,Uc 1 22 (pI (b.length:Int)),Uc 2 23 _,Uc 3 24 (pI (A.length:Int)),Uc 4 25 (pB false)] (.kkkk (.kkk .z)) ⟨mv,Qm (.tmp 7 rfl rfl) (Xz).under (.here 8 rfl),mv,Qm (.tmp 9 rfl rfl) (Qy).under (.here 10 rfl),Q6 (v:=.bool (((b.length:Int) != (A.length:Int)))) (.tmp 8 rfl rfl) (.tmp 10 rfl rfl) (fun _=>rfl) (.at_ 11 _ _ rfl (Yt ((by rw[hbl]; exact bne_self_eq_false _)))),trivial⟩ (.kkkk (.kddd (.dddk .z))) fun a w hI=>?_
 refine Xv hI 5 rfl ?_
 refine wp_skip ?_
 refine Qb ?_
 refine Qj hI 8 [Uc 0 27 _,Uc 1 28 _,Uc 2 29 _,Uc 3 26 _,Uc 4 30 _,Uc 5 31 _,Uc 6 8 _,Uc 7 9 _] (.kkkk (.kk .z)) ⟨mv,mv,Ui ((by have h:=Qh9 (A:=Qq A) (B:=A) (j1:=j) (j2:=j) (Qin hA) hA (by rw[hT0]) (Wl hb hj.1) hb (hjj A.length h4.1); rw[Yu]at h; exact h)) (Ya rfl) (Ya rfl),mv,ext,ext,mv,mv,trivial⟩ (.dkkk (.kddd (.dddd (.kd .z)))) fun a w hI=>?_
 refine Q3 hI 4 [⟨34,34,some 2,some 3,(.row (A.getD 0 []).length),42,((A.getD 0 []).length*3),true,pv (Yb 3 true ((A.getD 0 []).length) (fun _=>Q4)),[]⟩,⟨10,10,some 3,none,(.row (A.getD 0 []).length),42,((A.getD 0 []).length*3),true,pv (Yb 3 true ((A.getD 0 []).length) (fun _=>Q4)),[]⟩] [] [Uc 0 32 _,Uc 1 33 (pI ((A.getD 0 []).length:Int))] .z (.kkkk (.k .z)) ⟨mv,Qm (.tmp 5 rfl rfl) (Qy).under (.here 6 rfl),Jp (n:=(A.getD 0 []).length) (p0:=Q4) (zv:=.agg #[.bool false,.slice none 0 0,.slice none 0 0]) (z:=[.bool false,.slice none 0 0,.slice none 0 0]) 0 rfl rfl (by kernel_rfl) (by kernel_rfl) (by kernel_rfl) rfl rfl rfl rfl rfl (.tmp 6 rfl rfl) (.tmp 6 rfl rfl) (Xz).under (by kernel_rfl) rfl rfl (by omega) (by simp[Yw]) (fun _=>trivial) (by omega),K9 0 rfl rfl rfl rfl rfl (by kernel_rfl) rfl 1 rfl rfl rfl rfl rfl rfl rfl rfl (by kernel_rfl) (by kernel_rfl),trivial⟩ (.d (.k .z)) (.kkkk (.kdd .z)) fun a w hI=>?_
 refine wp_seq ?_
 refine Q3 hI 1 [] [] [Uc 0 11 _] (.k .z) (.kkkk (.k .z)) ⟨mv,trivial⟩ (.k .z) (.kkkk (.kk .z)) fun a w hI=>?_
 refine wp_block ?_
 refine Q9 (fun(i:Nat) a w=>(i≤(A.getD 0 []).length)∧Inv ⟨76,w0,M,fun _=>False⟩ [⟨10,10,none,none,(.row (A.getD 0 []).length),42,((A.getD 0 []).length*3),true,pv (Yb 3 true ((A.getD 0 []).length) (Yl i (fun i=>Qr ((Kl A b).getD i 0)) Q4)),[]⟩] [] [⟨none,none,1,Qk b⟩,⟨none,none,4,Qi ((Value.slice none 0 0))⟩,⟨none,none,5,pI 0⟩,⟨none,none,6,Qc 1 false (A.getD 0 []).length (fun i=>Qk ((Qq A).getD i []))⟩,⟨none,none,8,Qc 1 false (A.getD 0 []).length (fun i=>Qk ((Jy A).getD i []))⟩,⟨none,none,11,pI (i:Int)⟩] Qf a w) (fun(i:Nat)=>(A.getD 0 []).length-i) (0) ⟨Nat.zero_le _,(hI.conv ⟨⟨0,_,_,rfl,⟨rfl,rfl,rfl⟩,rfl,fun _=>(Zh Vn)⟩,trivial⟩ ⟨⟨rfl,rfl,0,_,rfl,fun _ _ h=>h⟩,⟨rfl,rfl,1,_,rfl,fun _ _ h=>h⟩,⟨rfl,rfl,2,_,rfl,fun _ _ h=>h⟩,⟨rfl,rfl,3,_,rfl,fun _ _ h=>h⟩,⟨rfl,rfl,4,_,rfl,fun _ _ h=>h⟩,⟨rfl,rfl,5,_,rfl,(Qw (by omega))⟩,trivial⟩)⟩ ?_
 intro i a w hIk
 obtain⟨hp,hI⟩:=hIk
 refine wp_seq ?_
 refine Q3 hI 4 [] [] [Uc 0 35 _,Uc 1 36 _,Uc 2 37 (pI ((A.getD 0 []).length:Int)),Uc 3 38 _] (.k .z) (.kkkk (.kk .z)) ⟨mv,mv,Qm (.tmp 7 rfl rfl) (Qy).under (.here 8 rfl),bl,trivial⟩ (.k .z) (.kkkk (.kkdd (.dk .z))) fun a w hI=>?_
 refine Xa hI 6 rfl (fun ht=>?_) (fun ht=>?_)
 ·have t1:=of_decide_eq_true ht
  refine wp_skip ?_
  refine Qb ?_
  refine wp_seq ?_
  refine wp_block ?_
  obtain⟨g1,hI⟩:=hI.openRow 0 rfl rfl rfl
  refine Q3 hI 5 [] [] [Uc 0 41 _,Uc 1 42 _,Uc 2 43 _,Uc 3 44 (Qi (.pointer (some ⟨g1,0+((i:Int)).toNat*3,none⟩)))] (.u none [(4,pv (Yb 3 true ((A.getD 0 []).length) (Zx (Yl i (fun i=>Qr ((Kl A b).getD i 0)) Q4) i (Qr ((0:Int):Rat)))))] .z) (.k8 .z) ⟨mv,mv,ce1 (X3 _) (Qce 0 (by omega) (by omega)),Qs (.tmp 8 rfl rfl) (.tmp 9 rfl rfl) Xz (by omega) (by omega) (by kernel_rfl) (.here 11 rfl),Ji (sz:=3) (n:=(A.getD 0 []).length) (q:=i) (ag:=true) (f:=Yl i (fun i=>Qr ((Kl A b).getD i 0)) Q4) (p:=Qr ((0:Int):Rat)) 0 rfl rfl rfl (by kernel_rfl) rfl rfl 0 rfl (by kernel_rfl) (by kernel_rfl) (.tmp 0 rfl rfl) (.tmp 11 rfl rfl) (show 0+((i:Int)).toNat*3=i*3 by omega) (by omega) Yc rfl (.tmp 10 rfl rfl) (Xt _),trivial⟩ (.s .o .z) (.kkkk (.kkkd (.dddd .z))) fun a w hI=>?_
  refine Q3 hI 1 [] [] [Uc 0 12 _] (.k .z) (.kkkk (.kkk .z)) ⟨mv,trivial⟩ (.k .z) (.k8 .z) fun a w hI=>?_
  refine wp_block ?_
  refine Q9 (fun(k:Nat) a w=>(k≤A.length)∧Inv ⟨76,w0,M,fun _=>False⟩ [⟨10,10,none,none,(.row (A.getD 0 []).length),42,((A.getD 0 []).length*3),true,pv (Yb 3 true ((A.getD 0 []).length) (Zx (Yl i (fun i=>Qr ((Kl A b).getD i 0)) Q4) i (Qr (Zq ((Qq A).getD i []) b k)))),[]⟩] [] [⟨none,none,1,Qk b⟩,⟨none,none,4,Qi ((Value.slice none 0 0))⟩,⟨none,none,5,pI 0⟩,⟨none,none,6,Qc 1 false (A.getD 0 []).length (fun i=>Qk ((Qq A).getD i []))⟩,⟨none,none,8,Qc 1 false (A.getD 0 []).length (fun i=>Qk ((Jy A).getD i []))⟩,⟨none,none,11,pI (i:Int)⟩,⟨none,none,12,pI (k:Int)⟩] Qf a w) (fun(k:Nat)=>A.length-k) (0) ⟨Nat.zero_le _,(hI.conv ⟨⟨0,_,_,rfl,⟨rfl,rfl,rfl⟩,rfl,fun _=>(Zh (setP_to fun w v h=>by rw[show((0:Int):Rat)=0 from rfl]at h; exact h))⟩,trivial⟩ ⟨⟨rfl,rfl,1,_,rfl,fun _ _ h=>h⟩,⟨rfl,rfl,2,_,rfl,fun _ _ h=>h⟩,⟨rfl,rfl,3,_,rfl,fun _ _ h=>h⟩,⟨rfl,rfl,4,_,rfl,fun _ _ h=>h⟩,⟨rfl,rfl,5,_,rfl,fun _ _ h=>h⟩,⟨rfl,rfl,6,_,rfl,fun _ _ h=>h⟩,⟨rfl,rfl,7,_,rfl,(Qw (by omega))⟩,trivial⟩)⟩ ?_
  intro k a w hIk
  obtain⟨hp2,hI⟩:=hIk
  refine wp_seq ?_
  refine Q3 hI 4 [] [] [Uc 0 45 _,Uc 1 46 _,Uc 2 47 (pI (b.length:Int)),Uc 3 48 _] (.k .z) (.kkkk (.kkk .z)) ⟨mv,mv,Qm (.tmp 8 rfl rfl) (Xz).under (.here 9 rfl),bl,trivial⟩ (.k .z) (.kkkk (.kkkd (.ddk .z))) fun a w hI=>?_
  refine Xa hI 7 rfl (fun ht=>?_) (fun ht=>?_)
  ·have t2:=of_decide_eq_true ht
   refine wp_skip ?_
   refine Qb ?_
   refine wp_seq ?_
   refine wp_block ?_
   have hti:=Wu (A:=A) i (by rw[Yu]; omega)
   obtain⟨g2,hI⟩:=hI.openRow 0 rfl rfl rfl
   refine srD hI [0,0,0,0,12,28,0,0,192,448,0,1984,4032,0,0,24576,57344,131008,262140,524287,1048575] [] [] [Uc 0 51 _,Uc 1 52 _,Uc 2 53 _,Uc 3 54 _,Uc 4 55 (Qi (.pointer (some ⟨g2,0+((i:Int)).toNat*3,none⟩))),Uc 5 56 (Qr (Zq ((Qq A).getD i []) b k)),Uc 6 57 _,Uc 7 58 _,Uc 8 59 _,Uc 9 60 (Qk ((Qq A).getD i [])),Uc 10 61 _,Uc 11 62 _,Uc 12 63 (Qr (((Qq A).getD i []).getD k 0)),Uc 13 64 _,Uc 14 65 _,Uc 15 66 _,Uc 16 67 (Qr (b.getD k 0)),Uc 17 68 _,Uc 18 69 _,Uc 19 70 (Qi (.pointer (some ⟨g2,0+((i:Int)).toNat*3,none⟩)))] (.u none [(20,pv (Yb 3 true ((A.getD 0 []).length) (Zx (Zx (Yl i (fun i=>Qr ((Kl A b).getD i 0)) Q4) i (Qr (Zq ((Qq A).getD i []) b k))) i (Qr ((Zq ((Qq A).getD i []) b k)+((((Qq A).getD i []).getD k 0)*(b.getD k 0)))))))] .z) (.k8 (.k .z)) ⟨mv,mv,mv,mv,Qs (.tmp 11 rfl rfl) (.tmp 12 rfl rfl) Xz (by omega) (by omega) (by kernel_rfl) (.here 13 rfl),Qgq (sz:=3) (q:=i) (ag:=true) (f:=Zx (Yl i (fun i=>Qr ((Kl A b).getD i 0)) Q4) i (Qr (Zq ((Qq A).getD i []) b k))) 0 rfl rfl rfl (by kernel_rfl) rfl (.tmp 0 rfl rfl) (.tmp 13 rfl rfl) (show 0+((i:Int)).toNat*3=i*3 by omega) (by omega) Yc rfl (.at_ 14 _ _ rfl (setP_at)),mv,mv,Ky Qy,Q5 (.tmp 17 rfl rfl) Jt ((Zb _)) (.here 18 rfl),mv,Ky Xz,Q5 (.tmp 20 rfl rfl) Yc (Xt _) (.here 21 rfl),mv,mv,Ky Xz,Q5 (.tmp 24 rfl rfl) Yc (Xt _) (.here 25 rfl),ce2 (X3 _) (cn_mul (hTb i k) (hbb k) (by omega)),ce2 (X3 _) (cn_add (Qf8 (hTb i) hbb k) ((hTb i k).mul (hbb k)) (sT_bits (show k<A.length by omega) (hjj A.length h4.1))) (Ya rfl) (Ya rfl),Qs (.tmp 9 rfl rfl) (.tmp 10 rfl rfl) Xz (by omega) (by omega) (by kernel_rfl) (.here 28 rfl),Ji (sz:=3) (n:=(A.getD 0 []).length) (q:=i) (ag:=true) (f:=Zx (Yl i (fun i=>Qr ((Kl A b).getD i 0)) Q4) i (Qr (Zq ((Qq A).getD i []) b k))) (p:=Qr ((Zq ((Qq A).getD i []) b k)+((((Qq A).getD i []).getD k 0)*(b.getD k 0)))) 0 rfl rfl rfl (by kernel_rfl) rfl rfl 0 rfl (by kernel_rfl) (by kernel_rfl) (.tmp 0 rfl rfl) (.tmp 28 rfl rfl) (show 0+((i:Int)).toNat*3=i*3 by omega) (by omega) Yc rfl (.tmp 27 rfl rfl) (Xt _),trivial⟩ (.s .o .z) (.k8 (.d8 (.d8 (.dddd (.d .z))))) fun a w hI=>?_
   refine Xo ?_
   refine Qb ?_
   refine Z3 hI 3 [] [] [Uc 0 49 _,Uc 1 50 _,Uc 2 12 _] (.k .z) (.kkkk (.kkk (.t 2 .z))) ⟨mv,bl,mv,trivial⟩ (.k .z) (.kkkk (.kkkd (.ddk .z))) fun a w hI=>?_
   refine Qb ?_
   exact⟨k+1,⟨(show k+1≤A.length by omega),(hI.conv ⟨⟨0,_,_,rfl,⟨rfl,rfl,rfl⟩,rfl,fun _=>(Zh setP_two)⟩,trivial⟩ ⟨⟨rfl,rfl,1,_,rfl,fun _ _ h=>h⟩,⟨rfl,rfl,2,_,rfl,fun _ _ h=>h⟩,⟨rfl,rfl,3,_,rfl,fun _ _ h=>h⟩,⟨rfl,rfl,4,_,rfl,fun _ _ h=>h⟩,⟨rfl,rfl,5,_,rfl,fun _ _ h=>h⟩,⟨rfl,rfl,6,_,rfl,fun _ _ h=>h⟩,⟨rfl,rfl,7,_,rfl,(Qw (by omega))⟩,trivial⟩)⟩,(show A.length-(k+1)<A.length-k by omega)⟩
  ·have t3:=of_decide_eq_false ht
   refine wp_exit ?_
   refine Ql ?_
   refine Ql ?_
   refine Q7 ?_
   refine Xo ?_
   refine Qb ?_
   refine Z3 hI 3 [] [] [Uc 0 39 _,Uc 1 40 _,Uc 2 11 _] (.k .z) (.kkkk (.k (.t 2 (.kk .z)))) ⟨mv,bl,mv,trivial⟩ (.k .z) (.kkkk (.kddd (.ddk .z))) fun a w hI=>?_
   refine Qb ?_
   exact⟨i+1,⟨(show i+1≤(A.getD 0 []).length by omega),(hI.conv ⟨⟨0,_,_,rfl,⟨rfl,rfl,rfl⟩,rfl,fun _=>(Zh (Wd fun w v u=>by rw[show k=A.length by omega]at u; rw[lsB_dot h0.1 hbl (by omega)]; exact u))⟩,trivial⟩ ⟨⟨rfl,rfl,0,_,rfl,fun _ _ h=>h⟩,⟨rfl,rfl,1,_,rfl,fun _ _ h=>h⟩,⟨rfl,rfl,2,_,rfl,fun _ _ h=>h⟩,⟨rfl,rfl,3,_,rfl,fun _ _ h=>h⟩,⟨rfl,rfl,4,_,rfl,fun _ _ h=>h⟩,⟨rfl,rfl,5,_,rfl,(Qw (by omega))⟩,trivial⟩)⟩,(show(A.getD 0 []).length-(i+1)<(A.getD 0 []).length-i by omega)⟩
 ·have t4:=of_decide_eq_false ht
  refine wp_exit ?_
  refine Ql ?_
  refine Ql ?_
  refine Q7 ?_
  refine Qb ?_
  obtain⟨g3,hI⟩:=hI.openRow 0 rfl rfl rfl
  replace hI:=hI.restRow (n0:=0) (k0:=0) (f':=(fun i=>Qr ((Kl A b).getD i 0))) rfl (by kernel_rfl) (by omega) (fun q hq w v u=>by rw[show i=(A.getD 0 []).length by omega]at u; exact Qbm q hq w v u)
  refine Qj hI 7 [Uc 0 71 _,Uc 1 72 _,Uc 2 73 _,Uc 3 74 _,Uc 4 75 _,Uc 5 4 _,Uc 6 5 _] (.kk (.t 5 (.t 6 (.kkkk .z)))) ⟨mv,mv,Ui ((by have h:=Qft (A:=Jy A) (b:=Kl A b) (lsM_sq hA) (by rw[K5]; exact h4.2) (by rw[Qf3,K5]) (lsM_bd hb hj.1 (by omega)) (lsB_bd hb hbb hj.1 (by omega)) (by omega) (by rw[K5]; exact hd); rw[K5,Qap Qf3]at h; exact h)) (Ya rfl) (Ya rfl),ext,ext,mv,mv,trivial⟩ (.d8 (.dddd (.dkk .z))) fun a w hI=>?_
  refine wp_ret ?_
  exact K3 hI rfl (.tmp 0 rfl) (.tmp 1 rfl)
theorem cn_Least_sing {A:List (List Rat)} {b:List Rat} {j:Nat} (hA:Right A) (h4:A.length<5∧(A.getD 0 []).length<5) (hbl:b.length=A.length) (hb:BdX j A) (hbb:∀k,BdR j (b.getD k 0)) (hj:1≤j∧j≤200) (hd:Xk (A.getD 0 []).length (ent (Jy A))=0):∀(M:Nat→Nat→Prop) (w:World) (v0 v1:Value),Mid M w→Box M (fun w=>(Qc 1 false A.length (fun i=>Qk (A.getD i []))) w v0) w→Box M (fun w=>(Qk b) w v1) w→Calls Tryz.prog 29 #[v0,v1] w (RetB M (Xr (Qi (.slice none 0 0)) (pI 6)) w):=by
 intro M w0 v0 v1 hM hv0 hv1
 have h0:=hA.rows
 have h0':=hA.cols
 have hT0:A.length=((Qq A).getD 0 []).length:=(Wu 0 (by rw[Yu]; omega)).symm
 have hTb:=Wl hb hj.1
 have hjj:∀n,n<5→(n+1)*(j+j+1)≤2000000:=fun n hn=>Nat.le_trans (Nat.mul_le_mul (show n+1≤5 by omega) (show j+j+1≤401 by omega)) (by decide)
 refine Q8 (N:=76) Tryz.func29 rfl rfl rfl hM (show EntsA M w0 [v0,v1] [⟨none,none,0,Qc 1 false A.length (fun i=>Qk (A.getD i []))⟩,⟨none,none,1,Qk b⟩]from⟨⟨rfl,_,rfl,hv0⟩,⟨rfl,_,rfl,hv1⟩,trivial⟩) fun a hI=>?_
 refine Qj hI 2 [Uc 0 4 _,Uc 1 5 _] (.kk .z) ⟨mv,mv,trivial⟩ (.kkkk .z) fun a w hI=>?_
 refine Qj hI 7 [Uc 0 14 _,Uc 1 15 _,Uc 2 13 _,Uc 3 16 _,Uc 4 17 _,Uc 5 6 _,Uc 6 7 _] (.kkkk .z) ⟨mv,Z0 (Qbj hA),mv,ext,ext,mv,mv,trivial⟩ (.kkkk (.dddd (.dkk .z))) fun a w hI=>?_
 refine wp_seq ?_
 refine Qj hI 2 [Uc 0 18 _,Uc 1 19 (pB false)] (.kkkk (.kk .z)) ⟨mv,Q6 (v:=.bool (false)) (.tmp 6 rfl rfl) (.const _) (fun _=>rfl) (.here 7 rfl),trivial⟩ (.kkkk (.kkdk .z)) fun a w hI=>?_
 refine Xv hI 6 rfl ?_
 refine wp_skip ?_
 refine Qb ?_
 refine wp_seq ?_
 refine Qj hI 5 [Uc 0 21 _,Uc 1 22 (pI (b.length:Int)),Uc 2 23 _,Uc 3 24 (pI (A.length:Int)),Uc 4 25 (pB false)] (.kkkk (.kkk .z)) ⟨mv,Qm (.tmp 7 rfl rfl) (Xz).under (.here 8 rfl),mv,Qm (.tmp 9 rfl rfl) (Qy).under (.here 10 rfl),Q6 (v:=.bool (((b.length:Int) != (A.length:Int)))) (.tmp 8 rfl rfl) (.tmp 10 rfl rfl) (fun _=>rfl) (.at_ 11 _ _ rfl (Yt ((by rw[hbl]; exact bne_self_eq_false _)))),trivial⟩ (.kkkk (.kddd (.dddk .z))) fun a w hI=>?_
 refine Xv hI 5 rfl ?_
 refine wp_skip ?_
 refine Qb ?_
 refine Qj hI 8 [Uc 0 27 _,Uc 1 28 _,Uc 2 29 _,Uc 3 26 _,Uc 4 30 _,Uc 5 31 _,Uc 6 8 _,Uc 7 9 _] (.kkkk (.kk .z)) ⟨mv,mv,Ui ((by have h:=Qh9 (A:=Qq A) (B:=A) (j1:=j) (j2:=j) (Qin hA) hA (by rw[hT0]) (Wl hb hj.1) hb (hjj A.length h4.1); rw[Yu]at h; exact h)) (Ya rfl) (Ya rfl),mv,ext,ext,mv,mv,trivial⟩ (.dkkk (.kddd (.dddd (.kd .z)))) fun a w hI=>?_
 refine Q3 hI 4 [⟨34,34,some 2,some 3,(.row (A.getD 0 []).length),42,((A.getD 0 []).length*3),true,pv (Yb 3 true ((A.getD 0 []).length) (fun _=>Q4)),[]⟩,⟨10,10,some 3,none,(.row (A.getD 0 []).length),42,((A.getD 0 []).length*3),true,pv (Yb 3 true ((A.getD 0 []).length) (fun _=>Q4)),[]⟩] [] [Uc 0 32 _,Uc 1 33 (pI ((A.getD 0 []).length:Int))] .z (.kkkk (.k .z)) ⟨mv,Qm (.tmp 5 rfl rfl) (Qy).under (.here 6 rfl),Jp (n:=(A.getD 0 []).length) (p0:=Q4) (zv:=.agg #[.bool false,.slice none 0 0,.slice none 0 0]) (z:=[.bool false,.slice none 0 0,.slice none 0 0]) 0 rfl rfl (by kernel_rfl) (by kernel_rfl) (by kernel_rfl) rfl rfl rfl rfl rfl (.tmp 6 rfl rfl) (.tmp 6 rfl rfl) (Xz).under (by kernel_rfl) rfl rfl (by omega) (by simp[Yw]) (fun _=>trivial) (by omega),K9 0 rfl rfl rfl rfl rfl (by kernel_rfl) rfl 1 rfl rfl rfl rfl rfl rfl rfl rfl (by kernel_rfl) (by kernel_rfl),trivial⟩ (.d (.k .z)) (.kkkk (.kdd .z)) fun a w hI=>?_
 refine wp_seq ?_
 refine Q3 hI 1 [] [] [Uc 0 11 _] (.k .z) (.kkkk (.k .z)) ⟨mv,trivial⟩ (.k .z) (.kkkk (.kk .z)) fun a w hI=>?_
 refine wp_block ?_
 refine Q9 (fun(i:Nat) a w=>(i≤(A.getD 0 []).length)∧Inv ⟨76,w0,M,fun _=>False⟩ [⟨10,10,none,none,(.row (A.getD 0 []).length),42,((A.getD 0 []).length*3),true,pv (Yb 3 true ((A.getD 0 []).length) (Yl i (fun i=>Qr ((Kl A b).getD i 0)) Q4)),[]⟩] [] [⟨none,none,1,Qk b⟩,⟨none,none,4,Qi ((Value.slice none 0 0))⟩,⟨none,none,5,pI 0⟩,⟨none,none,6,Qc 1 false (A.getD 0 []).length (fun i=>Qk ((Qq A).getD i []))⟩,⟨none,none,8,Qc 1 false (A.getD 0 []).length (fun i=>Qk ((Jy A).getD i []))⟩,⟨none,none,11,pI (i:Int)⟩] Qf a w) (fun(i:Nat)=>(A.getD 0 []).length-i) (0) ⟨Nat.zero_le _,(hI.conv ⟨⟨0,_,_,rfl,⟨rfl,rfl,rfl⟩,rfl,fun _=>(Zh Vn)⟩,trivial⟩ ⟨⟨rfl,rfl,0,_,rfl,fun _ _ h=>h⟩,⟨rfl,rfl,1,_,rfl,fun _ _ h=>h⟩,⟨rfl,rfl,2,_,rfl,fun _ _ h=>h⟩,⟨rfl,rfl,3,_,rfl,fun _ _ h=>h⟩,⟨rfl,rfl,4,_,rfl,fun _ _ h=>h⟩,⟨rfl,rfl,5,_,rfl,(Qw (by omega))⟩,trivial⟩)⟩ ?_
 intro i a w hIk
 obtain⟨hp,hI⟩:=hIk
 refine wp_seq ?_
 refine Q3 hI 4 [] [] [Uc 0 35 _,Uc 1 36 _,Uc 2 37 (pI ((A.getD 0 []).length:Int)),Uc 3 38 _] (.k .z) (.kkkk (.kk .z)) ⟨mv,mv,Qm (.tmp 7 rfl rfl) (Qy).under (.here 8 rfl),bl,trivial⟩ (.k .z) (.kkkk (.kkdd (.dk .z))) fun a w hI=>?_
 refine Xa hI 6 rfl (fun ht=>?_) (fun ht=>?_)
 ·have t1:=of_decide_eq_true ht
  refine wp_skip ?_
  refine Qb ?_
  refine wp_seq ?_
  refine wp_block ?_
  obtain⟨g1,hI⟩:=hI.openRow 0 rfl rfl rfl
  refine Q3 hI 5 [] [] [Uc 0 41 _,Uc 1 42 _,Uc 2 43 _,Uc 3 44 (Qi (.pointer (some ⟨g1,0+((i:Int)).toNat*3,none⟩)))] (.u none [(4,pv (Yb 3 true ((A.getD 0 []).length) (Zx (Yl i (fun i=>Qr ((Kl A b).getD i 0)) Q4) i (Qr ((0:Int):Rat)))))] .z) (.k8 .z) ⟨mv,mv,ce1 (X3 _) (Qce 0 (by omega) (by omega)),Qs (.tmp 8 rfl rfl) (.tmp 9 rfl rfl) Xz (by omega) (by omega) (by kernel_rfl) (.here 11 rfl),Ji (sz:=3) (n:=(A.getD 0 []).length) (q:=i) (ag:=true) (f:=Yl i (fun i=>Qr ((Kl A b).getD i 0)) Q4) (p:=Qr ((0:Int):Rat)) 0 rfl rfl rfl (by kernel_rfl) rfl rfl 0 rfl (by kernel_rfl) (by kernel_rfl) (.tmp 0 rfl rfl) (.tmp 11 rfl rfl) (show 0+((i:Int)).toNat*3=i*3 by omega) (by omega) Yc rfl (.tmp 10 rfl rfl) (Xt _),trivial⟩ (.s .o .z) (.kkkk (.kkkd (.dddd .z))) fun a w hI=>?_
  refine Q3 hI 1 [] [] [Uc 0 12 _] (.k .z) (.kkkk (.kkk .z)) ⟨mv,trivial⟩ (.k .z) (.k8 .z) fun a w hI=>?_
  refine wp_block ?_
  refine Q9 (fun(k:Nat) a w=>(k≤A.length)∧Inv ⟨76,w0,M,fun _=>False⟩ [⟨10,10,none,none,(.row (A.getD 0 []).length),42,((A.getD 0 []).length*3),true,pv (Yb 3 true ((A.getD 0 []).length) (Zx (Yl i (fun i=>Qr ((Kl A b).getD i 0)) Q4) i (Qr (Zq ((Qq A).getD i []) b k)))),[]⟩] [] [⟨none,none,1,Qk b⟩,⟨none,none,4,Qi ((Value.slice none 0 0))⟩,⟨none,none,5,pI 0⟩,⟨none,none,6,Qc 1 false (A.getD 0 []).length (fun i=>Qk ((Qq A).getD i []))⟩,⟨none,none,8,Qc 1 false (A.getD 0 []).length (fun i=>Qk ((Jy A).getD i []))⟩,⟨none,none,11,pI (i:Int)⟩,⟨none,none,12,pI (k:Int)⟩] Qf a w) (fun(k:Nat)=>A.length-k) (0) ⟨Nat.zero_le _,(hI.conv ⟨⟨0,_,_,rfl,⟨rfl,rfl,rfl⟩,rfl,fun _=>(Zh (setP_to fun w v h=>by rw[show((0:Int):Rat)=0 from rfl]at h; exact h))⟩,trivial⟩ ⟨⟨rfl,rfl,1,_,rfl,fun _ _ h=>h⟩,⟨rfl,rfl,2,_,rfl,fun _ _ h=>h⟩,⟨rfl,rfl,3,_,rfl,fun _ _ h=>h⟩,⟨rfl,rfl,4,_,rfl,fun _ _ h=>h⟩,⟨rfl,rfl,5,_,rfl,fun _ _ h=>h⟩,⟨rfl,rfl,6,_,rfl,fun _ _ h=>h⟩,⟨rfl,rfl,7,_,rfl,(Qw (by omega))⟩,trivial⟩)⟩ ?_
  intro k a w hIk
  obtain⟨hp2,hI⟩:=hIk
  refine wp_seq ?_
  refine Q3 hI 4 [] [] [Uc 0 45 _,Uc 1 46 _,Uc 2 47 (pI (b.length:Int)),Uc 3 48 _] (.k .z) (.kkkk (.kkk .z)) ⟨mv,mv,Qm (.tmp 8 rfl rfl) (Xz).under (.here 9 rfl),bl,trivial⟩ (.k .z) (.kkkk (.kkkd (.ddk .z))) fun a w hI=>?_
  refine Xa hI 7 rfl (fun ht=>?_) (fun ht=>?_)
  ·have t2:=of_decide_eq_true ht
   refine wp_skip ?_
   refine Qb ?_
   refine wp_seq ?_
   refine wp_block ?_
   have hti:=Wu (A:=A) i (by rw[Yu]; omega)
   obtain⟨g2,hI⟩:=hI.openRow 0 rfl rfl rfl
   refine srD hI [0,0,0,0,12,28,0,0,192,448,0,1984,4032,0,0,24576,57344,131008,262140,524287,1048575] [] [] [Uc 0 51 _,Uc 1 52 _,Uc 2 53 _,Uc 3 54 _,Uc 4 55 (Qi (.pointer (some ⟨g2,0+((i:Int)).toNat*3,none⟩))),Uc 5 56 (Qr (Zq ((Qq A).getD i []) b k)),Uc 6 57 _,Uc 7 58 _,Uc 8 59 _,Uc 9 60 (Qk ((Qq A).getD i [])),Uc 10 61 _,Uc 11 62 _,Uc 12 63 (Qr (((Qq A).getD i []).getD k 0)),Uc 13 64 _,Uc 14 65 _,Uc 15 66 _,Uc 16 67 (Qr (b.getD k 0)),Uc 17 68 _,Uc 18 69 _,Uc 19 70 (Qi (.pointer (some ⟨g2,0+((i:Int)).toNat*3,none⟩)))] (.u none [(20,pv (Yb 3 true ((A.getD 0 []).length) (Zx (Zx (Yl i (fun i=>Qr ((Kl A b).getD i 0)) Q4) i (Qr (Zq ((Qq A).getD i []) b k))) i (Qr ((Zq ((Qq A).getD i []) b k)+((((Qq A).getD i []).getD k 0)*(b.getD k 0)))))))] .z) (.k8 (.k .z)) ⟨mv,mv,mv,mv,Qs (.tmp 11 rfl rfl) (.tmp 12 rfl rfl) Xz (by omega) (by omega) (by kernel_rfl) (.here 13 rfl),Qgq (sz:=3) (q:=i) (ag:=true) (f:=Zx (Yl i (fun i=>Qr ((Kl A b).getD i 0)) Q4) i (Qr (Zq ((Qq A).getD i []) b k))) 0 rfl rfl rfl (by kernel_rfl) rfl (.tmp 0 rfl rfl) (.tmp 13 rfl rfl) (show 0+((i:Int)).toNat*3=i*3 by omega) (by omega) Yc rfl (.at_ 14 _ _ rfl (setP_at)),mv,mv,Ky Qy,Q5 (.tmp 17 rfl rfl) Jt ((Zb _)) (.here 18 rfl),mv,Ky Xz,Q5 (.tmp 20 rfl rfl) Yc (Xt _) (.here 21 rfl),mv,mv,Ky Xz,Q5 (.tmp 24 rfl rfl) Yc (Xt _) (.here 25 rfl),ce2 (X3 _) (cn_mul (hTb i k) (hbb k) (by omega)),ce2 (X3 _) (cn_add (Qf8 (hTb i) hbb k) ((hTb i k).mul (hbb k)) (sT_bits (show k<A.length by omega) (hjj A.length h4.1))) (Ya rfl) (Ya rfl),Qs (.tmp 9 rfl rfl) (.tmp 10 rfl rfl) Xz (by omega) (by omega) (by kernel_rfl) (.here 28 rfl),Ji (sz:=3) (n:=(A.getD 0 []).length) (q:=i) (ag:=true) (f:=Zx (Yl i (fun i=>Qr ((Kl A b).getD i 0)) Q4) i (Qr (Zq ((Qq A).getD i []) b k))) (p:=Qr ((Zq ((Qq A).getD i []) b k)+((((Qq A).getD i []).getD k 0)*(b.getD k 0)))) 0 rfl rfl rfl (by kernel_rfl) rfl rfl 0 rfl (by kernel_rfl) (by kernel_rfl) (.tmp 0 rfl rfl) (.tmp 28 rfl rfl) (show 0+((i:Int)).toNat*3=i*3 by omega) (by omega) Yc rfl (.tmp 27 rfl rfl) (Xt _),trivial⟩ (.s .o .z) (.k8 (.d8 (.d8 (.dddd (.d .z))))) fun a w hI=>?_
   refine Xo ?_
   refine Qb ?_
   refine Z3 hI 3 [] [] [Uc 0 49 _,Uc 1 50 _,Uc 2 12 _] (.k .z) (.kkkk (.kkk (.t 2 .z))) ⟨mv,bl,mv,trivial⟩ (.k .z) (.kkkk (.kkkd (.ddk .z))) fun a w hI=>?_
   refine Qb ?_
   exact⟨k+1,⟨(show k+1≤A.length by omega),(hI.conv ⟨⟨0,_,_,rfl,⟨rfl,rfl,rfl⟩,rfl,fun _=>(Zh setP_two)⟩,trivial⟩ ⟨⟨rfl,rfl,1,_,rfl,fun _ _ h=>h⟩,⟨rfl,rfl,2,_,rfl,fun _ _ h=>h⟩,⟨rfl,rfl,3,_,rfl,fun _ _ h=>h⟩,⟨rfl,rfl,4,_,rfl,fun _ _ h=>h⟩,⟨rfl,rfl,5,_,rfl,fun _ _ h=>h⟩,⟨rfl,rfl,6,_,rfl,fun _ _ h=>h⟩,⟨rfl,rfl,7,_,rfl,(Qw (by omega))⟩,trivial⟩)⟩,(show A.length-(k+1)<A.length-k by omega)⟩
  ·have t3:=of_decide_eq_false ht
   refine wp_exit ?_
   refine Ql ?_
   refine Ql ?_
   refine Q7 ?_
   refine Xo ?_
   refine Qb ?_
   refine Z3 hI 3 [] [] [Uc 0 39 _,Uc 1 40 _,Uc 2 11 _] (.k .z) (.kkkk (.k (.t 2 (.kk .z)))) ⟨mv,bl,mv,trivial⟩ (.k .z) (.kkkk (.kddd (.ddk .z))) fun a w hI=>?_
   refine Qb ?_
   exact⟨i+1,⟨(show i+1≤(A.getD 0 []).length by omega),(hI.conv ⟨⟨0,_,_,rfl,⟨rfl,rfl,rfl⟩,rfl,fun _=>(Zh (Wd fun w v u=>by rw[show k=A.length by omega]at u; rw[lsB_dot h0.1 hbl (by omega)]; exact u))⟩,trivial⟩ ⟨⟨rfl,rfl,0,_,rfl,fun _ _ h=>h⟩,⟨rfl,rfl,1,_,rfl,fun _ _ h=>h⟩,⟨rfl,rfl,2,_,rfl,fun _ _ h=>h⟩,⟨rfl,rfl,3,_,rfl,fun _ _ h=>h⟩,⟨rfl,rfl,4,_,rfl,fun _ _ h=>h⟩,⟨rfl,rfl,5,_,rfl,(Qw (by omega))⟩,trivial⟩)⟩,(show(A.getD 0 []).length-(i+1)<(A.getD 0 []).length-i by omega)⟩
 ·have t4:=of_decide_eq_false ht
  refine wp_exit ?_
  refine Ql ?_
  refine Ql ?_
  refine Q7 ?_
  refine Qb ?_
  obtain⟨g3,hI⟩:=hI.openRow 0 rfl rfl rfl
  replace hI:=hI.restRow (n0:=0) (k0:=0) (f':=(fun i=>Qr ((Kl A b).getD i 0))) rfl (by kernel_rfl) (by omega) (fun q hq w v u=>by rw[show i=(A.getD 0 []).length by omega]at u; exact Qbm q hq w v u)
  refine Qj hI 7 [Uc 0 71 _,Uc 1 72 _,Uc 2 73 _,Uc 3 74 _,Uc 4 75 _,Uc 5 4 _,Uc 6 5 _] (.kk (.t 5 (.t 6 (.kkkk .z)))) ⟨mv,mv,Ui ((by have h:=Qdp (A:=Jy A) (b:=Kl A b) (lsM_sq hA) (by rw[K5]; exact h4.2) (by rw[Qf3,K5]) (lsM_bd hb hj.1 (by omega)) (lsB_bd hb hbb hj.1 (by omega)) (by omega) (by rw[K5]; exact hd); rw[K5,Qap Qf3]at h; exact h)) (Ya rfl) (Ya rfl),ext,ext,mv,mv,trivial⟩ (.d8 (.dddd (.dkk .z))) fun a w hI=>?_
  refine wp_ret ?_
  exact K3 hI rfl (.tmp 0 rfl) (.tmp 1 rfl)
theorem cn_Least_no1 {A:List (List Rat)} {b:List Rat} (hAl:A.length≤1000000) (hA:¬Right A):∀(M:Nat→Nat→Prop) (w:World) (v0 v1:Value),Mid M w→Box M (fun w=>(Qc 1 false A.length (fun i=>Qk (A.getD i []))) w v0) w→Box M (fun w=>(Qk b) w v1) w→Calls Tryz.prog 29 #[v0,v1] w (RetB M (Xr (Qi (.slice none 0 0)) (pI 4)) w):=by
 intro M w0 v0 v1 hM hv0 hv1
 refine Q8 (N:=76) Tryz.func29 rfl rfl rfl hM (show EntsA M w0 [v0,v1] [⟨none,none,0,Qc 1 false A.length (fun i=>Qk (A.getD i []))⟩,⟨none,none,1,Qk b⟩]from⟨⟨rfl,_,rfl,hv0⟩,⟨rfl,_,rfl,hv1⟩,trivial⟩) fun a hI=>?_
 refine Qj hI 2 [Uc 0 4 _,Uc 1 5 _] (.kk .z) ⟨mv,mv,trivial⟩ (.kkkk .z) fun a w hI=>?_
 refine Qj hI 7 [Uc 0 14 _,Uc 1 15 _,Uc 2 13 _,Uc 3 16 _,Uc 4 17 _,Uc 5 6 _,Uc 6 7 _] (.kkkk .z) ⟨mv,Z0 (Qip hAl hA),mv,ext,ext,mv,mv,trivial⟩ (.kkkk (.dddd (.dkk .z))) fun a w hI=>?_
 refine wp_seq ?_
 refine Qj hI 2 [Uc 0 18 _,Uc 1 19 (pB true)] (.kkkk (.kk .z)) ⟨mv,Q6 (v:=.bool (true)) (.tmp 6 rfl rfl) (.const _) (fun _=>rfl) (.here 7 rfl),trivial⟩ (.kkkk (.kkdk .z)) fun a w hI=>?_
 refine Y9 hI 6 rfl ?_
 refine Qj hI 3 [Uc 0 20 _,Uc 1 4 _,Uc 2 5 _] (.kk (.t 1 (.t 2 (.kkk .z)))) ⟨mv,mv,mv,trivial⟩ (.kkdd (.kddd (.kk .z))) fun a w hI=>?_
 refine wp_ret ?_
 refine Xf ?_
 exact K3 hI rfl (.tmp 3 rfl) (.tmp 4 rfl)
theorem cn_Least_no2 {A:List (List Rat)} {b:List Rat} (hA:Right A) (hbl:b.length≠A.length):∀(M:Nat→Nat→Prop) (w:World) (v0 v1:Value),Mid M w→Box M (fun w=>(Qc 1 false A.length (fun i=>Qk (A.getD i []))) w v0) w→Box M (fun w=>(Qk b) w v1) w→Calls Tryz.prog 29 #[v0,v1] w (RetB M (Xr (Qi (.slice none 0 0)) (pI 4)) w):=by
 intro M w0 v0 v1 hM hv0 hv1
 have h0:=hA.rows
 refine Q8 (N:=76) Tryz.func29 rfl rfl rfl hM (show EntsA M w0 [v0,v1] [⟨none,none,0,Qc 1 false A.length (fun i=>Qk (A.getD i []))⟩,⟨none,none,1,Qk b⟩]from⟨⟨rfl,_,rfl,hv0⟩,⟨rfl,_,rfl,hv1⟩,trivial⟩) fun a hI=>?_
 refine Qj hI 2 [Uc 0 4 _,Uc 1 5 _] (.kk .z) ⟨mv,mv,trivial⟩ (.kkkk .z) fun a w hI=>?_
 refine Qj hI 7 [Uc 0 14 _,Uc 1 15 _,Uc 2 13 _,Uc 3 16 _,Uc 4 17 _,Uc 5 6 _,Uc 6 7 _] (.kkkk .z) ⟨mv,Z0 (Qbj hA),mv,ext,ext,mv,mv,trivial⟩ (.kkkk (.dddd (.dkk .z))) fun a w hI=>?_
 refine wp_seq ?_
 refine Qj hI 2 [Uc 0 18 _,Uc 1 19 (pB false)] (.kkkk (.kk .z)) ⟨mv,Q6 (v:=.bool (false)) (.tmp 6 rfl rfl) (.const _) (fun _=>rfl) (.here 7 rfl),trivial⟩ (.kkkk (.kkdk .z)) fun a w hI=>?_
 refine Xv hI 6 rfl ?_
 refine wp_skip ?_
 refine Qb ?_
 refine wp_seq ?_
 refine Qj hI 5 [Uc 0 21 _,Uc 1 22 (pI (b.length:Int)),Uc 2 23 _,Uc 3 24 (pI (A.length:Int)),Uc 4 25 (pB true)] (.kkkk (.kkk .z)) ⟨mv,Qm (.tmp 7 rfl rfl) (Xz).under (.here 8 rfl),mv,Qm (.tmp 9 rfl rfl) (Qy).under (.here 10 rfl),Q6 (v:=.bool (((b.length:Int) != (A.length:Int)))) (.tmp 8 rfl rfl) (.tmp 10 rfl rfl) (fun _=>rfl) (.at_ 11 _ _ rfl (Yt ((bne_iff_ne.2 (by omega))))),trivial⟩ (.kkkk (.kddd (.dddk .z))) fun a w hI=>?_
 refine Y9 hI 5 rfl ?_
 refine Qj hI 2 [Uc 0 4 _,Uc 1 5 _] (.kk (.t 0 (.t 1 (.kk .z)))) ⟨mv,mv,trivial⟩ (.kkdd (.kdkk .z)) fun a w hI=>?_
 refine wp_ret ?_
 refine Xf ?_
 exact K3 hI rfl (.tmp 3 rfl) (.tmp 4 rfl)
end Wx
