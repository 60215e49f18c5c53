import Derived.Test.YtpiniclogfefjaaGreatJSolves28
import Derived.Test.YtpiniclogfefjaaGreatJSolves32
namespace Wx
attribute [local irreducible] Q0
set_option maxRecDepth 100000
open Go Go.RowKit Go.Proofs
set_option linter.unusedVariables false

theorem r_reduce {H:List Bk} {L1 L2:List Rat} {b1 b2 s1 s2 n1 n2 c1 c2 p1 p2 j j2 jf:Nat} {f:Rat} (m1:(⟨b1,3,true,Xj L1 p1⟩:Bk)∈H) (m2:(⟨b2,3,true,Xj L2 p2⟩:Bk)∈H) (hne:b2≠b1) (k1:s1+n1≤L1.length) (k2:s2+n2≤L2.length) (k12:n2≤n1) (kn:n1≤1000000) (q1:∀x,x∈L1→BdR j x) (q2:∀x,x∈L2→BdR j2 x) (qf:BdR jf f) (hj:j+(jf+j2)+j+(jf+j2)+1≤100000000):∀(M:Nat→Nat→Prop) (B:Nat→Prop) (w:World) (v0 v1 v2:Value),Mid M w→(∀k,B k→∀o,¬M k o)→HpOk B w H→Box (plus M B) (fun w=>(Qi (.slice (some ⟨b1,s1*3,none⟩) n1 c1)) w v0) w→Box (plus M B) (fun w=>(Qi (.slice (some ⟨b2,s2*3,none⟩) n2 c2)) w v1) w→Box (plus M B) (fun w=>(Qv f) w v2) w→Calls Tryz.prog 58 #[v0,v1,v2] w (RetL M B (Qi (.tuple #[])) (Ue H b1 (Xj (if f=0 then L1 else Ka L1 s1 L2 s2 f n2) p1)) w):=by
 intro M B w0 v0 v1 v2 hM hBM hH hv0 hv1 hv2
 have hu1:∀e,e∈H→e.b=b1→e.items=Xj L1 p1:=fun e he hb=>hup_items hH he m1 hb
 refine Qg7 (N:=29) (id:=29) (s:=29) Tryz.func58 rfl rfl rfl hM hBM hH (show EntsA (plus M B) w0 [v0,v1,v2] [⟨none,none,0,Qi (.slice (some ⟨b1,s1*3,none⟩) n1 c1)⟩,⟨none,none,1,Qi (.slice (some ⟨b2,s2*3,none⟩) n2 c2)⟩,⟨none,none,2,Qv f⟩]from⟨⟨rfl,_,rfl,hv0⟩,⟨rfl,_,rfl,hv1⟩,⟨rfl,_,rfl,hv2⟩,trivial⟩) fun a hI=>?_
 refine Q3 hI 1 [⟨5,5,some 0,none,.ptr,38,3,true,pv (Qv f),[]⟩] [] [] (.k .z) (.kkk .z) ⟨Qa8 1 rfl rfl (by kernel_rfl) (by kernel_rfl) rfl rfl rfl (.tmp 2 rfl rfl) (Ym _) rfl,trivial⟩ (.k (.k .z)) (.kkd .z) fun a w hI=>?_
 refine wp_seq ?_
 refine Q3 hI 2 [] [] [Uc 0 8 (Qv f),Uc 1 9 _] (.k (.k .z)) (.kk .z) ⟨Xy 1 rfl rfl rfl rfl (by kernel_rfl) Xx rfl (.here 2 rfl),ce1 (Y2 _) (c_zero f),trivial⟩ (.k (.k .z)) (.kkdk .z) fun a w hI=>?_
 refine Xa hI 2 rfl (fun ht=>?_) (fun ht=>?_)
 ·have t1:=of_decide_eq_true ht
  refine wp_ret ?_
  refine Xf ?_
  have hI:Inv ⟨29,w0,M,B⟩ [⟨29,29,none,none,.obj,0,0,false,Zo (Ue H b1 (Xj (if f=0 then L1 else Ka L1 s1 L2 s2 f n2) p1)),[]⟩,⟨5,5,none,none,.ptr,38,3,true,pv (Qv f),[]⟩] [] [⟨none,none,0,Qi (.slice (some ⟨b1,s1*3,none⟩) n1 c1)⟩,⟨none,none,1,Qi (.slice (some ⟨b2,s2*3,none⟩) n2 c2)⟩,⟨none,none,9,pB (decide (f=0))⟩] Qf _ _:=(hI.conv ⟨⟨0,_,_,rfl,⟨rfl,rfl,rfl⟩,rfl,fun _=>(Qdk (by rw[if_pos t1]; exact(Qcv hu1).symm))⟩,⟨1,_,_,rfl,⟨rfl,rfl,rfl⟩,rfl,fun _=>fun _ _ h=>h⟩,trivial⟩ ⟨⟨rfl,rfl,0,_,rfl,fun _ _ h=>h⟩,⟨rfl,rfl,1,_,rfl,fun _ _ h=>h⟩,⟨rfl,rfl,2,_,rfl,fun _ _ h=>h⟩,trivial⟩)
  exact finL0 hI rfl hH (n0:=0) rfl (hup_b _ _ _) 
 ·have t2:=of_decide_eq_false ht
  refine wp_skip ?_
  refine Qb ?_
  refine Q3 hI 3 [] [] [Uc 0 10 _,Uc 1 11 (pI (n2:Int)),Uc 2 12 _] (.k (.k .z)) (.kkk .z) ⟨mv,Uz (.tmp 3 rfl rfl) (Xb).under (.here 4 rfl),mv,trivial⟩ (.k (.k .z)) (.kddk (.kk .z)) fun a w hI=>?_
  refine wp_block ?_
  refine Q9 (fun(k:Nat) a w=>(k≤n2)∧Inv ⟨29,w0,M,B⟩ [⟨29,29,none,none,.obj,0,0,false,Zo (Ue H b1 (Xj (Ka L1 s1 L2 s2 f k) p1)),[]⟩,⟨5,5,none,none,.ptr,38,3,true,pv (Qv f),[]⟩] [] [⟨none,none,0,Qi (.slice (some ⟨b1,s1*3,none⟩) n1 c1)⟩,⟨none,none,10,Qi (.slice (some ⟨b2,s2*3,none⟩) n2 c2)⟩,⟨none,none,11,pI (n2:Int)⟩,⟨none,none,12,pI (k:Int)⟩] Qf a w) (fun(k:Nat)=>n2-k) (0) ⟨Nat.zero_le _,(hI.conv ⟨⟨0,_,_,rfl,⟨rfl,rfl,rfl⟩,rfl,fun _=>(Qdk (by rw[redAt_zero]; exact(Qcv hu1).symm))⟩,⟨1,_,_,rfl,⟨rfl,rfl,rfl⟩,rfl,fun _=>fun _ _ h=>h⟩,trivial⟩ ⟨⟨rfl,rfl,0,_,rfl,fun _ _ h=>h⟩,⟨rfl,rfl,1,_,rfl,fun _ _ h=>h⟩,⟨rfl,rfl,2,_,rfl,fun _ _ h=>h⟩,⟨rfl,rfl,3,_,rfl,(Qw (by omega))⟩,trivial⟩)⟩ ?_
  intro k a w hIk
  obtain⟨hp,hI⟩:=hIk
  refine Q3 hI 1 [] [] [Uc 0 13 _] (.k (.k .z)) (.kkkk .z) ⟨bl,trivial⟩ (.k (.k .z)) (.kkkk (.k .z)) fun a w hI=>?_
  refine wp_seq ?_
  refine Xa hI 4 rfl (fun ht=>?_) (fun ht=>?_)
  ·have t3:=of_decide_eq_true ht
   refine wp_skip ?_
   refine Qb ?_
   refine wp_seq ?_
   refine wp_block ?_
   refine Q3 hI 6 [⟨7,7,some 3,none,.ptr,38,3,true,pv (Qv 0),[(5,pv (Qv (L2.getD (s2+k) 0)))]⟩] [] [Uc 0 14 _,Uc 1 15 (Qi (.pointer (some ⟨b2,s2*3+((k:Int)).toNat*3,none⟩))),Uc 2 16 (Qv (L2.getD (s2+k) 0)),Uc 4 6 _] (.k (.k .z)) (.kkkk (.k .z)) ⟨mv,Qs (.tmp 1 rfl rfl) (.tmp 3 rfl rfl) Xb (by omega) (by omega) (by kernel_rfl) (.here 6 rfl),Yv (e:=⟨b2,3,true,Xj L2 p2⟩) (idx:=s2+k) 0 rfl rfl rfl (by kernel_rfl) rfl (.tmp 6 rfl rfl) (Qbw m2 hne) rfl (Kw (by omega)) (show s2*3+((k:Int)).toNat*3=(s2+k)*3 by omega) Xx (.here 7 rfl),Jv 2 rfl rfl (by kernel_rfl) (by kernel_rfl) rfl rfl rfl Ub rfl rfl (by simp[Yw]) rfl (fun w=>Jd w),mv,Za 2 rfl rfl rfl rfl 0 rfl (by kernel_rfl) (by kernel_rfl) Xx (.tmp 7 rfl rfl) (Ym _),trivial⟩ (.k (.k (.s .o .z))) (.k8 (.k .z)) fun a w hI=>?_
   refine srD hI [0,0,0,0,12,28,0,0,192,508,1023,2047] [] [] [Uc 0 17 _,Uc 1 18 _,Uc 2 19 _,Uc 3 20 _,Uc 4 21 (Qi (.pointer (some ⟨b1,s1*3+((k:Int)).toNat*3,none⟩))),Uc 5 22 (Qv (L1.getD (s1+k) 0)),Uc 6 23 (Qv f),Uc 7 24 (Qv (L2.getD (s2+k) 0)),Uc 8 25 _,Uc 9 26 _,Uc 10 27 (Qi (.pointer (some ⟨b1,s1*3+((k:Int)).toNat*3,none⟩)))] (.u none [(11,Zo (Ye (Ue H b1 (Xj (Ka L1 s1 L2 s2 f k) p1)) b1 (s1+k) (itR ((L1.getD (s1+k) 0)-(f*(L2.getD (s2+k) 0))))))] (.k (.k .z))) (.k8 (.k .z)) ⟨mv,mv,mv,mv,Qs (.tmp 11 rfl rfl) (.tmp 12 rfl rfl) Xb (by omega) (by omega) (by kernel_rfl) (.here 13 rfl),Yv (e:=⟨b1,3,true,Xj (Ka L1 s1 L2 s2 f k) p1⟩) (idx:=s1+k) 0 rfl rfl rfl (by kernel_rfl) rfl (.tmp 13 rfl rfl) (Qeb m1 rfl) rfl (redAt_item (by omega)) (show s1*3+((k:Int)).toNat*3=(s1+k)*3 by omega) Xx (.here 14 rfl),Xy 1 rfl rfl rfl rfl (by kernel_rfl) Xx rfl (.here 15 rfl),Xy 2 rfl rfl rfl rfl (by kernel_rfl) Xx rfl (.here 16 rfl),ce2 (Zf _) (c_mul qf (bd_getD q2 (by omega)) (by omega)) (Ya rfl) (Ya rfl),ce2 (Zf _) (c_sub (bd_getD q1 (by omega)) ((qf).mul (bd_getD q2 (by omega))) (by omega)) (Ya rfl) (Ya rfl),Qs (.tmp 9 rfl rfl) (.tmp 10 rfl rfl) Xb (by omega) (by omega) (by kernel_rfl) (.here 19 rfl),Zn (e:=⟨b1,3,true,Xj (Ka L1 s1 L2 s2 f k) p1⟩) (idx:=s1+k) (it:=itR ((L1.getD (s1+k) 0)-(f*(L2.getD (s2+k) 0)))) 0 rfl rfl rfl (by kernel_rfl) 0 rfl (by kernel_rfl) (by kernel_rfl) rfl (.tmp 19 rfl rfl) (Qeb m1 rfl) rfl (Qgu (show s1+k<(Ka L1 s1 L2 s2 f k).length by rw[Qb1]; omega)) (show s1*3+((k:Int)).toNat*3=(s1+k)*3 by omega) Xx (.tmp 18 rfl rfl) (Ym _),trivial⟩ (.s .o (.k (.k .z))) (.k8 (.k8 (.kkkk .z))) fun a w hI=>?_
   refine Xo ?_
   refine Qb ?_
   refine Z3 hI 2 [] [] [Uc 0 28 _,Uc 1 12 _] (.k (.k (.k .z))) (.kkk (.t 1 (.k8 (.k8 .z)))) ⟨bl,mv,trivial⟩ (.k (.k (.k .z))) (.kkkd (.k8 (.k8 (.kk .z)))) fun a w hI=>?_
   refine Qb ?_
   exact⟨k+1,⟨(show k+1≤n2 by omega),(hI.conv ⟨⟨0,_,_,rfl,⟨rfl,rfl,rfl⟩,rfl,fun _=>(Qdk (by rw[Qgh,Qht (by rw[Qb1]; omega),redAt_step (by omega)]))⟩,⟨1,_,_,rfl,⟨rfl,rfl,rfl⟩,rfl,fun _=>fun _ _ h=>h⟩,trivial⟩ ⟨⟨rfl,rfl,0,_,rfl,fun _ _ h=>h⟩,⟨rfl,rfl,1,_,rfl,fun _ _ h=>h⟩,⟨rfl,rfl,2,_,rfl,fun _ _ h=>h⟩,⟨rfl,rfl,20,_,rfl,(Qw (by omega))⟩,trivial⟩)⟩,(show n2-(k+1)<n2-k by omega)⟩
  ·have t4:=of_decide_eq_false ht
   refine wp_exit ?_
   refine Ql ?_
   refine Ql ?_
   refine Q7 ?_
   have hI:Inv ⟨29,w0,M,B⟩ [⟨29,29,none,none,.obj,0,0,false,Zo (Ue H b1 (Xj (if f=0 then L1 else Ka L1 s1 L2 s2 f n2) p1)),[]⟩,⟨5,5,none,none,.ptr,38,3,true,pv (Qv f),[]⟩] [] [⟨none,none,0,Qi (.slice (some ⟨b1,s1*3,none⟩) n1 c1)⟩,⟨none,none,10,Qi (.slice (some ⟨b2,s2*3,none⟩) n2 c2)⟩,⟨none,none,11,pI (n2:Int)⟩,⟨none,none,12,pI (k:Int)⟩,⟨none,none,13,pB (decide ((k:Int)<(n2:Int)))⟩] Qf _ _:=(hI.conv ⟨⟨0,_,_,rfl,⟨rfl,rfl,rfl⟩,rfl,fun _=>(Qdk (by rw[if_neg t2,show k=n2 by omega]))⟩,⟨1,_,_,rfl,⟨rfl,rfl,rfl⟩,rfl,fun _=>fun _ _ h=>h⟩,trivial⟩ ⟨⟨rfl,rfl,0,_,rfl,fun _ _ h=>h⟩,⟨rfl,rfl,1,_,rfl,fun _ _ h=>h⟩,⟨rfl,rfl,2,_,rfl,fun _ _ h=>h⟩,⟨rfl,rfl,3,_,rfl,fun _ _ h=>h⟩,⟨rfl,rfl,4,_,rfl,fun _ _ h=>h⟩,trivial⟩)
   exact finL0 hI rfl hH (n0:=0) rfl (hup_b _ _ _) 
theorem Yj (l:List Rat):J4 1 false (Qe l):=by
 rintro w v ⟨A,c,rfl,_⟩
 exact⟨[_],rfl,rfl,rfl,fun u hu=>by simp at hu; subst hu; exact⟨Jz _ _ _,rfl⟩⟩
theorem pEq_to {u v:Value} (h:u=v):∀w x,Qi u w x→Qi v w x:=fun _ _ k=>h▸k
theorem c_pivot1 {l:List Rat} {c j:Nat} (hc:c<l.length) (hl:c≤1000000000) (hb:∀x,x∈l→BdR j x):∀(M:Nat→Nat→Prop) (w:World) (v0 v1:Value),Mid M w→Box M (fun w=>(Qe l) w v0) w→Box M (fun w=>(Wr 1 false (pI (c:Int))) w v1) w→Calls Tryz.prog 95 #[v0,v1] w (RetB M (pB (!(decide ((l).getD c 0=0)))) w):=by
 intro M w0 v0 v1 hM hv0 hv1
 refine Q8 (N:=10) Tryz.func95 rfl rfl rfl hM (show EntsA M w0 [v0,v1] [⟨none,none,0,Qe l⟩,⟨none,none,1,Wr 1 false (pI (c:Int))⟩]from⟨⟨rfl,_,rfl,hv0⟩,⟨rfl,_,rfl,hv1⟩,trivial⟩) fun a hI=>?_
 refine Qj hI 1 [Uc 0 3 _] (.kk .z) ⟨mv,trivial⟩ (.kkk .z) fun a w hI=>?_
 refine Qj hI 7 [Uc 0 4 _,Uc 1 5 (pI (c:Int)),Uc 2 6 _,Uc 3 7 (Qv ((l).getD c 0)),Uc 4 8 _,Uc 5 9 _,Uc 6 3 _] (.kk (.t 6 .z)) ⟨mv,op_loadEq (.tmp 1 rfl rfl) ty_int (.here 4 rfl),Ky Xb,Q5 (.tmp 5 rfl rfl) Xx (Ym _) (.here 6 rfl),ce1 (Y2 _) (c_zero ((l).getD c 0)),nt,mv,trivial⟩ (.d8 (.dk .z)) fun a w hI=>?_
 refine wp_ret ?_
 exact Zu hI rfl (.tmp 0 rfl)
theorem c_indexPivot {X:Nat→List Rat} {n c j:Nat} (hn:n≤1000000) (hc:∀i,i<n→c<(X i).length) (hl:c≤1000000000) (hb:∀i,i<n→∀x,x∈X i→BdR j x):∀(M:Nat→Nat→Prop) (w:World) (v0 v1:Value),Mid M w→Box M (fun w=>(Qc 1 false n (fun i=>Qe (X i))) w v0) w→Box M (fun w=>(pClo 95 1 false (pI (c:Int))) w v1) w→Calls Tryz.prog 94 #[v0,v1] w (RetB M (pI (Ju (fun i=>!(decide ((X i).getD c 0=0))) n)) w):=by
 intro M w0 v0 v1 hM hv0 hv1
 refine Q8 (N:=19) Tryz.func94 rfl rfl rfl hM (show EntsA M w0 [v0,v1] [⟨none,none,0,Qc 1 false n (fun i=>Qe (X i))⟩,⟨none,none,1,pClo 95 1 false (pI (c:Int))⟩]from⟨⟨rfl,_,rfl,hv0⟩,⟨rfl,_,rfl,hv1⟩,trivial⟩) fun a hI=>?_
 refine Qj hI 1 [Uc 0 4 _] (.kk .z) ⟨mv,trivial⟩ (.kkk .z) fun a w hI=>?_
 refine wp_seq ?_
 refine Qj hI 3 [Uc 0 6 _,Uc 1 7 (pI (n:Int)),Uc 2 8 _] (.kkk .z) ⟨mv,Qm (.tmp 3 rfl rfl) (Qt).under (.here 4 rfl),mv,trivial⟩ (.kkkd (.kk .z)) fun a w hI=>?_
 refine wp_block ?_
 refine Q9 (fun(k:Nat) a w=>(k≤n∧∀q,q<k→(!(decide ((X q).getD c 0=0)))=false)∧Inv ⟨19,w0,M,fun _=>False⟩ [] [] [⟨none,none,0,Qc 1 false n (fun i=>Qe (X i))⟩,⟨none,none,1,pClo 95 1 false (pI (c:Int))⟩,⟨none,none,7,pI (n:Int)⟩,⟨none,none,8,pI (k:Int)⟩] Qf a w) (fun(k:Nat)=>n-k) (0) ⟨⟨Nat.zero_le _,fun q hq=>by omega⟩,(hI.conv trivial ⟨⟨rfl,rfl,0,_,rfl,fun _ _ h=>h⟩,⟨rfl,rfl,1,_,rfl,fun _ _ h=>h⟩,⟨rfl,rfl,3,_,rfl,fun _ _ h=>h⟩,⟨rfl,rfl,4,_,rfl,(Qw (by omega))⟩,trivial⟩)⟩ ?_
 intro k a w hIk
 obtain⟨hp,hI⟩:=hIk
 refine Qj hI 1 [Uc 0 9 _] (.kkkk .z) ⟨bl,trivial⟩ (.kkkk (.k .z)) fun a w hI=>?_
 refine wp_seq ?_
 refine Xa hI 4 rfl (fun ht=>?_) (fun ht=>?_)
 ·have t1:=of_decide_eq_true ht
  refine wp_skip ?_
  refine Qb ?_
  refine wp_seq ?_
  refine wp_block ?_
  refine Qj hI 2 [Uc 0 10 _,Uc 1 5 _] (.kkkk (.k .z)) ⟨mv,mv,trivial⟩ (.kkkk (.kkk .z)) fun a w hI=>?_
  refine Qj hI 6 [Uc 0 11 _,Uc 1 12 _,Uc 2 13 _,Uc 3 14 _,Uc 4 15 (Qe (X k)),Uc 5 16 (pB (!(decide ((X k).getD c 0=0))))] (.kkkk (.kkk .z)) ⟨mv,mv,mv,Ky Qt,Q5 (.tmp 10 rfl rfl) Xn ((Yj _)) (.here 11 rfl),op_callc1 (fun _ _=>by kernel_rfl) (.tmp 7 rfl rfl) (.tmp 11 rfl rfl) (.here 12 rfl) (c_pivot1 (hc _ (by omega)) hl (hb _ (by omega))),trivial⟩ (.k8 (.kkkk (.k .z))) fun a w hI=>?_
  refine Xa hI 12 rfl (fun ht=>?_) (fun ht=>?_)
  ·have t2:=ht
   refine Qj hI 2 [Uc 0 17 _,Uc 1 4 _] (.k8 (.kkkk (.k .z))) ⟨mv,mv,trivial⟩ (.k8 (.kkkk (.kkk .z))) fun a w hI=>?_
   refine wp_ret ?_
   refine Z5 ?_
   refine Xf ?_
   refine Xf ?_
   refine Z5 ?_
   refine Xf ?_
   exact Zu hI rfl (.imp (.tmp 14 rfl) (Qw (firstI_yes (p:=fun i=>!(decide ((X i).getD c 0=0))) (by omega) t2 hp.2).symm))
  ·have t3:=ht
   refine wp_skip ?_
   refine Xo ?_
   refine Qb ?_
   refine srT0 hI 2 [Uc 0 18 _,Uc 1 8 _] (.kkk (.t 1 (.k8 (.k .z)))) ⟨bl,mv,trivial⟩ (.kkkd (.k8 (.kkk .z))) fun a w hI=>?_
   refine Qb ?_
   exact⟨k+1,⟨⟨by omega,fun q hq=>by rcases Nat.lt_or_ge q k with h|h; exact hp.2 q h; rw[show q=k by omega]; exact t3⟩,(hI.conv trivial ⟨⟨rfl,rfl,0,_,rfl,fun _ _ h=>h⟩,⟨rfl,rfl,1,_,rfl,fun _ _ h=>h⟩,⟨rfl,rfl,2,_,rfl,fun _ _ h=>h⟩,⟨rfl,rfl,13,_,rfl,(Qw (by omega))⟩,trivial⟩)⟩,(show n-(k+1)<n-k by omega)⟩
 ·have t4:=of_decide_eq_false ht
  refine wp_exit ?_
  refine Ql ?_
  refine Ql ?_
  refine Q7 ?_
  refine Qb ?_
  refine Qj hI 1 [Uc 0 4 _] (.kkkk (.k .z)) ⟨mv,trivial⟩ (.dddd (.dk .z)) fun a w hI=>?_
  refine wp_ret ?_
  exact Zu hI rfl (.imp (.tmp 0 rfl) (Qw (Qhe (fun j hj=>hp.2 j (by omega))).symm))
theorem r_pivot {H:List Bk} {g cap c j:Nat} {R:List RowL} {X:List (List Rat)} (hM0:MatOk g cap R X H) (hc:c<X.length) (hn:X.length≤1000000) (hcol:∀i,i<X.length→c<(X.getD i []).length) (hb:∀i,i<X.length→∀x,x∈X.getD i []→BdR j x):∀(M:Nat→Nat→Prop) (B:Nat→Prop) (w:World) (v0 v1:Value),Mid M w→(∀k,B k→∀o,¬M k o)→HpOk B w H→Box (plus M B) (fun w=>(Qi (.slice (some ⟨g,0,none⟩) X.length cap)) w v0) w→Box (plus M B) (fun w=>(pI (c:Int)) w v1) w→Calls Tryz.prog 55 #[v0,v1] w (RetL M B (Xr (pB (decide (0≤Xw X c))) (pB (decide (Xw X c>0)))) (Ue H g (Jb (Xg X R c))) w):=by
 intro M B w0 v0 v1 hM hBM hH hv0 hv1
 have hu:∀e,e∈H→e.b=g→e.items=Jb R:=fun e he hb'=>hup_items hH he hM0.top hb'
 have hrg:_:=Ws hc
 have hlen:_:=hM0.len
 have hsz:_:=hM0.size
 refine Qg7 (N:=34) (id:=34) (s:=34) Tryz.func55 rfl rfl rfl hM hBM hH (show EntsA (plus M B) w0 [v0,v1] [⟨none,none,0,Qi (.slice (some ⟨g,0,none⟩) X.length cap)⟩,⟨none,none,1,pI (c:Int)⟩]from⟨⟨rfl,_,rfl,hv0⟩,⟨rfl,_,rfl,hv1⟩,trivial⟩) fun a hI=>?_
 refine Q3 hI 3 [⟨3,3,some 0,none,.ptr,3,1,false,pv (pI (c:Int)),[]⟩] [] [Uc 1 4 _,Uc 2 5 _] (.k .z) (.kk .z) ⟨Qa8 1 rfl rfl (by kernel_rfl) (by kernel_rfl) rfl rfl rfl (.tmp 1 rfl rfl) (fits_int _) rfl,mv,mv,trivial⟩ (.k (.k .z)) (.kdkk .z) fun a w hI=>?_
 obtain⟨p3,hI⟩:=hI.openPtr 1 rfl rfl rfl
 refine Q3 hI 6 [] [] [Uc 0 7 _,Uc 1 8 (pI (c:Int)),Uc 2 9 (Qi (.slice (some ⟨g,c,none⟩) (X.length-c) (cap-c))),Uc 3 10 (Qi (.func (.func 95) #[] #[.pointer (some ⟨p3,0,none⟩)])),Uc 4 11 (pI (Xw X c)),Uc 5 6 _] (.k (.k .z)) (.kkkk .z) ⟨mv,Xy 1 rfl rfl rfl rfl (by kernel_rfl) ty_int rfl (.here 5 rfl),op_sliceLo (.tmp 4 rfl rfl) (.tmp 5 rfl rfl) Qt (by omega) (by omega) (by omega) (.at_ 6 _ _ rfl (pEq_to (by simp))),Qe1 (.tmp 0 rfl rfl) (.here 7 rfl),op_callRO (fun _ _=>by kernel_rfl) 0 rfl rfl rfl (by kernel_rfl) rfl 1 rfl rfl rfl (by kernel_rfl) rfl (.tmp 0 rfl rfl) (.tmp 6 rfl rfl) (.tmp 7 rfl rfl) (Y2 _) (.here 8 rfl) (fun B w v hH hv=>by rw[show v=_ from hv]; exact heap_rows hH hM0 (Nat.le_of_lt hc)) (c_indexPivot (X:=fun i=>X.getD (c+i) []) (by omega) (fun i hi=>hcol (c+i) (by omega)) (by omega) (fun i hi=>hb (c+i) (by omega))),mv,trivial⟩ (.k (.k .z)) (.kkkk (.dddd (.dk .z))) fun a w hI=>?_
 refine wp_seq ?_
 refine Q3 hI 2 [] [] [Uc 0 12 _,Uc 1 13 _] (.k (.k .z)) (.kkkk (.k .z)) ⟨mv,bl,trivial⟩ (.k (.k .z)) (.kkkk (.kdk .z)) fun a w hI=>?_
 refine Xa hI 5 rfl (fun ht=>?_) (fun ht=>?_)
 ·have t1:=of_decide_eq_true ht
  refine Q3 hI 2 [] [] [Uc 0 4 _,Uc 1 5 _] (.k (.k .z)) (.kk (.t 0 (.t 1 (.kk .z)))) ⟨mv,mv,trivial⟩ (.k (.k .z)) (.kkdd (.kdkk .z)) fun a w hI=>?_
  refine wp_ret ?_
  refine Xf ?_
  have hI:Inv ⟨34,w0,M,B⟩ [⟨34,34,none,none,.obj,0,0,false,Zo (Ue H g (Jb (Xg X R c))),[]⟩,⟨3,3,none,none,.ptr,3,1,false,pv (pI (c:Int)),[]⟩] [] [⟨none,none,3,Qi (.pointer (some ⟨p3,0,none⟩))⟩,⟨none,none,0,Qi (.slice (some ⟨g,0,none⟩) X.length cap)⟩,⟨none,none,6,pI (Xw X c)⟩,⟨none,none,4,pB false⟩,⟨none,none,5,pB false⟩] Qf _ _:=(hI.conv ⟨⟨0,_,_,rfl,⟨rfl,rfl,rfl⟩,rfl,fun _=>(Qdk (by unfold Xg; rw[if_pos (by omega)]; exact(Qcv hu).symm))⟩,⟨1,_,_,rfl,⟨rfl,rfl,rfl⟩,rfl,fun _=>fun _ _ h=>h⟩,trivial⟩ ⟨⟨rfl,rfl,0,_,rfl,fun _ _ h=>h⟩,⟨rfl,rfl,1,_,rfl,fun _ _ h=>h⟩,⟨rfl,rfl,2,_,rfl,fun _ _ h=>h⟩,⟨rfl,rfl,3,_,rfl,fun _ _ h=>h⟩,⟨rfl,rfl,4,_,rfl,fun _ _ h=>h⟩,trivial⟩)
  exact finL2 hI rfl hH (n0:=0) rfl (hup_b _ _ _) (.imp (.tmp 3 rfl) (Yt (decide_eq_false (by omega)).symm)) (.imp (.tmp 4 rfl) (Yt (decide_eq_false (by omega)).symm))
 ·have t2:=of_decide_eq_false ht
  refine wp_skip ?_
  refine Qb ?_
  obtain⟨i0,hi0⟩:∃i0:Nat,Xw X c=(i0:Int):=⟨(Xw X c).toNat,by omega⟩
  obtain⟨x,hx⟩:=hM0.get hc
  obtain⟨y,hy⟩:=hM0.get (i:=c+i0) (by omega)
  refine sqD hI [0,0,0,0,0,24,0,0,0,384,960,1984,0,0,12288,28672,65475,131011,262143,524287] [] [] [Uc 0 14 _,Uc 1 15 (pI (c:Int)),Uc 2 16 _,Uc 3 17 (pI (c:Int)),Uc 4 18 _,Uc 5 19 _,Uc 6 20 _,Uc 7 21 (pI (c:Int)),Uc 8 22 _,Uc 9 23 _,Uc 10 24 (Qi (.pointer (some ⟨g,0+(((c:Int)+(Xw X c))).toNat*1,none⟩))),Uc 11 25 (Qi (.slice (some ⟨y.b,0,none⟩) y.n y.cap)),Uc 12 26 _,Uc 13 27 (pI (c:Int)),Uc 14 28 (Qi (.pointer (some ⟨g,0+((c:Int)).toNat*1,none⟩))),Uc 15 29 (Qi (.slice (some ⟨x.b,0,none⟩) x.n x.cap)),Uc 16 30 (Qi (.pointer (some ⟨g,0+((c:Int)).toNat*1,none⟩))),Uc 18 31 (Qi (.pointer (some ⟨g,0+(((c:Int)+(Xw X c))).toNat*1,none⟩)))] (.u none [(17,Zo (Ye H g c (Zm y.hdr))),(19,Zo (Ye (Ye H g c (Zm y.hdr)) g (c+i0) (Zm x.hdr)))] (.k .z)) (.kkkk (.kk .z)) ⟨mv,Xy 1 rfl rfl rfl rfl (by kernel_rfl) ty_int rfl (.here 7 rfl),mv,Xy 1 rfl rfl rfl rfl (by kernel_rfl) ty_int rfl (.here 9 rfl),mv,bl,mv,Xy 1 rfl rfl rfl rfl (by kernel_rfl) ty_int rfl (.here 13 rfl),mv,bl,Qs (.tmp 12 rfl rfl) (.tmp 15 rfl rfl) Qt (by omega) (by omega) (by kernel_rfl) (.here 16 rfl),Yv (e:=⟨g,1,false,Jb R⟩) (idx:=c+i0) 0 rfl rfl rfl (by kernel_rfl) rfl (.tmp 16 rfl rfl) hM0.top rfl (Vb hy) (show 0+(((c:Int)+(Xw X c))).toNat*1=(c+i0)*1 by omega) Xn (.here 17 rfl),mv,Xy 1 rfl rfl rfl rfl (by kernel_rfl) ty_int rfl (.here 19 rfl),Qs (.tmp 18 rfl rfl) (.tmp 19 rfl rfl) Qt (by omega) (by omega) (by kernel_rfl) (.here 20 rfl),Yv (e:=⟨g,1,false,Jb R⟩) (idx:=c) 0 rfl rfl rfl (by kernel_rfl) rfl (.tmp 20 rfl rfl) hM0.top rfl (Vb hx) (show 0+((c:Int)).toNat*1=(c)*1 by omega) Xn (.here 21 rfl),Qs (.tmp 6 rfl rfl) (.tmp 7 rfl rfl) Qt (by omega) (by omega) (by kernel_rfl) (.here 22 rfl),Zn (e:=⟨g,1,false,Jb R⟩) (idx:=c) (it:=Zm y.hdr) 0 rfl rfl rfl (by kernel_rfl) 0 rfl (by kernel_rfl) (by kernel_rfl) rfl (.tmp 22 rfl rfl) hM0.top rfl (by rw[Qfa]; omega) (show 0+((c:Int)).toNat*1=(c)*1 by omega) Xn (.tmp 17 rfl rfl) (Vo _ _ _),Qs (.tmp 8 rfl rfl) (.tmp 11 rfl rfl) Qt (by omega) (by omega) (by kernel_rfl) (.here 23 rfl),Zn (e:=⟨g,1,false,(Jb R).set c (Zm y.hdr)⟩) (idx:=c+i0) (it:=Zm x.hdr) 0 rfl rfl rfl (by kernel_rfl) 1 rfl (by kernel_rfl) (by kernel_rfl) rfl (.tmp 23 rfl rfl) (hset_mem hM0.top rfl) rfl (by rw[List.length_set,Qfa]; omega) (show 0+(((c:Int)+(Xw X c))).toNat*1=(c+i0)*1 by omega) Xn (.tmp 21 rfl rfl) (Vo _ _ _),trivial⟩ (.s (.c .o) (.k .z)) (.ddkk (.kddd (.d8 (.d8 .z)))) fun a w hI=>?_
  refine Q3 hI 4 [] [] [Uc 0 32 _,Uc 1 33 _,Uc 2 4 _,Uc 3 5 _] (.k (.k .z)) (.t 2 (.t 3 (.k .z))) ⟨mv,bl,mv,mv,trivial⟩ (.k (.k .z)) (.dddd (.dkk .z)) fun a w hI=>?_
  refine wp_ret ?_
  have hI:Inv ⟨34,w0,M,B⟩ [⟨34,34,none,none,.obj,0,0,false,Zo (Ue H g (Jb (Xg X R c))),[]⟩,⟨3,3,none,none,.ptr,3,1,false,pv (pI (c:Int)),[]⟩] [] [⟨none,none,4,pB true⟩,⟨none,none,5,pB (decide ((Xw X c)>(0:Int)))⟩] Qf _ _:=(hI.conv ⟨⟨0,_,_,rfl,⟨rfl,rfl,rfl⟩,rfl,fun _=>(Qdk (by unfold Xg; rw[if_neg (by omega),show(Xw X c).toNat=i0 by omega]; exact heap_swap hu hx hy))⟩,⟨1,_,_,rfl,⟨rfl,rfl,rfl⟩,rfl,fun _=>fun _ _ h=>h⟩,trivial⟩ ⟨⟨rfl,rfl,0,_,rfl,fun _ _ h=>h⟩,⟨rfl,rfl,1,_,rfl,fun _ _ h=>h⟩,trivial⟩)
  exact finL2 hI rfl hH (n0:=0) rfl (hup_b _ _ _) (.imp (.tmp 0 rfl) (Yt (decide_eq_true (by omega)).symm)) (.tmp 1 rfl)
end Wx

namespace Wx
attribute [local irreducible] Q0
set_option maxRecDepth 100000
open Go Go.RowKit Go.Proofs
set_option linter.unusedVariables false

theorem c_clone {l:List Rat} (hn:0<l.length) (hm:l.length≤1000000):∀(M:Nat→Nat→Prop) (w:World) (v0:Value),Mid M w→Box M (fun w=>(Qe l) w v0) w→Calls Tryz.prog 80 #[v0] w (RetRow l w):=by
 intro M w0 v0 hM hv0
 refine Yk (N:=8) Tryz.func80 rfl rfl rfl hM (show EntsA M w0 [v0] [⟨none,none,0,Qe l⟩]from⟨⟨rfl,_,rfl,hv0⟩,trivial⟩) fun a hI=>?_
 refine Qj hI 1 [Uc 0 2 _] (.k .z) ⟨mv,trivial⟩ (.kk .z) fun a w hI=>?_
 refine wp_seq ?_
 refine Qj hI 2 [Uc 0 3 _,Uc 1 4 (pB false)] (.kk .z) ⟨mv,op_eqlNil (.tmp 2 rfl rfl) hn (Xb).under (.here 3 rfl),trivial⟩ (.kkdk .z) fun a w hI=>?_
 refine Xv hI 2 rfl ?_
 refine wp_skip ?_
 refine Qb ?_
 refine Q3 hI 4 [⟨7,7,some 2,some 3,(.grow (l.length) 3),38,0,false,pv Q4,[]⟩,⟨2,2,some 3,none,(.grow (l.length) 3),38,0,false,pv Q4,[]⟩] [] [Uc 0 5 pEmpty,Uc 1 6 _,Uc 2 7 (Qe l),Uc 3 2 (Qe l)] .z (.k (.t 3 (.k .z))) ⟨op_buildSlice0 Xb (.here 3 rfl),mv,op_append0 0 rfl rfl rfl rfl (by kernel_rfl) (.tmp 3 rfl rfl) (.tmp 4 rfl rfl) Qdx (fun h=>by cases h) (fun i _=>Ym _) hn (by omega) (.here 5 rfl),Vt 0 rfl rfl (by kernel_rfl) rfl rfl 1 rfl rfl rfl rfl (by kernel_rfl) (.tmp 5 rfl rfl) (.here 6 rfl),trivial⟩ (.d (.k .z)) (.dddd (.ddk .z)) fun a w hI=>?_
 refine wp_ret ?_
 exact finRow hI rfl (n0:=0) rfl hn (k:=0) rfl
theorem r_copied {X:List (List Rat)} (hn:0<X.length) (hx:X.length≤1000000) (hX:∀i,i<X.length→0<(X.getD i []).length) (hm:∀i,i<X.length→(X.getD i []).length≤1000000):∀(M:Nat→Nat→Prop) (w:World) (v0:Value),Mid M w→Box M (fun w=>(Qc 1 false X.length (fun i=>Qe (X.getD i []))) w v0) w→Calls Tryz.prog 38 #[v0] w (RetO (MatC X) (MatL.hd X.length) (fun l=>l.H) w):=by
 intro M w0 v0 hM hv0
 refine Yk (N:=19) Tryz.func38 rfl rfl rfl hM (show EntsA M w0 [v0] [⟨none,none,0,Qc 1 false X.length (fun i=>Qe (X.getD i []))⟩]from⟨⟨rfl,_,rfl,hv0⟩,trivial⟩) fun a hI=>?_
 refine Qj hI 1 [Uc 0 2 _] (.k .z) ⟨mv,trivial⟩ (.kk .z) fun a w hI=>?_
 refine Q3 hI 1 [⟨3,3,some 0,none,(.grow 0 1),39,0,false,pv Q4,[]⟩] [] [Uc 0 3 (Qc 1 false ([]:List RowL).length (fun i=>Vh (Xe ([]:List RowL) i) (X.getD i [])))] .z (.kk .z) ⟨op_nilG 0 rfl rfl rfl (by kernel_rfl) (.here 2 rfl),trivial⟩ (.k .z) (.kkk .z) fun a w hI=>?_
 refine wp_seq ?_
 refine Q3 hI 3 [] [] [Uc 0 6 _,Uc 1 7 (pI (X.length:Int)),Uc 2 8 _] (.k .z) (.kkk .z) ⟨mv,Qm (.tmp 3 rfl rfl) (Qt).under (.here 4 rfl),mv,trivial⟩ (.k .z) (.dkkk (.kk .z)) fun a w hI=>?_
 refine wp_block ?_
 refine Q9 (fun(R:List RowL) a w=>(R.length≤X.length∧(R.Pairwise fun x y=>x.b≠y.b)∧∀r,r∈R→w0.heap.size≤r.b)∧Inv ⟨19,w0,M,fun _=>False⟩ [⟨3,3,none,none,(.grow R.length 1),39,0,false,pv Q4,[]⟩] [] [⟨none,none,2,Qi ((Value.slice none 0 0))⟩,⟨none,none,3,Qc 1 false R.length (fun i=>Vh (Xe R i) (X.getD i []))⟩,⟨none,none,6,Qc 1 false X.length (fun i=>Qe (X.getD i []))⟩,⟨none,none,7,pI (X.length:Int)⟩,⟨none,none,8,pI (R.length:Int)⟩] Qf a w) (fun(R:List RowL)=>X.length-R.length) (([]:List RowL)) ⟨⟨Nat.zero_le _,List.Pairwise.nil,fun r hr=>by cases hr⟩,(hI.conv ⟨⟨0,_,_,rfl,⟨rfl,rfl,rfl⟩,rfl,fun _=>fun _ _ h=>h⟩,trivial⟩ ⟨⟨rfl,rfl,0,_,rfl,fun _ _ h=>h⟩,⟨rfl,rfl,1,_,rfl,fun _ _ h=>h⟩,⟨rfl,rfl,2,_,rfl,fun _ _ h=>h⟩,⟨rfl,rfl,3,_,rfl,fun _ _ h=>h⟩,⟨rfl,rfl,4,_,rfl,(Qw rfl)⟩,trivial⟩)⟩ ?_
 intro R a w hIk
 obtain⟨hp,hI⟩:=hIk
 refine Q3 hI 1 [] [] [Uc 0 9 _] (.k .z) (.kkkk (.k .z)) ⟨bl,trivial⟩ (.k .z) (.kkkk (.kk .z)) fun a w hI=>?_
 refine wp_seq ?_
 refine Xa hI 5 rfl (fun ht=>?_) (fun ht=>?_)
 ·have t1:=of_decide_eq_true ht
  refine wp_skip ?_
  refine Qb ?_
  refine wp_seq ?_
  refine wp_block ?_
  refine Q3 hI 3 [] [] [Uc 0 10 _,Uc 1 11 (Qe (X.getD R.length [])),Uc 2 5 _] (.k .z) (.kkkk (.kk .z)) ⟨Ky Qt,Q5 (.tmp 6 rfl rfl) Xn ((Yj _)) (.here 7 rfl),mv,trivial⟩ (.k .z) (.kkkk (.kddd (.k .z))) fun a w hI=>?_
  refine sem_ST hI [⟨12,12,some 0,none,(.grow R.length 1),39,0,false,pv Q4,[]⟩] [] [⟨some 0,none,12,Qc 1 false R.length (fun i=>Vh (Xe R i) (X.getD i []))⟩,⟨some 1,none,13,Qe (X.getD R.length [])⟩] (.u (some 0) [] .z) (.kkkk (.kk .z)) rfl [0,1,3,7,15,31] 2 (by kernel_rfl) ?_ (.d (.k .z)) (.kdkk (.kdkk .z)) (fun a w hI=>hI) (⟨_,fun a w hI=>(step_callRow (fun _ _=>by kernel_rfl) hI (.tmp 5 rfl rfl) (fun M w v hM hv=>c_clone (hX _ (by omega)) (hm _ (by omega)) M w v hM hv) (by kernel_rfl) (by kernel_rfl) (by kernel_rfl)).exC (C':=fun l:RowL=>w0.heap.size≤l.b∧∀q,q∈R→q.b≠l.b) fun l hl=>⟨Nat.le_trans hI.grown hl,fun q hq=>Nat.ne_of_lt (Nat.lt_of_lt_of_le (rows_lt (k:=4) hI rfl q hq) hl)⟩,
    _,U2 fun l hC a w hI=>Jw hI [] [⟨some 0,none,15,Qc 1 false 1 (fun _=>Vh l (X.getD R.length []))⟩] (.k .z) (.kkkk (.kkk .z)) (by kernel_rfl) (Qcz (agg:=false) Qt Qhz rfl rfl (by decide) (.tmp 0 rfl rfl) (fits_own _ _) (.here 7 rfl)) (.k .z) (.dkkk (.kkdk .z)),
    _,U2 fun l hC a w hI=>Jw hI [⟨16,16,some 0,none,(.grow (R.length+1) 1),39,0,false,pv Q4,[]⟩] [⟨some 0,none,16,Qc 1 false (R++[l]).length (fun i=>Vh (Xe (R++[l]) i) (X.getD i []))⟩] (.u (some 0) [] .z) (.kkkk (.kk .z)) (by kernel_rfl) (Qfn 0 rfl rfl (by kernel_rfl) rfl rfl 1 rfl rfl rfl rfl rfl (by kernel_rfl) (by kernel_rfl) (.tmp 4 rfl rfl) (.tmp 5 rfl rfl) app_Rows (fun _=>rfl) (fun i _=>fits_own _ _) (fun i _=>fits_own _ _) (by omega) (.at_ 6 _ _ rfl copied_snoc)) (.d (.k .z)) (.kkkk (.ddk .z)),
    _,U2 fun l hC a w hI=>Jw hI [⟨3,3,some 0,none,(.grow (R.length+1) 1),39,0,false,pv Q4,[]⟩] [⟨some 0,none,3,Qc 1 false (R++[l]).length (fun i=>Vh (Xe (R++[l]) i) (X.getD i []))⟩] (.u (some 0) [] .z) (.kkkk (.k .z)) (by kernel_rfl) (Vt 0 rfl rfl (by kernel_rfl) rfl rfl 1 rfl rfl rfl rfl (by kernel_rfl) (.tmp 4 rfl rfl) (.here 5 rfl)) (.d (.k .z)) (.kkkk (.dk .z)),
    rfl⟩) ?_
  ·exact⟨Qao 0 rfl rfl (by kernel_rfl) rfl rfl 1 rfl rfl rfl rfl (by kernel_rfl) (.tmp 1 rfl rfl) (.here 6 rfl),Qx (.tmp 5 rfl rfl) (.here 7 rfl),trivial⟩
  ·rintro a w ⟨l,hC,hI⟩
   have hC:w0.heap.size≤l.b∧∀q,q∈R→q.b≠l.b:=hC
   refine Xo ?_
   refine Qb ?_
   refine Z3 hI 2 [] [] [Uc 0 17 _,Uc 1 8 _] (.k .z) (.kkk (.t 1 (.k .z))) ⟨bl,mv,trivial⟩ (.k .z) (.kkkd (.kdk .z)) fun a w hI=>?_
   refine Qb ?_
   exact⟨R++[l],⟨⟨by simp; omega,pairwise_snoc hp.2.1 hC.2,fun r hr=>(List.mem_append.1 hr).elim (hp.2.2 r) fun h=>by rw[List.mem_singleton.1 h]; exact hC.1⟩,(hI.conv ⟨⟨0,_,_,rfl,⟨rfl,rfl,rfl⟩,(congrArg (Kd.grow · 1) (by simp)),fun _=>fun _ _ h=>h⟩,trivial⟩ ⟨⟨rfl,rfl,0,_,rfl,fun _ _ h=>h⟩,⟨rfl,rfl,3,_,rfl,fun _ _ h=>h⟩,⟨rfl,rfl,1,_,rfl,fun _ _ h=>h⟩,⟨rfl,rfl,2,_,rfl,fun _ _ h=>h⟩,⟨rfl,rfl,4,_,rfl,(Qw (by simp))⟩,trivial⟩)⟩,(show X.length-(R++[l]).length<X.length-R.length by simp; omega)⟩
 ·have t2:=of_decide_eq_false ht
  refine wp_exit ?_
  refine Ql ?_
  refine Ql ?_
  refine Q7 ?_
  refine Qb ?_
  refine Q3 hI 2 [⟨18,18,some 0,some 1,(.grow R.length 1),39,0,false,pv Q4,[]⟩,⟨2,2,some 1,none,(.grow R.length 1),39,0,false,pv Q4,[]⟩] [] [Uc 0 18 (Qc 1 false R.length (fun i=>Vh (Xe R i) (X.getD i []))),Uc 1 2 (Qc 1 false R.length (fun i=>Vh (Xe R i) (X.getD i [])))] (.u (some 0) [] .z) (.t 1 (.kkkk (.k .z))) ⟨Qao 0 rfl rfl (by kernel_rfl) rfl rfl 1 rfl rfl rfl rfl (by kernel_rfl) (.tmp 1 rfl rfl) (.here 6 rfl),Vt 1 rfl rfl (by kernel_rfl) rfl rfl 2 rfl rfl rfl rfl (by kernel_rfl) (.tmp 6 rfl rfl) (.here 7 rfl),trivial⟩ (.d (.d (.k .z))) (.dddd (.dddk .z)) fun a w hI=>?_
  refine wp_ret ?_
  exact finCopied hI rfl (n0:=0) rfl (by omega) hX (by omega) hp.2.1 hp.2.2 (k:=0) rfl
end Wx

namespace Wx
attribute [local irreducible] Q0
set_option maxRecDepth 100000
open Go Go.RowKit Go.Proofs
set_option linter.unusedVariables false

theorem c_check1 {l:List Rat} {X:List (List Rat)} (h0:0<X.length) (hX:X.length≤1000000):∀(M:Nat→Nat→Prop) (w:World) (v0 v1:Value),Mid M w→Box M (fun w=>(Qe l) w v0) w→Box M (fun w=>(Wr 1 false (Qc 1 false X.length (fun i=>Qe (X.getD i [])))) w v1) w→Calls Tryz.prog 87 #[v0,v1] w (RetB M (pB ((l.length:Int) != ((X.getD 0 []).length:Int))) w):=by
 intro M w0 v0 v1 hM hv0 hv1
 refine Q8 (N:=11) Tryz.func87 rfl rfl rfl hM (show EntsA M w0 [v0,v1] [⟨none,none,0,Qe l⟩,⟨none,none,1,Wr 1 false (Qc 1 false X.length (fun i=>Qe (X.getD i [])))⟩]from⟨⟨rfl,_,rfl,hv0⟩,⟨rfl,_,rfl,hv1⟩,trivial⟩) fun a hI=>?_
 refine Qj hI 1 [Uc 0 3 _] (.kk .z) ⟨mv,trivial⟩ (.kkk .z) fun a w hI=>?_
 refine Qj hI 8 [Uc 0 4 _,Uc 1 5 (pI (l.length:Int)),Uc 2 6 (Qc 1 false X.length (fun i=>Qe (X.getD i []))),Uc 3 7 _,Uc 4 8 (Qe (X.getD 0 [])),Uc 5 9 (pI ((X.getD 0 []).length:Int)),Uc 6 10 _,Uc 7 3 _] (.kk (.t 7 .z)) ⟨mv,Qm (.tmp 3 rfl rfl) (Xb).under (.here 4 rfl),Q5 (.tmp 1 rfl rfl) Kk (V3) (.here 5 rfl),ixL Qt,Q5 (.tmp 6 rfl rfl) Xn ((Yj _)) (.here 7 rfl),Qm (.tmp 7 rfl rfl) (Xb).under (.here 8 rfl),bl,mv,trivial⟩ (.d8 (.ddk .z)) fun a w hI=>?_
 refine wp_ret ?_
 exact Zu hI rfl (.tmp 0 rfl)
theorem c_indexCheck {X:List (List Rat)} (h0:0<X.length) (hX:X.length≤1000000):∀(M:Nat→Nat→Prop) (w:World) (v0 v1:Value),Mid M w→Box M (fun w=>(Qc 1 false X.length (fun i=>Qe (X.getD i []))) w v0) w→Box M (fun w=>(pClo 87 1 false (Qc 1 false X.length (fun i=>Qe (X.getD i [])))) w v1) w→Calls Tryz.prog 94 #[v0,v1] w (RetB M (pI (Ju (fun i=>((X.getD i []).length:Int) != ((X.getD 0 []).length:Int)) X.length)) w):=by
 intro M w0 v0 v1 hM hv0 hv1
 refine Q8 (N:=19) Tryz.func94 rfl rfl rfl hM (show EntsA M w0 [v0,v1] [⟨none,none,0,Qc 1 false X.length (fun i=>Qe (X.getD i []))⟩,⟨none,none,1,pClo 87 1 false (Qc 1 false X.length (fun i=>Qe (X.getD i [])))⟩]from⟨⟨rfl,_,rfl,hv0⟩,⟨rfl,_,rfl,hv1⟩,trivial⟩) fun a hI=>?_
 refine Qj hI 1 [Uc 0 4 _] (.kk .z) ⟨mv,trivial⟩ (.kkk .z) fun a w hI=>?_
 refine wp_seq ?_
 refine Qj hI 3 [Uc 0 6 _,Uc 1 7 (pI (X.length:Int)),Uc 2 8 _] (.kkk .z) ⟨mv,Qm (.tmp 3 rfl rfl) (Qt).under (.here 4 rfl),mv,trivial⟩ (.kkkd (.kk .z)) fun a w hI=>?_
 refine wp_block ?_
 refine Q9 (fun(k:Nat) a w=>(k≤X.length∧∀q,q<k→(((X.getD q []).length:Int) != ((X.getD 0 []).length:Int))=false)∧Inv ⟨19,w0,M,fun _=>False⟩ [] [] [⟨none,none,0,Qc 1 false X.length (fun i=>Qe (X.getD i []))⟩,⟨none,none,1,pClo 87 1 false (Qc 1 false X.length (fun i=>Qe (X.getD i [])))⟩,⟨none,none,7,pI (X.length:Int)⟩,⟨none,none,8,pI (k:Int)⟩] Qf a w) (fun(k:Nat)=>X.length-k) (0) ⟨⟨Nat.zero_le _,fun q hq=>by omega⟩,(hI.conv trivial ⟨⟨rfl,rfl,0,_,rfl,fun _ _ h=>h⟩,⟨rfl,rfl,1,_,rfl,fun _ _ h=>h⟩,⟨rfl,rfl,3,_,rfl,fun _ _ h=>h⟩,⟨rfl,rfl,4,_,rfl,(Qw (by omega))⟩,trivial⟩)⟩ ?_
 intro k a w hIk
 obtain⟨hp,hI⟩:=hIk
 refine Qj hI 1 [Uc 0 9 _] (.kkkk .z) ⟨bl,trivial⟩ (.kkkk (.k .z)) fun a w hI=>?_
 refine wp_seq ?_
 refine Xa hI 4 rfl (fun ht=>?_) (fun ht=>?_)
 ·have t1:=of_decide_eq_true ht
  refine wp_skip ?_
  refine Qb ?_
  refine wp_seq ?_
  refine wp_block ?_
  refine Qj hI 2 [Uc 0 10 _,Uc 1 5 _] (.kkkk (.k .z)) ⟨mv,mv,trivial⟩ (.kkkk (.kkk .z)) fun a w hI=>?_
  refine Qj hI 6 [Uc 0 11 _,Uc 1 12 _,Uc 2 13 _,Uc 3 14 _,Uc 4 15 (Qe (X.getD k [])),Uc 5 16 (pB (((X.getD k []).length:Int) != ((X.getD 0 []).length:Int)))] (.kkkk (.kkk .z)) ⟨mv,mv,mv,Ky Qt,Q5 (.tmp 10 rfl rfl) Xn ((Yj _)) (.here 11 rfl),op_callc1 (fun _ _=>by kernel_rfl) (.tmp 7 rfl rfl) (.tmp 11 rfl rfl) (.here 12 rfl) (c_check1 h0 hX),trivial⟩ (.k8 (.kkkk (.k .z))) fun a w hI=>?_
  refine Xa hI 12 rfl (fun ht=>?_) (fun ht=>?_)
  ·have t2:=ht
   refine Qj hI 2 [Uc 0 17 _,Uc 1 4 _] (.k8 (.kkkk (.k .z))) ⟨mv,mv,trivial⟩ (.k8 (.kkkk (.kkk .z))) fun a w hI=>?_
   refine wp_ret ?_
   refine Z5 ?_
   refine Xf ?_
   refine Xf ?_
   refine Z5 ?_
   refine Xf ?_
   exact Zu hI rfl (.imp (.tmp 14 rfl) (Qw (firstI_yes (p:=fun i=>((X.getD i []).length:Int) != ((X.getD 0 []).length:Int)) (by omega) t2 hp.2).symm))
  ·have t3:=ht
   refine wp_skip ?_
   refine Xo ?_
   refine Qb ?_
   refine srT0 hI 2 [Uc 0 18 _,Uc 1 8 _] (.kkk (.t 1 (.k8 (.k .z)))) ⟨bl,mv,trivial⟩ (.kkkd (.k8 (.kkk .z))) fun a w hI=>?_
   refine Qb ?_
   exact⟨k+1,⟨⟨by omega,fun q hq=>by rcases Nat.lt_or_ge q k with h|h; exact hp.2 q h; rw[show q=k by omega]; exact t3⟩,(hI.conv trivial ⟨⟨rfl,rfl,0,_,rfl,fun _ _ h=>h⟩,⟨rfl,rfl,1,_,rfl,fun _ _ h=>h⟩,⟨rfl,rfl,2,_,rfl,fun _ _ h=>h⟩,⟨rfl,rfl,13,_,rfl,(Qw (by omega))⟩,trivial⟩)⟩,(show X.length-(k+1)<X.length-k by omega)⟩
 ·have t4:=of_decide_eq_false ht
  refine wp_exit ?_
  refine Ql ?_
  refine Ql ?_
  refine Q7 ?_
  refine Qb ?_
  refine Qj hI 1 [Uc 0 4 _] (.kkkk (.k .z)) ⟨mv,trivial⟩ (.dddd (.dk .z)) fun a w hI=>?_
  refine wp_ret ?_
  exact Zu hI rfl (.imp (.tmp 0 rfl) (Qw (Qhe (fun j hj=>hp.2 j (by omega))).symm))
theorem Qfd {X:List (List Rat)} (h0:0<X.length) (hX:X.length≤1000000):∀(M:Nat→Nat→Prop) (w:World) (v0 v1:Value),Mid M w→Box M (fun w=>(Qc 1 false X.length (fun i=>Qe (X.getD i []))) w v0) w→Box M (fun w=>(pClo 87 1 false (Qc 1 false X.length (fun i=>Qe (X.getD i [])))) w v1) w→Calls Tryz.prog 86 #[v0,v1] w (RetB M (pB (decide ((Ju (fun i=>((X.getD i []).length:Int) != ((X.getD 0 []).length:Int)) X.length)≥(0:Int)))) w):=by
 intro M w0 v0 v1 hM hv0 hv1
 refine Q8 (N:=9) Tryz.func86 rfl rfl rfl hM (show EntsA M w0 [v0,v1] [⟨none,none,0,Qc 1 false X.length (fun i=>Qe (X.getD i []))⟩,⟨none,none,1,pClo 87 1 false (Qc 1 false X.length (fun i=>Qe (X.getD i [])))⟩]from⟨⟨rfl,_,rfl,hv0⟩,⟨rfl,_,rfl,hv1⟩,trivial⟩) fun a hI=>?_
 refine Qj hI 1 [Uc 0 4 _] (.kk .z) ⟨mv,trivial⟩ (.kkk .z) fun a w hI=>?_
 refine Qj hI 5 [Uc 0 5 _,Uc 1 6 _,Uc 2 7 _,Uc 3 8 _,Uc 4 4 _] (.kk (.t 4 .z)) ⟨mv,mv,Ui (c_indexCheck h0 hX),bl,mv,trivial⟩ (.dddd (.dddk .z)) fun a w hI=>?_
 refine wp_ret ?_
 exact Zu hI rfl (.tmp 0 rfl)
structure Right (X:List (List Rat)):Prop where
 rows:0<X.length∧X.length≤8
 cols:0<(X.getD 0 []).length∧(X.getD 0 []).length≤8
 rect:∀i,i<X.length→(X.getD i []).length=(X.getD 0 []).length
theorem Right.no {X:List (List Rat)} (h:Right X):Ju (fun i=>((X.getD i []).length:Int) != ((X.getD 0 []).length:Int)) X.length = -1:=Qhe fun j hj=>by rw[h.rect j hj]; simp
theorem Qcc {X:List (List Rat)} (hR:Right X):∀(M:Nat→Nat→Prop) (w:World) (v0:Value),Mid M w→Box M (fun w=>(Qc 1 false X.length (fun i=>Qe (X.getD i []))) w v0) w→Calls Tryz.prog 48 #[v0] w (RetB M (pI 0) w):=by
 intro M w0 v0 hM hv0
 have h0:=hR.rows
 have h0':=hR.cols
 have h0'':=hR.no
 have h0:=hR.rows.1
 have hX:=hR.rows.2
 refine Q8 (N:=28) Tryz.func48 rfl rfl rfl hM (show EntsA M w0 [v0] [⟨none,none,0,Qc 1 false X.length (fun i=>Qe (X.getD i []))⟩]from⟨⟨rfl,_,rfl,hv0⟩,trivial⟩) fun a hI=>?_
 refine Q3 hI 2 [⟨1,1,some 0,none,.ptr,25,1,false,pv (Qc 1 false X.length (fun i=>Qe (X.getD i []))),[]⟩] [] [Uc 1 2 _] .z (.k .z) ⟨Qa8 0 rfl rfl (by kernel_rfl) (by kernel_rfl) rfl rfl rfl (.tmp 0 rfl rfl) (V3) rfl,mv,trivial⟩ (.k .z) (.dk .z) fun a w hI=>?_
 refine wp_seq ?_
 refine Q3 hI 22 [] [] [Uc 0 3 (Qc 1 false X.length (fun i=>Qe (X.getD i []))),Uc 1 4 (pI (X.length:Int)),Uc 2 5 (pB false),Uc 3 6 _,Uc 4 7 (Qc 1 false X.length (fun i=>Qe (X.getD i []))),Uc 5 8 (pI (X.length:Int)),Uc 6 9 (pB false),Uc 7 10 (pB false),Uc 8 11 _,Uc 9 12 (Qc 1 false X.length (fun i=>Qe (X.getD i []))),Uc 10 13 _,Uc 11 14 (Qe (X.getD 0 [])),Uc 12 15 (pI ((X.getD 0 []).length:Int)),Uc 13 16 (pB false),Uc 14 17 (pB false),Uc 15 18 _,Uc 16 19 (Qc 1 false X.length (fun i=>Qe (X.getD i []))),Uc 17 20 _,Uc 18 21 (Qe (X.getD 0 [])),Uc 19 22 (pI ((X.getD 0 []).length:Int)),Uc 20 23 (pB false),Uc 21 24 (pB false)] (.k .z) (.k .z) ⟨Xy 0 rfl rfl rfl rfl (by kernel_rfl) Kk rfl (.here 1 rfl),Qm (.tmp 1 rfl rfl) (Qt).under (.here 2 rfl),Q6 (v:=.bool (decide ((X.length:Int)<(1:Int)))) (.tmp 2 rfl rfl) (.const _) (fun _=>rfl) (.at_ 3 _ _ rfl (Yt ((decide_eq_false (by omega))))),mv,ye (Xy 0 rfl rfl rfl rfl (by kernel_rfl) Kk rfl (.here 5 rfl)),ye (Qm (.tmp 5 rfl rfl) (Qt).under (.here 6 rfl)),ye (Q6 (v:=.bool (decide ((X.length:Int)>(8:Int)))) (.tmp 6 rfl rfl) (.const _) (fun _=>rfl) (.at_ 7 _ _ rfl (Yt ((decide_eq_false (by omega)))))),Zt (b:=false) (.tmp 4 rfl rfl) (fun h=>by cases h) (fun _=>(.tmp 7 rfl rfl)) (.here 8 rfl),mv,ye (Xy 0 rfl rfl rfl rfl (by kernel_rfl) Kk rfl (.here 10 rfl)),ye (ixL Qt),ye (Q5 (.tmp 11 rfl rfl) Xn ((Yj _)) (.here 12 rfl)),ye (Qm (.tmp 12 rfl rfl) (Xb).under (.here 13 rfl)),ye (Q6 (v:=.bool (decide (((X.getD 0 []).length:Int)<(1:Int)))) (.tmp 13 rfl rfl) (.const _) (fun _=>rfl) (.at_ 14 _ _ rfl (Yt ((decide_eq_false (by omega)))))),Zt (b:=false) (.tmp 9 rfl rfl) (fun h=>by cases h) (fun _=>(.tmp 14 rfl rfl)) (.here 15 rfl),mv,ye (Xy 0 rfl rfl rfl rfl (by kernel_rfl) Kk rfl (.here 17 rfl)),ye (ixL Qt),ye (Q5 (.tmp 18 rfl rfl) Xn ((Yj _)) (.here 19 rfl)),ye (Qm (.tmp 19 rfl rfl) (Xb).under (.here 20 rfl)),ye (Q6 (v:=.bool (decide (((X.getD 0 []).length:Int)>(8:Int)))) (.tmp 20 rfl rfl) (.const _) (fun _=>rfl) (.at_ 21 _ _ rfl (Yt ((decide_eq_false (by omega)))))),Zt (b:=false) (.tmp 16 rfl rfl) (fun h=>by cases h) (fun _=>(.tmp 21 rfl rfl)) (.here 22 rfl),trivial⟩ (.k .z) (.kddd (.d8 (.d8 (.ddk .z)))) fun a w hI=>?_
 refine Xv hI 1 rfl ?_
 refine wp_skip ?_
 refine Qb ?_
 refine wp_seq ?_
 obtain⟨p1,hI⟩:=hI.openPtr 0 rfl rfl rfl
 refine Q3 hI 3 [] [] [Uc 0 25 (Qc 1 false X.length (fun i=>Qe (X.getD i []))),Uc 1 26 (Qi (.func (.func 87) #[] #[.pointer (some ⟨p1,0,none⟩)])),Uc 2 27 (pB false)] (.k .z) (.kkk .z) ⟨Xy 0 rfl rfl rfl rfl (by kernel_rfl) Kk rfl (.here 3 rfl),Qe1 (.tmp 0 rfl rfl) (.here 4 rfl),op_callRP (fun _ _=>by kernel_rfl) 0 rfl rfl rfl (by kernel_rfl) rfl (.tmp 0 rfl rfl) (.tmp 3 rfl rfl) (.tmp 4 rfl rfl) (Y2 _) (.at_ 5 _ _ rfl (Yt ((decide_eq_false (by omega))))) (Qfd h0 (by omega)),trivial⟩ (.k .z) (.dkdd (.dk .z)) fun a w hI=>?_
 refine Xv hI 1 rfl ?_
 refine wp_skip ?_
 refine Qb ?_
 refine Q3 hI 1 [] [] [Uc 0 2 _] (.k .z) (.t 0 (.k .z)) ⟨mv,trivial⟩ (.k .z) (.ddk .z) fun a w hI=>?_
 refine wp_ret ?_
 exact Zu hI rfl (.tmp 0 rfl)
theorem Qa4 {X:List (List Rat)} (hR:Right X) (hS:(X.getD 0 []).length=X.length):∀(M:Nat→Nat→Prop) (w:World) (v0:Value),Mid M w→Box M (fun w=>(Qc 1 false X.length (fun i=>Qe (X.getD i []))) w v0) w→Calls Tryz.prog 36 #[v0] w (RetB M (pI 0) w):=by
 intro M w0 v0 hM hv0
 have h0:=hR.rows
 have h0':=hR.cols
 refine Q8 (N:=16) Tryz.func36 rfl rfl rfl hM (show EntsA M w0 [v0] [⟨none,none,0,Qc 1 false X.length (fun i=>Qe (X.getD i []))⟩]from⟨⟨rfl,_,rfl,hv0⟩,trivial⟩) fun a hI=>?_
 refine Qj hI 1 [Uc 0 2 _] (.k .z) ⟨mv,trivial⟩ (.kk .z) fun a w hI=>?_
 refine wp_seq ?_
 refine Qj hI 3 [Uc 0 4 _,Uc 1 5 _,Uc 2 3 _] (.kk .z) ⟨mv,Z0 (Qcc hR),mv,trivial⟩ (.kkdd (.k .z)) fun a w hI=>?_
 refine Qj hI 2 [Uc 0 6 _,Uc 1 7 (pB false)] (.kkk .z) ⟨mv,Q6 (v:=.bool (false)) (.tmp 3 rfl rfl) (.const _) (fun _=>rfl) (.here 4 rfl),trivial⟩ (.kkkd (.k .z)) fun a w hI=>?_
 refine Xv hI 3 rfl ?_
 refine wp_skip ?_
 refine Qb ?_
 refine wp_seq ?_
 refine Qj hI 7 [Uc 0 9 _,Uc 1 10 (pI (X.length:Int)),Uc 2 11 _,Uc 3 12 _,Uc 4 13 (Qe (X.getD 0 [])),Uc 5 14 (pI ((X.getD 0 []).length:Int)),Uc 6 15 (pB false)] (.kkkk .z) ⟨mv,Qm (.tmp 4 rfl rfl) (Qt).under (.here 5 rfl),mv,ixL Qt,Q5 (.tmp 7 rfl rfl) Xn ((Yj _)) (.here 8 rfl),Qm (.tmp 8 rfl rfl) (Xb).under (.here 9 rfl),Q6 (v:=.bool (((X.length:Int) != ((X.getD 0 []).length:Int)))) (.tmp 5 rfl rfl) (.tmp 9 rfl rfl) (fun _=>rfl) (.at_ 10 _ _ rfl (Yt ((by rw[hS]; exact bne_self_eq_false _)))),trivial⟩ (.dkdd (.dddd (.ddk .z))) fun a w hI=>?_
 refine Xv hI 1 rfl ?_
 refine wp_skip ?_
 refine Qb ?_
 refine Qj hI 1 [Uc 0 2 _] (.t 0 (.k .z)) ⟨mv,trivial⟩ (.ddk .z) fun a w hI=>?_
 refine wp_ret ?_
 exact Zu hI rfl (.tmp 0 rfl)
end Wx
