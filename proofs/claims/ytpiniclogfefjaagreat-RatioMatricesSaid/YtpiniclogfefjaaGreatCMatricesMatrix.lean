import Derived.Test.YtpiniclogfefjaaGreatJMatrices30
import Derived.Test.YtpiniclogfefjaaGreatJMatrices29
import Derived.Test.YtpiniclogfefjaaGreatJMatrices33
namespace Wx
set_option maxRecDepth 100000
open Go Go.RowKit Go.Proofs
set_option linter.unusedVariables false

theorem r_reduce {H:List Bk} {L1 L2:List Rat} {b1 b2 s1 s2 n1 n2 c1 c2 p1 p2 j j2 jf:Nat} {f:Rat} (m1:(⟨b1,3,true,Yj L1 p1⟩:Bk)∈H) (m2:(⟨b2,3,true,Yj L2 p2⟩:Bk)∈H) (hne:b2≠b1) (k1:s1+n1≤L1.length) (k2:s2+n2≤L2.length) (k12:n2≤n1) (kn:n1≤1000000) (q1:∀x,x∈L1→BdR j x) (q2:∀x,x∈L2→BdR j2 x) (qf:BdR jf f) (hj:j+(jf+j2)+j+(jf+j2)+1≤100000000):∀(M:Nat→Nat→Prop) (B:Nat→Prop) (w:World) (v0 v1 v2:Value),Mid M w→(∀k,B k→∀o,¬M k o)→HpOk B w H→Box (Un M B) (fun w=>(Qs (.slice (some ⟨b1,s1*3,none⟩) n1 c1)) w v0) w→Box (Un M B) (fun w=>(Qs (.slice (some ⟨b2,s2*3,none⟩) n2 c2)) w v1) w→Box (Un M B) (fun w=>(Qq f) w v2) w→Calls Tryz.prog 58 #[v0,v1,v2] w (RetL M B (Qs (.tuple #[])) (Vx H b1 (Yj (if f=0 then L1 else Jx L1 s1 L2 s2 f n2) p1)) w):=by
 intro M B w0 v0 v1 v2 hM hBM hH hv0 hv1 hv2
 have hu1:∀e,e∈H→e.b=b1→e.items=Yj L1 p1:=fun e he hb=>hup_items hH he m1 hb
 refine Qe1 (N:=29) (id:=29) (s:=29) Tryz.func58 rfl rfl rfl hM hBM hH (show EntsA (Un M B) w0 [v0,v1,v2] [Ez 0 (Qs (.slice (some ⟨b1,s1*3,none⟩) n1 c1)),Ez 1 (Qs (.slice (some ⟨b2,s2*3,none⟩) n2 c2)),Ez 2 (Qq f)]from⟨⟨rfl,_,rfl,hv0⟩,⟨rfl,_,rfl,hv1⟩,⟨rfl,_,rfl,hv2⟩,trivial⟩) fun a hI=>?_
 refine Ql hI [⟨5,5,some 0,none,.ptr,38,3,true,pv (Qq f),[]⟩] [] [0] (.k .z) (.kkk .z) ?_ (.k (.k .z)) (.kkd .z) fun a w hI=>?_
 ·exact⟨Us 1 rfl rfl (by kernel_rfl) (by kernel_rfl) rfl rfl rfl (.tp 2 rfl) (Yb _) rfl,trivial⟩
 refine wp_seq ?_
 refine Ql hI [] [Ec 0 8 (Qq f),Ec 1 9 (pB (decide (f=0)))] [0,1] (.k (.k .z)) (.kk .z) ?_ (.k (.k .z)) (.kkdk .z) fun a w hI=>?_
 ·exact⟨Xp 1 rfl rfl rfl rfl (by kernel_rfl) Q8 rfl (.here 2 rfl),Zf (fun _ _=>by kernel_rfl) (Zc _) (.tp 2 rfl) (.here 3 rfl) (c_zero f),trivial⟩
 refine Xm hI 2 rfl (fun ht=>?_) (fun ht=>?_)
 ·have t1:=of_decide_eq_true ht
  refine wp_ret ?_
  refine Xh ?_
  have hI:Inv ⟨29,w0,M,B⟩ [⟨29,29,none,none,.obj,0,0,false,Kl (Vx H b1 (Yj (if f=0 then L1 else Jx L1 s1 L2 s2 f n2) p1)),[]⟩,⟨5,5,none,none,.ptr,38,3,true,pv (Qq f),[]⟩] [] [Ez 0 (Qs (.slice (some ⟨b1,s1*3,none⟩) n1 c1)),Ez 1 (Qs (.slice (some ⟨b2,s2*3,none⟩) n2 c2)),Ez 9 (pB (decide (f=0)))] Qi _ _:=(hI.conv ⟨⟨0,_,_,rfl,⟨rfl,rfl,rfl⟩,rfl,fun _=>(pHp_eq (by rw[if_pos t1]; exact(Qcq hu1).symm))⟩,⟨1,_,_,rfl,⟨rfl,rfl,rfl⟩,rfl,fun _=>fun _ _ h=>h⟩,trivial⟩ ⟨Qp 0 rfl,Qp 1 rfl,Qp 2 rfl,trivial⟩)
  exact finL0 hI rfl hH (n0:=0) rfl (hup_b _ _ _) 
 ·have t2:=of_decide_eq_false ht
  refine wp_skip ?_
  refine Qf ?_
  refine Ql hI [] [Ec 0 10 (Qs (.slice (some ⟨b2,s2*3,none⟩) n2 c2)),Ec 1 11 (pI (n2:Int)),Ec 2 12 (pI 0)] [0,1,3] (.k (.k .z)) (.kkk .z) ?_ (.k (.k .z)) (.kddk (.kk .z)) fun a w hI=>?_
  ·exact⟨Qa (.tp 1 rfl) (.here 3 rfl),Qep (.tp 3 rfl) (Xo).under (.here 4 rfl),Qa (.const _) (.here 5 rfl),trivial⟩
  refine wp_block ?_
  refine Xz (fun(k:Nat) a w=>(k≤n2)∧Inv ⟨29,w0,M,B⟩ [⟨29,29,none,none,.obj,0,0,false,Kl (Vx H b1 (Yj (Jx L1 s1 L2 s2 f k) p1)),[]⟩,⟨5,5,none,none,.ptr,38,3,true,pv (Qq f),[]⟩] [] [Ez 0 (Qs (.slice (some ⟨b1,s1*3,none⟩) n1 c1)),Ez 10 (Qs (.slice (some ⟨b2,s2*3,none⟩) n2 c2)),Ez 11 (pI (n2:Int)),Ez 12 (pI (k:Int))] Qi a w) (fun(k:Nat)=>n2-k) (0) ⟨Nat.zero_le _,(hI.conv ⟨⟨0,_,_,rfl,⟨rfl,rfl,rfl⟩,rfl,fun _=>(pHp_eq (by rw[redAt_zero]; exact(Qcq hu1).symm))⟩,⟨1,_,_,rfl,⟨rfl,rfl,rfl⟩,rfl,fun _=>fun _ _ h=>h⟩,trivial⟩ ⟨Qp 0 rfl,Qp 1 rfl,Qp 2 rfl,⟨rfl,rfl,3,_,rfl,(Xc (by omega))⟩,trivial⟩)⟩ ?_
  intro k a w hIk
  obtain⟨hp,hI⟩:=hIk
  refine Ql hI [] [Ec 0 13 (pB (decide ((k:Int)<(n2:Int))))] [0] (.k (.k .z)) (.kkkk .z) ?_ (.k (.k .z)) (.kkkk (.k .z)) fun a w hI=>?_
  ·exact⟨Qk (v:=.bool (decide ((k:Int)<(n2:Int)))) (.tp 3 rfl) (.tp 2 rfl) (fun _=>rfl) (.here 4 rfl),trivial⟩
  refine wp_seq ?_
  refine Xm hI 4 rfl (fun ht=>?_) (fun ht=>?_)
  ·have t3:=of_decide_eq_true ht
   refine wp_skip ?_
   refine Qf ?_
   refine wp_seq ?_
   refine wp_block ?_
   refine Ql hI [⟨7,7,some 3,none,.ptr,38,3,true,pv (Qq 0),[(5,pv (Qq (L2.getD (s2+k) 0)))]⟩] [Ec 0 14 (pI (k:Int)),Ec 1 15 (Qs (.pointer (some ⟨b2,s2*3+((k:Int)).toNat*3,none⟩))),Ec 2 16 (Qq (L2.getD (s2+k) 0)),Ec 4 6 (pI (k:Int))] [0,1,3,7,15,31] (.k (.k .z)) (.kkkk (.k .z)) ?_ (.k (.k (.s .o .z))) (.k8 (.k .z)) fun a w hI=>?_
   ·exact⟨Qa (.tp 3 rfl) (.here 5 rfl),Xk (.tp 1 rfl) (.tp 3 rfl) Xo (.here 6 rfl),Z0 (e:=⟨b2,3,true,Yj L2 p2⟩) (idx:=s2+k) 0 rfl rfl rfl (by kernel_rfl) rfl (.tp 6 rfl) (Qdl m2 hne) rfl (K3 (by omega)) (show s2*3+((k:Int)).toNat*3=(s2+k)*3 by omega) Q8 (.here 7 rfl),Yx 2 rfl rfl (by kernel_rfl) (by kernel_rfl) rfl rfl rfl Jd rfl rfl (by simp[Yu]) rfl (fun w=>Yy w),Qc (.tp 5 rfl) (.here 8 rfl),X0 2 rfl rfl rfl rfl 0 rfl (by kernel_rfl) (by kernel_rfl) Q8 (.tp 7 rfl) (Yb _),trivial⟩
   refine Qc6 hI [] [Ec 0 17 (Qs (.slice (some ⟨b1,s1*3,none⟩) n1 c1)),Ec 1 18 (pI (k:Int)),Ec 2 19 (Qs (.slice (some ⟨b1,s1*3,none⟩) n1 c1)),Ec 3 20 (pI (k:Int)),Ec 4 21 (Qs (.pointer (some ⟨b1,s1*3+((k:Int)).toNat*3,none⟩))),Ec 5 22 (Qq (L1.getD (s1+k) 0)),Ec 6 23 (Qq f),Ec 7 24 (Qq (L2.getD (s2+k) 0)),Ec 8 25 (Qq (f*(L2.getD (s2+k) 0))),Ec 9 26 (Qq ((L1.getD (s1+k) 0)-(f*(L2.getD (s2+k) 0)))),Ec 10 27 (Qs (.pointer (some ⟨b1,s1*3+((k:Int)).toNat*3,none⟩)))] [0,0,0,0,12,28,0,0,192,508,1023,2047] (.u none [(11,Kl (Zz (Vx H b1 (Yj (Jx L1 s1 L2 s2 f k) p1)) b1 (s1+k) (itR ((L1.getD (s1+k) 0)-(f*(L2.getD (s2+k) 0))))))] (.k (.k .z))) (.k8 (.k .z)) ?_ (.s .o (.k (.k .z))) (.k8 (.k8 (.kkkk .z))) fun a w hI=>?_
   ·exact⟨Qa (.tp 0 rfl) (.here 9 rfl),Qa (.tp 8 rfl) (.here 10 rfl),Qa (.tp 0 rfl) (.here 11 rfl),Qa (.tp 8 rfl) (.here 12 rfl),Xk (.tp 11 rfl) (.tp 12 rfl) Xo (.here 13 rfl),Z0 (e:=⟨b1,3,true,Yj (Jx L1 s1 L2 s2 f k) p1⟩) (idx:=s1+k) 0 rfl rfl rfl (by kernel_rfl) rfl (.tp 13 rfl) (hup_mem m1 rfl) rfl (redAt_item (by omega)) (show s1*3+((k:Int)).toNat*3=(s1+k)*3 by omega) Q8 (.here 14 rfl),Xp 1 rfl rfl rfl rfl (by kernel_rfl) Q8 rfl (.here 15 rfl),Xp 2 rfl rfl rfl rfl (by kernel_rfl) Q8 rfl (.here 16 rfl),Yi (fun _ _=>by kernel_rfl) (Y5 _) (.tp 15 rfl) (.tp 16 rfl) (.here 17 rfl) (c_mul qf (bd_getD q2 (by omega)) (by omega)),Yi (fun _ _=>by kernel_rfl) (Y5 _) (.tp 14 rfl) (.tp 17 rfl) (.here 18 rfl) (c_sub (bd_getD q1 (by omega)) ((qf).mul (bd_getD q2 (by omega))) (by omega)),Xk (.tp 9 rfl) (.tp 10 rfl) Xo (.here 19 rfl),Vc (e:=⟨b1,3,true,Yj (Jx L1 s1 L2 s2 f k) p1⟩) (idx:=s1+k) (it:=itR ((L1.getD (s1+k) 0)-(f*(L2.getD (s2+k) 0)))) 0 rfl rfl rfl (by kernel_rfl) 0 rfl (by kernel_rfl) (by kernel_rfl) rfl (.tp 19 rfl) (hup_mem m1 rfl) rfl (rowIt_lt (show s1+k<(Jx L1 s1 L2 s2 f k).length by rw[Qbk]; omega)) (show s1*3+((k:Int)).toNat*3=(s1+k)*3 by omega) Q8 (.tp 18 rfl) (Yb _),trivial⟩
   refine Yf ?_
   refine Qf ?_
   refine Y4 hI [] [Ec 0 28 (pI ((k:Int)+(1:Int))),Ec 1 12 (pI ((k:Int)+(1:Int)))] [0,1] (.k (.k (.k .z))) (.kkk (.t 1 (.k8 (.k8 .z)))) ?_ (.k (.k (.k .z))) (.kkkd (.k8 (.k8 (.kk .z)))) fun a w hI=>?_
   ·exact⟨Qk (v:=.int .i64 (IntKind.i64.wrap ((k:Int)+(1:Int)))) (.tp 3 rfl) (.const _) (fun _=>rfl) (.at_ 20 _ _ rfl (X8 (by omega))),Qa (.tp 20 rfl) (.here 21 rfl),trivial⟩
   refine Qf ?_
   exact⟨k+1,⟨(show k+1≤n2 by omega),(hI.conv ⟨⟨0,_,_,rfl,⟨rfl,rfl,rfl⟩,rfl,fun _=>(pHp_eq (by rw[hset_hup,rowIt_set (by rw[Qbk]; omega),redAt_step (by omega)]))⟩,⟨1,_,_,rfl,⟨rfl,rfl,rfl⟩,rfl,fun _=>fun _ _ h=>h⟩,trivial⟩ ⟨Qp 0 rfl,Qp 1 rfl,Qp 2 rfl,⟨rfl,rfl,20,_,rfl,(Xc (by omega))⟩,trivial⟩)⟩,(show n2-(k+1)<n2-k by omega)⟩
  ·have t4:=of_decide_eq_false ht
   refine wp_exit ?_
   refine Qy ?_
   refine Qy ?_
   refine Xv ?_
   have hI:Inv ⟨29,w0,M,B⟩ [⟨29,29,none,none,.obj,0,0,false,Kl (Vx H b1 (Yj (if f=0 then L1 else Jx L1 s1 L2 s2 f n2) p1)),[]⟩,⟨5,5,none,none,.ptr,38,3,true,pv (Qq f),[]⟩] [] [Ez 0 (Qs (.slice (some ⟨b1,s1*3,none⟩) n1 c1)),Ez 10 (Qs (.slice (some ⟨b2,s2*3,none⟩) n2 c2)),Ez 11 (pI (n2:Int)),Ez 12 (pI (k:Int)),Ez 13 (pB (decide ((k:Int)<(n2:Int))))] Qi _ _:=(hI.conv ⟨⟨0,_,_,rfl,⟨rfl,rfl,rfl⟩,rfl,fun _=>(pHp_eq (by rw[if_neg t2,show k=n2 by omega]))⟩,⟨1,_,_,rfl,⟨rfl,rfl,rfl⟩,rfl,fun _=>fun _ _ h=>h⟩,trivial⟩ ⟨Qp 0 rfl,Qp 1 rfl,Qp 2 rfl,Qp 3 rfl,Qp 4 rfl,trivial⟩)
   exact finL0 hI rfl hH (n0:=0) rfl (hup_b _ _ _) 
theorem Y6 (l:List Rat):Jj 1 false (Qd l):=by
 rintro w v ⟨A,c,rfl,_⟩
 exact⟨[_],rfl,rfl,rfl,fun u hu=>by simp at hu; subst hu; exact⟨J7 _ _ _,rfl⟩⟩
theorem pEq_to {u v:Value} (h:u=v):∀w x,Qs u w x→Qs v w x:=fun _ _ k=>h▸k
theorem c_pivot1 {l:List Rat} {c j:Nat} (hc:c<l.length) (hl:c≤1000000000) (hb:∀x,x∈l→BdR j x):∀(M:Nat→Nat→Prop) (w:World) (v0 v1:Value),Mid M w→Box M (fun w=>(Qd l) w v0) w→Box M (fun w=>(Ye 1 false (pI (c:Int))) w v1) w→Calls Tryz.prog 95 #[v0,v1] w (RetB M (pB (!(decide ((l).getD c 0=0)))) w):=by
 intro M w0 v0 v1 hM hv0 hv1
 refine Q5 (N:=10) Tryz.func95 rfl rfl rfl hM (show EntsA M w0 [v0,v1] [Ez 0 (Qd l),Ez 1 (Ye 1 false (pI (c:Int)))]from⟨⟨rfl,_,rfl,hv0⟩,⟨rfl,_,rfl,hv1⟩,trivial⟩) fun a hI=>?_
 refine Qo hI [Ec 0 3 (pB false)] [0] (.kk .z) ?_ (.kkk .z) fun a w hI=>?_
 ·exact⟨Qc (.const _) (.here 2 rfl),trivial⟩
 refine Qo hI [Ec 0 4 (Qd l),Ec 1 5 (pI (c:Int)),Ec 2 6 (Ye 3 true (Qq ((l).getD c 0))),Ec 3 7 (Qq ((l).getD c 0)),Ec 4 8 (pB (decide ((l).getD c 0=0))),Ec 5 9 (pB (!(decide ((l).getD c 0=0)))),Ec 6 3 (pB (!(decide ((l).getD c 0=0))))] [0,1,3,7,15,31,63] (.kk (.t 6 .z)) ?_ (.d8 (.dk .z)) fun a w hI=>?_
 ·exact⟨Qa (.tp 0 rfl) (.here 3 rfl),op_loadEq (.tp 1 rfl) ty_int (.here 4 rfl),Qw (.tp 3 rfl) (.tp 4 rfl) Xo (.at_ 5 _ _ rfl (by rw[Int.toNat_natCast]; exact fun _ _ h=>h)),Q7 (.tp 5 rfl) Q8 (Yb _) (.here 6 rfl),Zf (fun _ _=>by kernel_rfl) (Zc _) (.tp 6 rfl) (.here 7 rfl) (c_zero ((l).getD c 0)),K9 (.tp 7 rfl) (.here 8 rfl),Qc (.tp 8 rfl) (.here 9 rfl),trivial⟩
 refine wp_ret ?_
 exact Zu hI rfl (.tmp 0 rfl)
theorem c_indexPivot {X:Nat→List Rat} {n c j:Nat} (hn:n≤1000000) (hc:∀i,i<n→c<(X i).length) (hl:c≤1000000000) (hb:∀i,i<n→∀x,x∈X i→BdR j x):∀(M:Nat→Nat→Prop) (w:World) (v0 v1:Value),Mid M w→Box M (fun w=>(Qj 1 false n (fun i=>Qd (X i))) w v0) w→Box M (fun w=>(pClo 95 1 false (pI (c:Int))) w v1) w→Calls Tryz.prog 94 #[v0,v1] w (RetB M (pI (Z3 (fun i=>!(decide ((X i).getD c 0=0))) n)) w):=by
 intro M w0 v0 v1 hM hv0 hv1
 refine Q5 (N:=19) Tryz.func94 rfl rfl rfl hM (show EntsA M w0 [v0,v1] [Ez 0 (Qj 1 false n (fun i=>Qd (X i))),Ez 1 (pClo 95 1 false (pI (c:Int)))]from⟨⟨rfl,_,rfl,hv0⟩,⟨rfl,_,rfl,hv1⟩,trivial⟩) fun a hI=>?_
 refine Qo hI [Ec 0 4 (pI 0)] [0] (.kk .z) ?_ (.kkk .z) fun a w hI=>?_
 ·exact⟨Qc (.const _) (.here 2 rfl),trivial⟩
 refine wp_seq ?_
 refine Qo hI [Ec 0 6 (Qj 1 false n (fun i=>Qd (X i))),Ec 1 7 (pI (n:Int)),Ec 2 8 (pI 0)] [0,1,3] (.kkk .z) ?_ (.kkkd (.kk .z)) fun a w hI=>?_
 ·exact⟨Qa (.tp 0 rfl) (.here 3 rfl),Q4 (.tp 3 rfl) (Xb).under (.here 4 rfl),Qa (.const _) (.here 5 rfl),trivial⟩
 refine wp_block ?_
 refine Xz (fun(k:Nat) a w=>(k≤n∧∀q,q<k→(!(decide ((X q).getD c 0=0)))=false)∧Inv ⟨19,w0,M,fun _=>False⟩ [] [] [Ez 0 (Qj 1 false n (fun i=>Qd (X i))),Ez 1 (pClo 95 1 false (pI (c:Int))),Ez 7 (pI (n:Int)),Ez 8 (pI (k:Int))] Qi a w) (fun(k:Nat)=>n-k) (0) ⟨⟨Nat.zero_le _,fun q hq=>by omega⟩,(hI.conv trivial ⟨Qp 0 rfl,Qp 1 rfl,Qp 3 rfl,⟨rfl,rfl,4,_,rfl,(Xc (by omega))⟩,trivial⟩)⟩ ?_
 intro k a w hIk
 obtain⟨hp,hI⟩:=hIk
 refine Qo hI [Ec 0 9 (pB (decide ((k:Int)<(n:Int))))] [0] (.kkkk .z) ?_ (.kkkk (.k .z)) fun a w hI=>?_
 ·exact⟨Qk (v:=.bool (decide ((k:Int)<(n:Int)))) (.tp 3 rfl) (.tp 2 rfl) (fun _=>rfl) (.here 4 rfl),trivial⟩
 refine wp_seq ?_
 refine Xm hI 4 rfl (fun ht=>?_) (fun ht=>?_)
 ·have t1:=of_decide_eq_true ht
  refine wp_skip ?_
  refine Qf ?_
  refine wp_seq ?_
  refine wp_block ?_
  refine Qo hI [Ec 0 10 (pI (k:Int)),Ec 1 5 (pI (k:Int))] [0,1] (.kkkk (.k .z)) ?_ (.kkkk (.kkk .z)) fun a w hI=>?_
  ·exact⟨Qa (.tp 3 rfl) (.here 5 rfl),Qc (.tp 5 rfl) (.here 6 rfl),trivial⟩
  refine Qo hI [Ec 0 11 (pClo 95 1 false (pI (c:Int))),Ec 1 12 (Qj 1 false n (fun i=>Qd (X i))),Ec 2 13 (pI (k:Int)),Ec 3 14 (Ye 1 false (Qd (X k))),Ec 4 15 (Qd (X k)),Ec 5 16 (pB (!(decide ((X k).getD c 0=0))))] [0,1,3,7,15,31] (.kkkk (.kkk .z)) ?_ (.k8 (.kkkk (.k .z))) fun a w hI=>?_
  ·exact⟨Qa (.tp 1 rfl) (.here 7 rfl),Qa (.tp 0 rfl) (.here 8 rfl),Qa (.tp 6 rfl) (.here 9 rfl),Qw (.tp 8 rfl) (.tp 9 rfl) Xb (.at_ 10 _ _ rfl (by rw[Int.toNat_natCast]; exact fun _ _ h=>h)),Q7 (.tp 10 rfl) X6 ((Y6 _)) (.here 11 rfl),op_callc1 (fun _ _=>by kernel_rfl) (.tp 7 rfl) (.tp 11 rfl) (.here 12 rfl) (c_pivot1 (hc _ (by omega)) hl (hb _ (by omega))),trivial⟩
  refine Xm hI 12 rfl (fun ht=>?_) (fun ht=>?_)
  ·have t2:=ht
   refine Qo hI [Ec 0 17 (pI (k:Int)),Ec 1 4 (pI (k:Int))] [0,1] (.k8 (.kkkk (.k .z))) ?_ (.k8 (.kkkk (.kkk .z))) fun a w hI=>?_
   ·exact⟨Qa (.tp 6 rfl) (.here 13 rfl),Qc (.tp 13 rfl) (.here 14 rfl),trivial⟩
   refine wp_ret ?_
   refine Je ?_
   refine Xh ?_
   refine Xh ?_
   refine Je ?_
   refine Xh ?_
   exact Zu hI rfl (.imp (.tmp 14 rfl) (Xc (firstI_yes (p:=fun i=>!(decide ((X i).getD c 0=0))) (by omega) t2 hp.2).symm))
  ·have t3:=ht
   refine wp_skip ?_
   refine Yf ?_
   refine Qf ?_
   refine sem_T0 hI [Ec 0 18 (pI ((k:Int)+(1:Int))),Ec 1 8 (pI ((k:Int)+(1:Int)))] [0,1] (.kkk (.t 1 (.k8 (.k .z)))) ?_ (.kkkd (.k8 (.kkk .z))) fun a w hI=>?_
   ·exact⟨Qk (v:=.int .i64 (IntKind.i64.wrap ((k:Int)+(1:Int)))) (.tp 3 rfl) (.const _) (fun _=>rfl) (.at_ 13 _ _ rfl (X8 (by omega))),Qa (.tp 13 rfl) (.here 14 rfl),trivial⟩
   refine Qf ?_
   exact⟨k+1,⟨⟨by omega,fun q hq=>by rcases Nat.lt_or_ge q k with h|h; exact hp.2 q h; rw[show q=k by omega]; exact t3⟩,(hI.conv trivial ⟨Qp 0 rfl,Qp 1 rfl,Qp 2 rfl,⟨rfl,rfl,13,_,rfl,(Xc (by omega))⟩,trivial⟩)⟩,(show n-(k+1)<n-k by omega)⟩
 ·have t4:=of_decide_eq_false ht
  refine wp_exit ?_
  refine Qy ?_
  refine Qy ?_
  refine Xv ?_
  refine Qf ?_
  refine Qo hI [Ec 0 4 (pI (-1))] [0] (.kkkk (.k .z)) ?_ (.dddd (.dk .z)) fun a w hI=>?_
  ·exact⟨Qc (.const _) (.here 5 rfl),trivial⟩
  refine wp_ret ?_
  exact Zu hI rfl (.imp (.tmp 0 rfl) (Xc (Qe5 (fun j hj=>hp.2 j (by omega))).symm))
theorem r_pivot {H:List Bk} {g cap c j:Nat} {R:List RowL} {X:List (List Rat)} (hM0:MatOk g cap R X H) (hc:c<X.length) (hn:X.length≤1000000) (hcol:∀i,i<X.length→c<(X.getD i []).length) (hb:∀i,i<X.length→∀x,x∈X.getD i []→BdR j x):∀(M:Nat→Nat→Prop) (B:Nat→Prop) (w:World) (v0 v1:Value),Mid M w→(∀k,B k→∀o,¬M k o)→HpOk B w H→Box (Un M B) (fun w=>(Qs (.slice (some ⟨g,0,none⟩) X.length cap)) w v0) w→Box (Un M B) (fun w=>(pI (c:Int)) w v1) w→Calls Tryz.prog 55 #[v0,v1] w (RetL M B (Xn (pB (decide (0≤X5 X c))) (pB (decide (X5 X c>0)))) (Vx H g (Js (Zg X R c))) w):=by
 intro M B w0 v0 v1 hM hBM hH hv0 hv1
 have hu:∀e,e∈H→e.b=g→e.items=Js R:=fun e he hb'=>hup_items hH he hM0.top hb'
 have hrg:_:=Vh hc
 have hlen:_:=hM0.len
 have hsz:_:=hM0.size
 refine Qe1 (N:=34) (id:=34) (s:=34) Tryz.func55 rfl rfl rfl hM hBM hH (show EntsA (Un M B) w0 [v0,v1] [Ez 0 (Qs (.slice (some ⟨g,0,none⟩) X.length cap)),Ez 1 (pI (c:Int))]from⟨⟨rfl,_,rfl,hv0⟩,⟨rfl,_,rfl,hv1⟩,trivial⟩) fun a hI=>?_
 refine Ql hI [⟨3,3,some 0,none,.ptr,3,1,false,pv (pI (c:Int)),[]⟩] [Ec 1 4 (pB false),Ec 2 5 (pB false)] [0,1,3] (.k .z) (.kk .z) ?_ (.k (.k .z)) (.kdkk .z) fun a w hI=>?_
 ·exact⟨Us 1 rfl rfl (by kernel_rfl) (by kernel_rfl) rfl rfl rfl (.tp 1 rfl) (fits_int _) rfl,Qc (.const _) (.here 2 rfl),Qc (.const _) (.here 3 rfl),trivial⟩
 obtain⟨p3,hI⟩:=hI.openPtr 1 rfl rfl rfl
 refine Ql hI [] [Ec 0 7 (Qs (.slice (some ⟨g,0,none⟩) X.length cap)),Ec 1 8 (pI (c:Int)),Ec 2 9 (Qs (.slice (some ⟨g,c,none⟩) (X.length-c) (cap-c))),Ec 3 10 (Qs (.func (.func 95) #[] #[.pointer (some ⟨p3,0,none⟩)])),Ec 4 11 (pI (X5 X c)),Ec 5 6 (pI (X5 X c))] [0,1,3,7,15,31] (.k (.k .z)) (.kkkk .z) ?_ (.k (.k .z)) (.kkkk (.dddd (.dk .z))) fun a w hI=>?_
 ·exact⟨Qa (.tp 1 rfl) (.here 4 rfl),Xp 1 rfl rfl rfl rfl (by kernel_rfl) ty_int rfl (.here 5 rfl),op_sliceLo (.tp 4 rfl) (.tp 5 rfl) Xb (by omega) (by omega) (by omega) (.at_ 6 _ _ rfl (pEq_to (by simp))),Qcz (.tp 0 rfl) (.here 7 rfl),op_callRO (fun _ _=>by kernel_rfl) 0 rfl rfl rfl (by kernel_rfl) rfl 1 rfl rfl rfl (by kernel_rfl) rfl (.tp 0 rfl) (.tp 6 rfl) (.tp 7 rfl) (Zc _) (.here 8 rfl) (fun B w v hH hv=>by rw[show v=_ from hv]; exact heap_rows hH hM0 (Nat.le_of_lt hc)) (c_indexPivot (X:=fun i=>X.getD (c+i) []) (by omega) (fun i hi=>hcol (c+i) (by omega)) (by omega) (fun i hi=>hb (c+i) (by omega))),Qc (.tp 8 rfl) (.here 9 rfl),trivial⟩
 refine wp_seq ?_
 refine Ql hI [] [Ec 0 12 (pI (X5 X c)),Ec 1 13 (pB (decide ((X5 X c)<(0:Int))))] [0,1] (.k (.k .z)) (.kkkk (.k .z)) ?_ (.k (.k .z)) (.kkkk (.kdk .z)) fun a w hI=>?_
 ·exact⟨Qa (.tp 4 rfl) (.here 5 rfl),Qk (v:=.bool (decide ((X5 X c)<(0:Int)))) (.tp 5 rfl) (.const _) (fun _=>rfl) (.here 6 rfl),trivial⟩
 refine Xm hI 5 rfl (fun ht=>?_) (fun ht=>?_)
 ·have t1:=of_decide_eq_true ht
  refine Ql hI [] [Ec 0 4 (pB false),Ec 1 5 (pB false)] [0,1] (.k (.k .z)) (.kk (.t 0 (.t 1 (.kk .z)))) ?_ (.k (.k .z)) (.kkdd (.kdkk .z)) fun a w hI=>?_
  ·exact⟨Qc (.const _) (.here 6 rfl),Qc (.const _) (.here 7 rfl),trivial⟩
  refine wp_ret ?_
  refine Xh ?_
  have hI:Inv ⟨34,w0,M,B⟩ [⟨34,34,none,none,.obj,0,0,false,Kl (Vx H g (Js (Zg X R c))),[]⟩,⟨3,3,none,none,.ptr,3,1,false,pv (pI (c:Int)),[]⟩] [] [Ez 3 (Qs (.pointer (some ⟨p3,0,none⟩))),Ez 0 (Qs (.slice (some ⟨g,0,none⟩) X.length cap)),Ez 6 (pI (X5 X c)),Ez 4 (pB false),Ez 5 (pB false)] Qi _ _:=(hI.conv ⟨⟨0,_,_,rfl,⟨rfl,rfl,rfl⟩,rfl,fun _=>(pHp_eq (by unfold Zg; rw[if_pos (by omega)]; exact(Qcq hu).symm))⟩,⟨1,_,_,rfl,⟨rfl,rfl,rfl⟩,rfl,fun _=>fun _ _ h=>h⟩,trivial⟩ ⟨Qp 0 rfl,Qp 1 rfl,Qp 2 rfl,Qp 3 rfl,Qp 4 rfl,trivial⟩)
  exact finL2 hI rfl hH (n0:=0) rfl (hup_b _ _ _) (.imp (.tmp 3 rfl) (Y7 (decide_eq_false (by omega)).symm)) (.imp (.tmp 4 rfl) (Y7 (decide_eq_false (by omega)).symm))
 ·have t2:=of_decide_eq_false ht
  refine wp_skip ?_
  refine Qf ?_
  obtain⟨i0,hi0⟩:∃i0:Nat,X5 X c=(i0:Int):=⟨(X5 X c).toNat,by omega⟩
  obtain⟨x,hx⟩:=hM0.get hc
  obtain⟨y,hy⟩:=hM0.get (i:=c+i0) (by omega)
  refine seq_D1 hI [] [Ec 0 14 (Qs (.slice (some ⟨g,0,none⟩) X.length cap)),Ec 1 15 (pI (c:Int)),Ec 2 16 (Qs (.slice (some ⟨g,0,none⟩) X.length cap)),Ec 3 17 (pI (c:Int)),Ec 4 18 (pI (X5 X c)),Ec 5 19 (pI ((c:Int)+(X5 X c))),Ec 6 20 (Qs (.slice (some ⟨g,0,none⟩) X.length cap)),Ec 7 21 (pI (c:Int)),Ec 8 22 (pI (X5 X c)),Ec 9 23 (pI ((c:Int)+(X5 X c))),Ec 10 24 (Qs (.pointer (some ⟨g,0+(((c:Int)+(X5 X c))).toNat*1,none⟩))),Ec 11 25 (Qs (.slice (some ⟨y.b,0,none⟩) y.n y.cap)),Ec 12 26 (Qs (.slice (some ⟨g,0,none⟩) X.length cap)),Ec 13 27 (pI (c:Int)),Ec 14 28 (Qs (.pointer (some ⟨g,0+((c:Int)).toNat*1,none⟩))),Ec 15 29 (Qs (.slice (some ⟨x.b,0,none⟩) x.n x.cap)),Ec 16 30 (Qs (.pointer (some ⟨g,0+((c:Int)).toNat*1,none⟩))),Ec 18 31 (Qs (.pointer (some ⟨g,0+(((c:Int)+(X5 X c))).toNat*1,none⟩)))] [0,0,0,0,0,24,0,0,0,384,960,1984,0,0,12288,28672,65475,131011,262143,524287] (.u none [(17,Kl (Zz H g c (Kp y.hdr))),(19,Kl (Zz (Zz H g c (Kp y.hdr)) g (c+i0) (Kp x.hdr)))] (.k .z)) (.kkkk (.kk .z)) ?_ (.s (.c .o) (.k .z)) (.ddkk (.kddd (.d8 (.d8 .z)))) fun a w hI=>?_
  ·exact⟨Qa (.tp 1 rfl) (.here 6 rfl),Xp 1 rfl rfl rfl rfl (by kernel_rfl) ty_int rfl (.here 7 rfl),Qa (.tp 1 rfl) (.here 8 rfl),Xp 1 rfl rfl rfl rfl (by kernel_rfl) ty_int rfl (.here 9 rfl),Qa (.tp 4 rfl) (.here 10 rfl),Qk (v:=.int .i64 (IntKind.i64.wrap ((c:Int)+(X5 X c)))) (.tp 9 rfl) (.tp 10 rfl) (fun _=>rfl) (.at_ 11 _ _ rfl (X8 (by omega))),Qa (.tp 1 rfl) (.here 12 rfl),Xp 1 rfl rfl rfl rfl (by kernel_rfl) ty_int rfl (.here 13 rfl),Qa (.tp 4 rfl) (.here 14 rfl),Qk (v:=.int .i64 (IntKind.i64.wrap ((c:Int)+(X5 X c)))) (.tp 13 rfl) (.tp 14 rfl) (fun _=>rfl) (.at_ 15 _ _ rfl (X8 (by omega))),Xk (.tp 12 rfl) (.tp 15 rfl) Xb (.here 16 rfl),Z0 (e:=⟨g,1,false,Js R⟩) (idx:=c+i0) 0 rfl rfl rfl (by kernel_rfl) rfl (.tp 16 rfl) hM0.top rfl (Vl hy) (show 0+(((c:Int)+(X5 X c))).toNat*1=(c+i0)*1 by omega) X6 (.here 17 rfl),Qa (.tp 1 rfl) (.here 18 rfl),Xp 1 rfl rfl rfl rfl (by kernel_rfl) ty_int rfl (.here 19 rfl),Xk (.tp 18 rfl) (.tp 19 rfl) Xb (.here 20 rfl),Z0 (e:=⟨g,1,false,Js R⟩) (idx:=c) 0 rfl rfl rfl (by kernel_rfl) rfl (.tp 20 rfl) hM0.top rfl (Vl hx) (show 0+((c:Int)).toNat*1=(c)*1 by omega) X6 (.here 21 rfl),Xk (.tp 6 rfl) (.tp 7 rfl) Xb (.here 22 rfl),Vc (e:=⟨g,1,false,Js R⟩) (idx:=c) (it:=Kp y.hdr) 0 rfl rfl rfl (by kernel_rfl) 0 rfl (by kernel_rfl) (by kernel_rfl) rfl (.tp 22 rfl) hM0.top rfl (by rw[Qc9]; omega) (show 0+((c:Int)).toNat*1=(c)*1 by omega) X6 (.tp 17 rfl) (Qb0 _ _ _),Xk (.tp 8 rfl) (.tp 11 rfl) Xb (.here 23 rfl),Vc (e:=⟨g,1,false,(Js R).set c (Kp y.hdr)⟩) (idx:=c+i0) (it:=Kp x.hdr) 0 rfl rfl rfl (by kernel_rfl) 1 rfl (by kernel_rfl) (by kernel_rfl) rfl (.tp 23 rfl) (hset_mem hM0.top rfl) rfl (by rw[List.length_set,Qc9]; omega) (show 0+(((c:Int)+(X5 X c))).toNat*1=(c+i0)*1 by omega) X6 (.tp 21 rfl) (Qb0 _ _ _),trivial⟩
  refine Ql hI [] [Ec 0 32 (pI (X5 X c)),Ec 1 33 (pB (decide ((X5 X c)>(0:Int)))),Ec 2 4 (pB true),Ec 3 5 (pB (decide ((X5 X c)>(0:Int))))] [0,1,3,7] (.k (.k .z)) (.t 2 (.t 3 (.k .z))) ?_ (.k (.k .z)) (.dddd (.dkk .z)) fun a w hI=>?_
  ·exact⟨Qa (.tp 2 rfl) (.here 3 rfl),Qk (v:=.bool (decide ((X5 X c)>(0:Int)))) (.tp 3 rfl) (.const _) (fun _=>rfl) (.here 4 rfl),Qc (.const _) (.here 5 rfl),Qc (.tp 4 rfl) (.here 6 rfl),trivial⟩
  refine wp_ret ?_
  have hI:Inv ⟨34,w0,M,B⟩ [⟨34,34,none,none,.obj,0,0,false,Kl (Vx H g (Js (Zg X R c))),[]⟩,⟨3,3,none,none,.ptr,3,1,false,pv (pI (c:Int)),[]⟩] [] [Ez 4 (pB true),Ez 5 (pB (decide ((X5 X c)>(0:Int))))] Qi _ _:=(hI.conv ⟨⟨0,_,_,rfl,⟨rfl,rfl,rfl⟩,rfl,fun _=>(pHp_eq (by unfold Zg; rw[if_neg (by omega),show(X5 X c).toNat=i0 by omega]; exact heap_swap hu hx hy))⟩,⟨1,_,_,rfl,⟨rfl,rfl,rfl⟩,rfl,fun _=>fun _ _ h=>h⟩,trivial⟩ ⟨Qp 0 rfl,Qp 1 rfl,trivial⟩)
  exact finL2 hI rfl hH (n0:=0) rfl (hup_b _ _ _) (.imp (.tmp 0 rfl) (Y7 (decide_eq_true (by omega)).symm)) (.tmp 1 rfl)
end Wx
