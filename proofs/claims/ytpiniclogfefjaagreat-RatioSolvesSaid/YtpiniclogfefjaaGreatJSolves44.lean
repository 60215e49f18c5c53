import Derived.Test.YtpiniclogfefjaaGreatJSolves37
namespace Wx
attribute [local irreducible] Q0
set_option maxRecDepth 100000
open Go Go.RowKit Go.Proofs
set_option linter.unusedVariables false

theorem c_inner {L1 L2:List Rat} {j1 j2:Nat} (h0:0<L1.length) (hl:L1.length≤L2.length) (hm:L1.length≤1000000) (hm2:L2.length≤1000000) (q1:∀k,BdR j1 (L1.getD k 0)) (q2:∀k,BdR j2 (L2.getD k 0)) (hj:Z8 (j1+j2) L1.length≤100000000):∀(M:Nat→Nat→Prop) (w:World) (v0 v1:Value),Mid M w→Box M (fun w=>(Qe L1) w v0) w→Box M (fun w=>(Qe L2) w v1) w→Calls Tryz.prog 63 #[v0,v1] w (RetB M (Qv (Zq L1 L2 L1.length)) w):=by
 intro M w0 v0 v1 hM hv0 hv1
 have B1:j1+j2≤100000000:=by have:=Qhd (j1+j2) (show 1≤L1.length by omega); have:Z8 (j1+j2) 1=1+(j1+j2)+1+(j1+j2)+1:=rfl; omega
 refine Q8 (N:=36) Tryz.func63 rfl rfl rfl hM (show EntsA M w0 [v0,v1] [⟨none,none,0,Qe L1⟩,⟨none,none,1,Qe L2⟩]from⟨⟨rfl,_,rfl,hv0⟩,⟨rfl,_,rfl,hv1⟩,trivial⟩) fun a hI=>?_
 refine Q3 hI 1 [⟨4,4,some 0,none,.ptr,38,3,true,pv (Qv 0),[]⟩] [] [] .z (.kk .z) ⟨Jv 0 rfl rfl (by kernel_rfl) (by kernel_rfl) rfl rfl rfl Ub rfl rfl (by simp[Yw]) rfl (fun w=>Jd w),trivial⟩ (.k .z) (.kk .z) fun a w hI=>?_
 refine Q3 hI 1 [⟨5,5,some 0,none,.ptr,38,3,true,pv (Qv 0),[]⟩] [] [] (.k .z) (.kk .z) ⟨Jv 1 rfl rfl (by kernel_rfl) (by kernel_rfl) rfl rfl rfl Ub rfl rfl (by simp[Yw]) rfl (fun w=>Jd w),trivial⟩ (.k (.k .z)) (.kk .z) fun a w hI=>?_
 refine wp_seq ?_
 refine Q3 hI 3 [] [] [Uc 0 8 _,Uc 1 9 (pI (L1.length:Int)),Uc 2 10 _] (.k (.k .z)) (.kk .z) ⟨mv,Qm (.tmp 2 rfl rfl) (Xb).under (.here 3 rfl),mv,trivial⟩ (.k (.k .z)) (.dkkk (.k .z)) fun a w hI=>?_
 refine wp_block ?_
 refine Q9 (fun(k:Nat) a w=>(k≤L1.length)∧Inv ⟨36,w0,M,fun _=>False⟩ [⟨4,4,none,none,.ptr,38,3,true,pv (Qv 0),[]⟩,⟨5,5,none,none,.ptr,38,3,true,pv (Qv (Zq L1 L2 k)),[]⟩] [] [⟨none,none,1,Qe L2⟩,⟨none,none,8,Qe L1⟩,⟨none,none,9,pI (L1.length:Int)⟩,⟨none,none,10,pI (k:Int)⟩] Qf a w) (fun(k:Nat)=>L1.length-k) (0) ⟨Nat.zero_le _,(hI.conv ⟨⟨0,_,_,rfl,⟨rfl,rfl,rfl⟩,rfl,fun _=>fun _ _ h=>h⟩,⟨1,_,_,rfl,⟨rfl,rfl,rfl⟩,rfl,fun _=>(fun _ _ h=>h)⟩,trivial⟩ ⟨⟨rfl,rfl,0,_,rfl,fun _ _ h=>h⟩,⟨rfl,rfl,1,_,rfl,fun _ _ h=>h⟩,⟨rfl,rfl,2,_,rfl,fun _ _ h=>h⟩,⟨rfl,rfl,3,_,rfl,(Qw (by omega))⟩,trivial⟩)⟩ ?_
 intro k a w hIk
 obtain⟨hp,hI⟩:=hIk
 refine Q3 hI 1 [] [] [Uc 0 11 _] (.k (.k .z)) (.kkkk .z) ⟨bl,trivial⟩ (.k (.k .z)) (.kkkk (.k .z)) fun a w hI=>?_
 refine wp_seq ?_
 refine Xa hI 4 rfl (fun ht=>?_) (fun ht=>?_)
 ·have t1:=of_decide_eq_true ht
  refine wp_skip ?_
  refine Qb ?_
  refine wp_seq ?_
  refine wp_block ?_
  refine Q3 hI 6 [⟨7,7,some 3,none,.ptr,38,3,true,pv (Qv 0),[(5,pv (Qv (L1.getD k 0)))]⟩] [] [Uc 0 12 _,Uc 1 13 _,Uc 2 14 (Qv (L1.getD k 0)),Uc 4 6 _] (.k (.k .z)) (.kkkk (.k .z)) ⟨mv,Ky Xb,Q5 (.tmp 6 rfl rfl) Xx (Ym _) (.here 7 rfl),Jv 2 rfl rfl (by kernel_rfl) (by kernel_rfl) rfl rfl rfl Ub rfl rfl (by simp[Yw]) rfl (fun w=>Jd w),mv,Za 2 rfl rfl rfl rfl 0 rfl (by kernel_rfl) (by kernel_rfl) Xx (.tmp 7 rfl rfl) (Ym _),trivial⟩ (.k (.k (.s .o .z))) (.k8 (.k .z)) fun a w hI=>?_
  refine Q3 hI 11 [] [] [Uc 0 15 (Qv (L1.getD k 0)),Uc 1 16 _,Uc 2 17 _,Uc 3 18 _,Uc 4 19 _,Uc 5 20 _,Uc 6 21 (Z2 ((!(decide (L1.getD k 0=0)))=true) (Wr 3 true (Qv (L2.getD k 0)))),Uc 7 22 (Z2 ((!(decide (L1.getD k 0=0)))=true) (Qv (L2.getD k 0))),Uc 8 23 _,Uc 9 24 _,Uc 10 25 _] (.k (.k (.k .z))) (.k8 (.k .z)) ⟨Xy 2 rfl rfl rfl rfl (by kernel_rfl) Xx rfl (.here 9 rfl),ce1 (Y2 _) (c_zero (L1.getD k 0)),nt,mv,gd fun h=>gmv h,gd fun h=>gmv h,Jg 12 rfl rfl (fun hc=>Jo (.sel (.tmp 13 rfl rfl) hc) (.sel (.tmp 14 rfl rfl) hc) Xb (by omega) (by omega) (by kernel_rfl) (.sel hc 15 rfl)) (by kernel_rfl) (fun _=>.none (by kernel_rfl)) (fun hc=>.sel_no hc 15 rfl),Jg 12 rfl rfl (fun hc=>Q5 (.sel (.tmp 15 rfl rfl) hc) Xx (Ym _) (.sel hc 16 rfl)) (by kernel_rfl) (fun _=>.none (by kernel_rfl)) (fun hc=>.sel_no hc 16 rfl),gd fun h=>gce1 h (Y2 _) (c_zero (L2.getD k 0)),gd fun h=>gnt h,pk,trivial⟩ (.k (.k (.k .z))) (.k8 (.k8 (.kkkk .z))) fun a w hI=>?_
  refine Xa hI 19 rfl (fun ht=>?_) (fun ht=>?_)
  ·have t2:=ht
   refine srD hI [0,0,0,0,12,28,62,127,255] [] [] [Uc 0 26 (Qv (Zq L1 L2 k)),Uc 1 27 (Qv (L1.getD k 0)),Uc 2 28 _,Uc 3 29 _,Uc 4 30 _,Uc 5 31 (Qv (L2.getD k 0)),Uc 6 32 _,Uc 7 33 _] (.k (.u none [(8,pv (Qv ((Zq L1 L2 k)+((L1.getD k 0)*(L2.getD k 0)))))] (.k .z))) (.k8 (.k8 (.kkkk .z))) ⟨Xy 1 rfl rfl rfl rfl (by kernel_rfl) Xx rfl (.here 20 rfl),Xy 2 rfl rfl rfl rfl (by kernel_rfl) Xx rfl (.here 21 rfl),mv,mv,Ky Xb,Q5 (.tmp 24 rfl rfl) Xx (Ym _) (.here 25 rfl),ce2 (Zf _) (c_mul (q1 k) (q2 k) (by omega)),ce2 (Zf _) (c_add (j:=Z8 (j1+j2) k) (k:=j1+j2) (bd_dot q1 q2 k) ((((q1 k)).mul (q2 k))) (by have:=Qhd (j1+j2) (show k+1≤L1.length by omega); have:Z8 (j1+j2) (k+1)=Z8 (j1+j2) k+(j1+j2)+Z8 (j1+j2) k+(j1+j2)+1:=rfl; omega)) (Ya rfl) (Ya rfl),Za 1 rfl rfl rfl rfl 0 rfl (by kernel_rfl) (by kernel_rfl) Xx (.tmp 27 rfl rfl) (Ym _),trivial⟩ (.k (.s .o (.k .z))) (.k8 (.k8 (.k8 (.kkkk .z)))) fun a w hI=>?_
   refine Xo ?_
   refine Qb ?_
   refine Z3 hI 2 [] [] [Uc 0 34 _,Uc 1 10 _] (.k (.k (.k .z))) (.kkk (.t 1 (.k8 (.k8 (.k8 .z))))) ⟨bl,mv,trivial⟩ (.k (.k (.k .z))) (.kkkd (.k8 (.k8 (.k8 (.kk .z))))) fun a w hI=>?_
   refine Qb ?_
   exact⟨k+1,⟨(show k+1≤L1.length by omega),(hI.conv ⟨⟨0,_,_,rfl,⟨rfl,rfl,rfl⟩,rfl,fun _=>fun _ _ h=>h⟩,⟨1,_,_,rfl,⟨rfl,rfl,rfl⟩,rfl,fun _=>(fun _ _ h=>h)⟩,trivial⟩ ⟨⟨rfl,rfl,0,_,rfl,fun _ _ h=>h⟩,⟨rfl,rfl,1,_,rfl,fun _ _ h=>h⟩,⟨rfl,rfl,2,_,rfl,fun _ _ h=>h⟩,⟨rfl,rfl,28,_,rfl,(Qw (by omega))⟩,trivial⟩)⟩,(show L1.length-(k+1)<L1.length-k by omega)⟩
  ·have t3:=ht
   refine wp_skip ?_
   refine Xo ?_
   refine Qb ?_
   refine Z3 hI 2 [] [] [Uc 0 34 _,Uc 1 10 _] (.k (.k (.k .z))) (.kkk (.t 1 (.k8 (.k8 .z)))) ⟨bl,mv,trivial⟩ (.k (.k (.k .z))) (.kkkd (.k8 (.k8 (.kk .z)))) fun a w hI=>?_
   refine Qb ?_
   exact⟨k+1,⟨(show k+1≤L1.length by omega),(hI.conv ⟨⟨0,_,_,rfl,⟨rfl,rfl,rfl⟩,rfl,fun _=>fun _ _ h=>h⟩,⟨1,_,_,rfl,⟨rfl,rfl,rfl⟩,rfl,fun _=>(fun w v h=>by rw[dot_skip t3]; exact h)⟩,trivial⟩ ⟨⟨rfl,rfl,0,_,rfl,fun _ _ h=>h⟩,⟨rfl,rfl,1,_,rfl,fun _ _ h=>h⟩,⟨rfl,rfl,2,_,rfl,fun _ _ h=>h⟩,⟨rfl,rfl,20,_,rfl,(Qw (by omega))⟩,trivial⟩)⟩,(show L1.length-(k+1)<L1.length-k by omega)⟩
 ·have t4:=of_decide_eq_false ht
  refine wp_exit ?_
  refine Ql ?_
  refine Ql ?_
  refine Q7 ?_
  refine Qb ?_
  refine Q3 hI 2 [] [] [Uc 0 35 (Qv (Zq L1 L2 k))] (.u none [(1,pv (Qv (Zq L1 L2 k)))] (.k .z)) (.kkkk (.k .z)) ⟨Xy 1 rfl rfl rfl rfl (by kernel_rfl) Xx rfl (.here 5 rfl),Za 0 rfl rfl rfl rfl 0 rfl (by kernel_rfl) (by kernel_rfl) Xx (.tmp 5 rfl rfl) (Ym _),trivial⟩ (.s .o (.k .z)) (.dddd (.dd .z)) fun a w hI=>?_
  refine wp_ret ?_
  exact Zu hI rfl (.imp (.cell 0 rfl rfl rfl rfl Xx rfl) (fun w v h=>by rw[show L1.length=k by omega]; exact h))
end Wx

namespace Wx
attribute [local irreducible] Q0
set_option maxRecDepth 100000
open Go Go.RowKit Go.Proofs
set_option linter.unusedVariables false

theorem Qga {b:List Rat} {j:Nat} (hm:b.length≤1000000) (hb:∀k,BdR j (b.getD k 0)):∀(M:Nat→Nat→Prop) (w:World) (v0:Value),Mid M w→Box M (fun w=>(Qe b) w v0) w→Calls Tryz.prog 69 #[v0] w (RetB M (Qc 1 false b.length fun i=>Qe ((Z1 b).getD i [])) w):=by
 intro M w0 v0 hM hv0
 refine Yk (N:=19) Tryz.func69 rfl rfl rfl hM (show EntsA M w0 [v0] [⟨none,none,0,Qe b⟩]from⟨⟨rfl,_,rfl,hv0⟩,trivial⟩) fun a hI=>?_
 refine Qj hI 1 [Uc 0 2 _] (.k .z) ⟨mv,trivial⟩ (.kk .z) fun a w hI=>?_
 refine Q3 hI 1 [⟨3,3,some 0,none,(.grow 0 1),39,0,false,pv Q4,[]⟩] [] [Uc 0 3 (Qc 1 false 0 (fun i=>Qe [b.getD i 0]))] .z (.kk .z) ⟨op_nilG 0 rfl rfl rfl (by kernel_rfl) (.here 2 rfl),trivial⟩ (.k .z) (.kkk .z) fun a w hI=>?_
 refine wp_seq ?_
 refine Q3 hI 3 [] [] [Uc 0 6 _,Uc 1 7 (pI (b.length:Int)),Uc 2 8 _] (.k .z) (.kkk .z) ⟨mv,Qm (.tmp 3 rfl rfl) (Xb).under (.here 4 rfl),mv,trivial⟩ (.k .z) (.dkkk (.kk .z)) fun a w hI=>?_
 refine wp_block ?_
 refine Q9 (fun(k:Nat) a w=>(k≤b.length)∧Inv ⟨19,w0,M,fun _=>False⟩ [⟨3,3,none,none,(.grow k 1),39,0,false,pv Q4,[]⟩] [] [⟨none,none,2,Qi ((Value.slice none 0 0))⟩,⟨none,none,3,Qc 1 false k (fun i=>Qe [b.getD i 0])⟩,⟨none,none,6,Qe b⟩,⟨none,none,7,pI (b.length:Int)⟩,⟨none,none,8,pI (k:Int)⟩] Qf a w) (fun(k:Nat)=>b.length-k) (0) ⟨Nat.zero_le _,(hI.conv ⟨⟨0,_,_,rfl,⟨rfl,rfl,rfl⟩,rfl,fun _=>fun _ _ h=>h⟩,trivial⟩ ⟨⟨rfl,rfl,0,_,rfl,fun _ _ h=>h⟩,⟨rfl,rfl,1,_,rfl,fun _ _ h=>h⟩,⟨rfl,rfl,2,_,rfl,fun _ _ h=>h⟩,⟨rfl,rfl,3,_,rfl,fun _ _ h=>h⟩,⟨rfl,rfl,4,_,rfl,(Qw (by omega))⟩,trivial⟩)⟩ ?_
 intro k a w hIk
 obtain⟨hp,hI⟩:=hIk
 refine Q3 hI 1 [] [] [Uc 0 9 _] (.k .z) (.kkkk (.k .z)) ⟨bl,trivial⟩ (.k .z) (.kkkk (.kk .z)) fun a w hI=>?_
 refine wp_seq ?_
 refine Xa hI 5 rfl (fun ht=>?_) (fun ht=>?_)
 ·have t1:=of_decide_eq_true ht
  refine wp_skip ?_
  refine Qb ?_
  refine wp_seq ?_
  refine wp_block ?_
  refine Q3 hI 4 [⟨5,5,some 2,none,.ptr,38,3,true,pv (Qv 0),[(3,pv (Qv (b.getD k 0)))]⟩] [] [Uc 0 10 _,Uc 1 11 (Qv (b.getD k 0))] (.k .z) (.kkkk (.kk .z)) ⟨Ky Xb,Q5 (.tmp 6 rfl rfl) Xx (Ym _) (.here 7 rfl),Jv 1 rfl rfl (by kernel_rfl) (by kernel_rfl) rfl rfl rfl Ub rfl rfl (by simp[Yw]) rfl (fun w=>Jd w),Za 1 rfl rfl rfl rfl 0 rfl (by kernel_rfl) (by kernel_rfl) Xx (.tmp 7 rfl rfl) (Ym _),trivial⟩ (.k (.s .o .z)) (.kkkk (.kddd .z)) fun a w hI=>?_
  refine sem_ST hI [⟨12,12,some 0,some 4,(.grow k 1),39,0,false,pv Q4,[]⟩,⟨16,16,some 4,none,(.grow (k+1) 1),39,0,false,pv Q4,[]⟩] [] [⟨some 0,none,12,Qc 1 false k (fun i=>Qe [b.getD i 0])⟩,⟨some 1,none,13,Qv (b.getD k 0)⟩,⟨some 2,none,14,Qe ([b.getD k 0])⟩,⟨some 3,none,15,Qc 1 false 1 (fun _=>Qe ([b.getD k 0]))⟩,⟨some 4,none,16,Qc 1 false (k+1) (fun i=>Qe [b.getD i 0])⟩] (.u (some 0) [] (.k .z)) (.kkkk (.k .z)) rfl [0,1,3,7,15,31] 5 (by kernel_rfl) ?_ (.d (.k (.d (.k .z)))) (.kdkk (.kddd (.dk .z))) (fun a w hI=>hI) (⟨_,fun a w hI=>Jw hI [⟨3,3,some 0,none,(.grow (k+1) 1),39,0,false,pv Q4,[]⟩] [⟨some 0,none,3,Qc 1 false (k+1) (fun i=>Qe [b.getD i 0])⟩] (.k (.u (some 0) [] .z)) (.kkkk (.k .z)) (by kernel_rfl) (Vt 1 rfl rfl (by kernel_rfl) rfl rfl 2 rfl rfl rfl rfl (by kernel_rfl) (.tmp 4 rfl rfl) (.here 5 rfl)) (.k (.d (.k .z))) (.kkkk (.dk .z)),
    rfl⟩) ?_
  ·exact⟨Qao 0 rfl rfl (by kernel_rfl) rfl rfl 2 rfl rfl rfl rfl (by kernel_rfl) (.tmp 1 rfl rfl) (.here 5 rfl),Xy 1 rfl rfl rfl rfl (by kernel_rfl) Xx rfl (.here 6 rfl),Qbf (fs:=List.replicate 1 ⟨true,3,Qv 0⟩) (ps:=[(0,Qv (b.getD k 0))]) (gs:=[b.getD k 0].map fun q=>⟨true,3,Qv q⟩) Xb Ub rfl rfl rfl (fun w=>Jd w) rfl (show Qbi _ _ _ _ _ _ from⟨⟨rfl,(.tmp 6 rfl rfl),_,rfl,Ym _⟩,trivial⟩) rfl (fun i=>Qv ([b.getD k 0].getD i 0)) (rats_fd _) (.here 7 rfl),Qcz (agg:=false) Qt Qhz rfl rfl (by decide) (.tmp 7 rfl rfl) (Yj _) (.here 8 rfl),Qfn 2 rfl rfl (by kernel_rfl) rfl rfl 3 rfl rfl rfl rfl rfl (by kernel_rfl) (by kernel_rfl) (.tmp 5 rfl rfl) (.tmp 8 rfl rfl) app_Rows (fun _=>rfl) (fun i _=>Yj _) (fun i _=>Yj _) (by omega) (.at_ 9 _ _ rfl (row_snoc1 (f':=fun i=>Qe [b.getD i 0]) (f:=fun i=>Qe [b.getD i 0]) (fun _ _ _ _ h=>h) (fun _ _ h=>h))),trivial⟩
  ·intro a w hI
   refine Xo ?_
   refine Qb ?_
   refine Z3 hI 2 [] [] [Uc 0 17 _,Uc 1 8 _] (.k (.k .z)) (.kkk (.t 1 (.k .z))) ⟨bl,mv,trivial⟩ (.k (.k .z)) (.kkkd (.kdk .z)) fun a w hI=>?_
   refine Qb ?_
   exact⟨k+1,⟨(show k+1≤b.length by omega),(hI.conv ⟨⟨1,_,_,rfl,⟨rfl,rfl,rfl⟩,rfl,fun _=>fun _ _ h=>h⟩,trivial⟩ ⟨⟨rfl,rfl,0,_,rfl,fun _ _ h=>h⟩,⟨rfl,rfl,3,_,rfl,fun _ _ h=>h⟩,⟨rfl,rfl,1,_,rfl,fun _ _ h=>h⟩,⟨rfl,rfl,2,_,rfl,fun _ _ h=>h⟩,⟨rfl,rfl,4,_,rfl,(Qw (by omega))⟩,trivial⟩)⟩,(show b.length-(k+1)<b.length-k by omega)⟩
 ·have t2:=of_decide_eq_false ht
  refine wp_exit ?_
  refine Ql ?_
  refine Ql ?_
  refine Q7 ?_
  refine Qb ?_
  refine Q3 hI 2 [⟨18,18,some 0,some 1,(.grow k 1),39,0,false,pv Q4,[]⟩,⟨2,2,some 1,none,(.grow k 1),39,0,false,pv Q4,[]⟩] [] [Uc 0 18 (Qc 1 false k (fun i=>Qe [b.getD i 0])),Uc 1 2 (Qc 1 false k (fun i=>Qe [b.getD i 0]))] (.u (some 0) [] .z) (.t 1 (.kkkk (.k .z))) ⟨Qao 0 rfl rfl (by kernel_rfl) rfl rfl 1 rfl rfl rfl rfl (by kernel_rfl) (.tmp 1 rfl rfl) (.here 6 rfl),Vt 1 rfl rfl (by kernel_rfl) rfl rfl 2 rfl rfl rfl rfl (by kernel_rfl) (.tmp 6 rfl rfl) (.here 7 rfl),trivial⟩ (.d (.d (.k .z))) (.dddd (.dddk .z)) fun a w hI=>?_
  refine wp_ret ?_
  exact Zu hI rfl (.imp (.tmp 0 rfl) (Qb3 (by omega) fun i hi w v h=>by rw[Qek (by omega)]; exact h))
theorem colAt_bd {B:List (List Rat)} {j:Nat} (hb:BdX j B) (h1:1≤j) (k:Nat):∀q,BdR j ((Vl B k).getD q 0):=fun q=>by
 rcases Nat.lt_or_ge q B.length with h|h
 ·rw[Ur h]
  exact hb q k
 ·rw[Zv (by rw[Kh]; exact h)]
  exact bd_zero.mono h1
theorem Qfe {A B:List (List Rat)} {j1 j2:Nat} (hA0:A.length≤1000000) (hB0:0<B.length∧B.length≤1000000) (hAr:∀i,i<A.length→(A.getD i []).length=B.length) (hBr:∀i,i<B.length→(B.getD i []).length=(B.getD 0 []).length) (hBc:(B.getD 0 []).length≤1000000) (hAb:BdX j1 A) (hBb:BdX j2 B) (h2:1≤j2) (hj:Z8 (j1+j2) B.length≤100000000):∀(M:Nat→Nat→Prop) (w:World) (v0 v1:Value),Mid M w→Box M (fun w=>(Qc 1 false A.length (fun i=>Qe (A.getD i []))) w v0) w→Box M (fun w=>(Qc 1 false B.length (fun i=>Qe (B.getD i []))) w v1) w→Calls Tryz.prog 49 #[v0,v1] w (RetB M (Qc 1 false A.length fun i=>Qe ((Je A (Qq B)).getD i [])) w):=by
 intro M w0 v0 v1 hM hv0 hv1
 refine Yk (N:=39) Tryz.func49 rfl rfl rfl hM (show EntsA M w0 [v0,v1] [⟨none,none,0,Qc 1 false A.length (fun i=>Qe (A.getD i []))⟩,⟨none,none,1,Qc 1 false B.length (fun i=>Qe (B.getD i []))⟩]from⟨⟨rfl,_,rfl,hv0⟩,⟨rfl,_,rfl,hv1⟩,trivial⟩) fun a hI=>?_
 refine Qj hI 1 [Uc 0 4 _] (.kk .z) ⟨mv,trivial⟩ (.kkk .z) fun a w hI=>?_
 refine Qj hI 3 [Uc 0 12 _,Uc 1 13 _,Uc 2 5 _] (.kkk .z) ⟨mv,Z0 (Qcp (j:=j2) (by omega) (by omega) (by omega) hBr hBb),mv,trivial⟩ (.kdkd (.dk .z)) fun a w hI=>?_
 refine Q3 hI 1 [⟨6,6,some 0,none,(.grow 0 1),39,0,false,pv Q4,[]⟩] [] [Uc 0 6 (Qc 1 false 0 (fun i=>Qe ((Je A (Qq B)).getD i [])))] .z (.kkk .z) ⟨op_nilG 0 rfl rfl rfl (by kernel_rfl) (.here 3 rfl),trivial⟩ (.k .z) (.kkkk .z) fun a w hI=>?_
 refine wp_seq ?_
 refine Q3 hI 3 [] [] [Uc 0 14 _,Uc 1 15 (pI (A.length:Int)),Uc 2 16 _] (.k .z) (.kkkk .z) ⟨mv,Qm (.tmp 4 rfl rfl) (Qt).under (.here 5 rfl),mv,trivial⟩ (.k .z) (.dkkk (.kkk .z)) fun a w hI=>?_
 refine wp_block ?_
 refine Q9 (fun(k:Nat) a w=>(k≤A.length)∧Inv ⟨39,w0,M,fun _=>False⟩ [⟨6,6,none,none,(.grow k 1),39,0,false,pv Q4,[]⟩] [] [⟨none,none,4,Qi ((Value.slice none 0 0))⟩,⟨none,none,5,Qc 1 false (B.getD 0 []).length (fun i=>Qe ((Qq B).getD i []))⟩,⟨none,none,6,Qc 1 false k (fun i=>Qe ((Je A (Qq B)).getD i []))⟩,⟨none,none,14,Qc 1 false A.length (fun i=>Qe (A.getD i []))⟩,⟨none,none,15,pI (A.length:Int)⟩,⟨none,none,16,pI (k:Int)⟩] Qf a w) (fun(k:Nat)=>A.length-k) (0) ⟨Nat.zero_le _,(hI.conv ⟨⟨0,_,_,rfl,⟨rfl,rfl,rfl⟩,rfl,fun _=>fun _ _ h=>h⟩,trivial⟩ ⟨⟨rfl,rfl,0,_,rfl,fun _ _ h=>h⟩,⟨rfl,rfl,1,_,rfl,fun _ _ h=>h⟩,⟨rfl,rfl,2,_,rfl,fun _ _ h=>h⟩,⟨rfl,rfl,3,_,rfl,fun _ _ h=>h⟩,⟨rfl,rfl,4,_,rfl,fun _ _ h=>h⟩,⟨rfl,rfl,5,_,rfl,(Qw (by omega))⟩,trivial⟩)⟩ ?_
 intro k a w hIk
 obtain⟨hp,hI⟩:=hIk
 refine Q3 hI 1 [] [] [Uc 0 17 _] (.k .z) (.kkkk (.kk .z)) ⟨bl,trivial⟩ (.k .z) (.kkkk (.kkk .z)) fun a w hI=>?_
 refine wp_seq ?_
 refine Xa hI 6 rfl (fun ht=>?_) (fun ht=>?_)
 ·have t1:=of_decide_eq_true ht
  refine wp_skip ?_
  refine Qb ?_
  refine wp_seq ?_
  refine wp_block ?_
  refine Q3 hI 3 [] [] [Uc 0 18 _,Uc 1 19 (Qe (A.getD k [])),Uc 2 8 _] (.k .z) (.kkkk (.kkk .z)) ⟨Ky Qt,Q5 (.tmp 7 rfl rfl) Xn ((Yj _)) (.here 8 rfl),mv,trivial⟩ (.k .z) (.kkkk (.kkdd (.dk .z))) fun a w hI=>?_
  refine Q3 hI 1 [⟨9,9,some 0,none,(.grow 0 3),38,0,false,pv Q4,[]⟩] [] [Uc 0 9 (Qc 3 true 0 (fun i=>Qv ((W9 (A.getD k []) (Qq B)).getD i 0)))] (.k .z) (.kkkk (.kkk .z)) ⟨op_nilG 1 rfl rfl rfl (by kernel_rfl) (.here 7 rfl),trivial⟩ (.k (.k .z)) (.k8 .z) fun a w hI=>?_
  refine wp_seq ?_
  refine Q3 hI 3 [] [] [Uc 0 20 _,Uc 1 21 (pI ((B.getD 0 []).length:Int)),Uc 2 22 _] (.k (.k .z)) (.k8 .z) ⟨mv,Qm (.tmp 8 rfl rfl) (Qt).under (.here 9 rfl),mv,trivial⟩ (.k (.k .z)) (.k8 (.kkk .z)) fun a w hI=>?_
  refine wp_block ?_
  refine Q9 (fun(k2:Nat) a w=>(k2≤(B.getD 0 []).length)∧Inv ⟨39,w0,M,fun _=>False⟩ [⟨6,6,none,none,(.grow k 1),39,0,false,pv Q4,[]⟩,⟨9,9,none,none,(.grow k2 3),38,0,false,pv Q4,[]⟩] [] [⟨none,none,4,Qi ((Value.slice none 0 0))⟩,⟨none,none,5,Qc 1 false (B.getD 0 []).length (fun i=>Qe ((Qq B).getD i []))⟩,⟨none,none,6,Qc 1 false k (fun i=>Qe ((Je A (Qq B)).getD i []))⟩,⟨none,none,14,Qc 1 false A.length (fun i=>Qe (A.getD i []))⟩,⟨none,none,15,pI (A.length:Int)⟩,⟨none,none,16,pI (k:Int)⟩,⟨none,none,8,Qe (A.getD k [])⟩,⟨none,none,9,Qc 3 true k2 (fun i=>Qv ((W9 (A.getD k []) (Qq B)).getD i 0))⟩,⟨none,none,20,Qc 1 false (B.getD 0 []).length (fun i=>Qe ((Qq B).getD i []))⟩,⟨none,none,21,pI ((B.getD 0 []).length:Int)⟩,⟨none,none,22,pI (k2:Int)⟩] Qf a w) (fun(k2:Nat)=>(B.getD 0 []).length-k2) (0) ⟨Nat.zero_le _,(hI.conv ⟨⟨0,_,_,rfl,⟨rfl,rfl,rfl⟩,rfl,fun _=>fun _ _ h=>h⟩,⟨1,_,_,rfl,⟨rfl,rfl,rfl⟩,rfl,fun _=>fun _ _ h=>h⟩,trivial⟩ ⟨⟨rfl,rfl,0,_,rfl,fun _ _ h=>h⟩,⟨rfl,rfl,1,_,rfl,fun _ _ h=>h⟩,⟨rfl,rfl,2,_,rfl,fun _ _ h=>h⟩,⟨rfl,rfl,3,_,rfl,fun _ _ h=>h⟩,⟨rfl,rfl,4,_,rfl,fun _ _ h=>h⟩,⟨rfl,rfl,5,_,rfl,fun _ _ h=>h⟩,⟨rfl,rfl,6,_,rfl,fun _ _ h=>h⟩,⟨rfl,rfl,7,_,rfl,fun _ _ h=>h⟩,⟨rfl,rfl,8,_,rfl,fun _ _ h=>h⟩,⟨rfl,rfl,9,_,rfl,fun _ _ h=>h⟩,⟨rfl,rfl,10,_,rfl,(Qw (by omega))⟩,trivial⟩)⟩ ?_
  intro k2 a w hIk
  obtain⟨hp2,hI⟩:=hIk
  refine Q3 hI 1 [] [] [Uc 0 23 _] (.k (.k .z)) (.k8 (.kkk .z)) ⟨bl,trivial⟩ (.k (.k .z)) (.k8 (.kkkk .z)) fun a w hI=>?_
  refine wp_seq ?_
  refine Xa hI 11 rfl (fun ht=>?_) (fun ht=>?_)
  ·have t2:=of_decide_eq_true ht
   refine wp_skip ?_
   refine Qb ?_
   refine wp_seq ?_
   refine wp_block ?_
   refine Q3 hI 3 [] [] [Uc 0 24 _,Uc 1 25 (Qe ((Qq B).getD k2 [])),Uc 2 11 _] (.k (.k .z)) (.k8 (.kkkk .z)) ⟨Ky Qt,Q5 (.tmp 12 rfl rfl) Xn ((Yj _)) (.here 13 rfl),mv,trivial⟩ (.k (.k .z)) (.k8 (.kkkd (.ddk .z))) fun a w hI=>?_
   have hTk:=We (A:=B) (show k2<(B.getD 0 []).length by omega)
   have hTl:((Qq B).getD k2 []).length=B.length:=by rw[hTk,Kh]
   have q2:∀q,BdR j2 (((Qq B).getD k2 []).getD q 0):=fun q=>by rw[hTk]; exact colAt_bd hBb h2 k2 q
   have hAl:=hAr k (by omega)
   refine sem_ST hI [⟨26,26,some 0,some 5,(.grow k2 3),38,0,false,pv Q4,[]⟩,⟨31,31,some 5,none,(.grow (k2+1) 3),38,0,false,pv Q4,[]⟩] [] [⟨some 0,none,26,Qc 3 true k2 (fun i=>Qv ((W9 (A.getD k []) (Qq B)).getD i 0))⟩,⟨some 1,none,27,Qe (A.getD k [])⟩,⟨some 2,none,28,Qe ((Qq B).getD k2 [])⟩,⟨some 3,none,29,Qv (Zq (A.getD k []) ((Qq B).getD k2 []) (A.getD k []).length)⟩,⟨some 4,none,30,Qe ([Zq (A.getD k []) ((Qq B).getD k2 []) (A.getD k []).length])⟩,⟨some 5,none,31,Qc 3 true (k2+1) (fun i=>Qv ((W9 (A.getD k []) (Qq B)).getD i 0))⟩] (.k (.u (some 0) [] .z)) (.k8 (.kkkk .z)) rfl [0,1,3,7,15,31,63] 6 (by kernel_rfl) ?_ (.k (.d (.d (.k .z)))) (.kkkk (.kkkd (.kkkd (.dddd (.dk .z))))) (fun a w hI=>hI) (⟨_,fun a w hI=>Jw hI [⟨9,9,some 0,none,(.grow (k2+1) 3),38,0,false,pv Q4,[]⟩] [⟨some 0,none,9,Qc 3 true (k2+1) (fun i=>Qv ((W9 (A.getD k []) (Qq B)).getD i 0))⟩] (.k (.u (some 0) [] .z)) (.k8 (.kkk .z)) (by kernel_rfl) (Vt 1 rfl rfl (by kernel_rfl) rfl rfl 2 rfl rfl rfl rfl (by kernel_rfl) (.tmp 10 rfl rfl) (.here 11 rfl)) (.k (.d (.k .z))) (.k8 (.kkdk .z)),
     rfl⟩) ?_
   ·exact⟨Qao 1 rfl rfl (by kernel_rfl) rfl rfl 2 rfl rfl rfl rfl (by kernel_rfl) (.tmp 7 rfl rfl) (.here 12 rfl),Qx (.tmp 6 rfl rfl) (.here 13 rfl),Qx (.tmp 11 rfl rfl) (.here 14 rfl),op_callB2 (fun _ _=>by kernel_rfl) (.tmp 13 rfl rfl) (.tmp 14 rfl rfl) (.here 15 rfl) (c_inner (j1:=j1) (j2:=j2) (by omega) (by omega) (by omega) (by omega) (hAb _) q2 (by rw[hAl]; exact hj)),Qbf (fs:=List.replicate 1 ⟨true,3,Qv 0⟩) (ps:=[(0,Qv (Zq (A.getD k []) ((Qq B).getD k2 []) (A.getD k []).length))]) (gs:=[Zq (A.getD k []) ((Qq B).getD k2 []) (A.getD k []).length].map fun q=>⟨true,3,Qv q⟩) Xb Ub rfl rfl rfl (fun w=>Jd w) rfl (show Qbi _ _ _ _ _ _ from⟨⟨rfl,(.tmp 15 rfl rfl),_,rfl,Ym _⟩,trivial⟩) rfl (fun i=>Qv ([Zq (A.getD k []) ((Qq B).getD k2 []) (A.getD k []).length].getD i 0)) (rats_fd _) (.here 16 rfl),Qfn 2 rfl rfl (by kernel_rfl) rfl rfl 3 rfl rfl rfl rfl rfl (by kernel_rfl) (by kernel_rfl) (.tmp 12 rfl rfl) (.tmp 16 rfl rfl) Qdx (fun h=>by cases h) (fun i _=>Ym _) (fun i _=>Ym _) (by omega) (.at_ 17 _ _ rfl (row_snoc (g:=fun j=>Qv ([Zq (A.getD k []) ((Qq B).getD k2 []) (A.getD k []).length].getD j 0)) (f:=fun i=>Qv ((W9 (A.getD k []) (Qq B)).getD i 0)) (f':=fun i=>Qv ((W9 (A.getD k []) (Qq B)).getD i 0)) (fun _ _ _ _ h=>h) (fun _ _ h=>by rw[Qcl (by rw[Yu]; omega)]; exact h))),trivial⟩
   ·intro a w hI
    refine Xo ?_
    refine Qb ?_
    refine Z3 hI 2 [] [] [Uc 0 32 _,Uc 1 22 _] (.k (.k .z)) (.k8 (.k (.t 1 (.k .z)))) ⟨bl,mv,trivial⟩ (.k (.k .z)) (.k8 (.kdkd (.k .z))) fun a w hI=>?_
    refine Qb ?_
    exact⟨k2+1,⟨(show k2+1≤(B.getD 0 []).length by omega),(hI.conv ⟨⟨0,_,_,rfl,⟨rfl,rfl,rfl⟩,rfl,fun _=>fun _ _ h=>h⟩,⟨1,_,_,rfl,⟨rfl,rfl,rfl⟩,rfl,fun _=>fun _ _ h=>h⟩,trivial⟩ ⟨⟨rfl,rfl,0,_,rfl,fun _ _ h=>h⟩,⟨rfl,rfl,1,_,rfl,fun _ _ h=>h⟩,⟨rfl,rfl,2,_,rfl,fun _ _ h=>h⟩,⟨rfl,rfl,3,_,rfl,fun _ _ h=>h⟩,⟨rfl,rfl,4,_,rfl,fun _ _ h=>h⟩,⟨rfl,rfl,5,_,rfl,fun _ _ h=>h⟩,⟨rfl,rfl,6,_,rfl,fun _ _ h=>h⟩,⟨rfl,rfl,9,_,rfl,fun _ _ h=>h⟩,⟨rfl,rfl,7,_,rfl,fun _ _ h=>h⟩,⟨rfl,rfl,8,_,rfl,fun _ _ h=>h⟩,⟨rfl,rfl,10,_,rfl,(Qw (by omega))⟩,trivial⟩)⟩,(show(B.getD 0 []).length-(k2+1)<(B.getD 0 []).length-k2 by omega)⟩
  ·have t3:=of_decide_eq_false ht
   refine wp_exit ?_
   refine Ql ?_
   refine Ql ?_
   refine Q7 ?_
   refine Qb ?_
   refine sem_ST hI [⟨33,33,some 0,some 3,(.grow k 1),39,0,false,pv Q4,[]⟩,⟨34,34,some 1,none,(.grow k2 3),38,0,false,pv Q4,[]⟩,⟨36,36,some 3,none,(.grow (k+1) 1),39,0,false,pv Q4,[]⟩] [] [⟨some 0,none,33,Qc 1 false k (fun i=>Qe ((Je A (Qq B)).getD i []))⟩,⟨some 1,none,34,Qc 3 true k2 (fun i=>Qv ((W9 (A.getD k []) (Qq B)).getD i 0))⟩,⟨some 2,none,35,Qc 1 false 1 (fun _=>Qc 3 true k2 (fun i=>Qv ((W9 (A.getD k []) (Qq B)).getD i 0)))⟩,⟨some 3,none,36,Qc 1 false (k+1) (fun i=>Qe ((Je A (Qq B)).getD i []))⟩] (.u (some 0) [] (.u (some 1) [] .z)) (.k8 (.kkkk .z)) rfl [0,1,3,7,15] 4 (by kernel_rfl) ?_ (.d (.d (.d (.k (.k .z))))) (.kkdk (.kkdd (.dddd (.dddk .z)))) (fun a w hI=>hI) (⟨_,fun a w hI=>Jw hI [⟨6,6,some 0,none,(.grow (k+1) 1),39,0,false,pv Q4,[]⟩] [⟨some 0,none,6,Qc 1 false (k+1) (fun i=>Qe ((Je A (Qq B)).getD i []))⟩] (.k (.u (some 0) [] .z)) (.kkkk (.kk .z)) (by kernel_rfl) (Vt 1 rfl rfl (by kernel_rfl) rfl rfl 2 rfl rfl rfl rfl (by kernel_rfl) (.tmp 5 rfl rfl) (.here 6 rfl)) (.k (.d (.k .z))) (.kkkk (.kdk .z)),
     rfl⟩) ?_
   ·exact⟨Qao 0 rfl rfl (by kernel_rfl) rfl rfl 2 rfl rfl rfl rfl (by kernel_rfl) (.tmp 2 rfl rfl) (.here 12 rfl),Qao 1 rfl rfl (by kernel_rfl) rfl rfl 3 rfl rfl rfl rfl (by kernel_rfl) (.tmp 7 rfl rfl) (.here 13 rfl),Qcz (agg:=false) Qt Qhz rfl rfl (by decide) (.tmp 13 rfl rfl) V3 (.here 14 rfl),Qfn 2 rfl rfl (by kernel_rfl) rfl rfl 4 rfl rfl rfl rfl rfl (by kernel_rfl) (by kernel_rfl) (.tmp 12 rfl rfl) (.tmp 14 rfl rfl) app_Rows (fun _=>rfl) (fun i _=>Yj _) (fun i _=>V3) (by omega) (.at_ 15 _ _ rfl (row_snoc1 (f':=fun i=>Qe ((Je A (Qq B)).getD i [])) (f:=fun i=>Qe ((Je A (Qq B)).getD i [])) (fun _ _ _ _ h=>h) (fun w v h=>by rw[Qbo (by omega)]; exact Qb3 (f':=fun i=>Qv ((W9 (A.getD k []) (Qq B)).getD i 0)) (by rw[Qcm,Yu]; omega) (fun _ _ _ _ h=>h) w v h))),trivial⟩
   ·intro a w hI
    refine Xo ?_
    refine Qb ?_
    refine Z3 hI 2 [] [] [Uc 0 37 _,Uc 1 16 _] (.k (.k .z)) (.kkkk (.t 1 (.k .z))) ⟨bl,mv,trivial⟩ (.k (.k .z)) (.kkkk (.dkdk .z)) fun a w hI=>?_
    refine Qb ?_
    exact⟨k+1,⟨(show k+1≤A.length by omega),(hI.conv ⟨⟨1,_,_,rfl,⟨rfl,rfl,rfl⟩,rfl,fun _=>fun _ _ h=>h⟩,trivial⟩ ⟨⟨rfl,rfl,0,_,rfl,fun _ _ h=>h⟩,⟨rfl,rfl,1,_,rfl,fun _ _ h=>h⟩,⟨rfl,rfl,4,_,rfl,fun _ _ h=>h⟩,⟨rfl,rfl,2,_,rfl,fun _ _ h=>h⟩,⟨rfl,rfl,3,_,rfl,fun _ _ h=>h⟩,⟨rfl,rfl,5,_,rfl,(Qw (by omega))⟩,trivial⟩)⟩,(show A.length-(k+1)<A.length-k by omega)⟩
 ·have t4:=of_decide_eq_false ht
  refine wp_exit ?_
  refine Ql ?_
  refine Ql ?_
  refine Q7 ?_
  refine Qb ?_
  refine Q3 hI 2 [⟨38,38,some 0,some 1,(.grow k 1),39,0,false,pv Q4,[]⟩,⟨4,4,some 1,none,(.grow k 1),39,0,false,pv Q4,[]⟩] [] [Uc 0 38 (Qc 1 false k (fun i=>Qe ((Je A (Qq B)).getD i []))),Uc 1 4 (Qc 1 false k (fun i=>Qe ((Je A (Qq B)).getD i [])))] (.u (some 0) [] .z) (.t 1 (.kkkk (.kk .z))) ⟨Qao 0 rfl rfl (by kernel_rfl) rfl rfl 1 rfl rfl rfl rfl (by kernel_rfl) (.tmp 2 rfl rfl) (.here 7 rfl),Vt 1 rfl rfl (by kernel_rfl) rfl rfl 2 rfl rfl rfl rfl (by kernel_rfl) (.tmp 7 rfl rfl) (.here 8 rfl),trivial⟩ (.d (.d (.k .z))) (.d8 (.k .z)) fun a w hI=>?_
  refine wp_ret ?_
  exact Zu hI rfl (.imp (.tmp 0 rfl) (Qb3 (by omega) fun i hi w v h=>h))
end Wx
