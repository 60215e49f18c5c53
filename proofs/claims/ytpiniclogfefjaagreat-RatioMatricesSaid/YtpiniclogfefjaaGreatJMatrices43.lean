import Derived.Test.YtpiniclogfefjaaGreatJMatrices42
namespace Wx
open Go Go.RowKit Go.Proofs
set_option linter.unusedVariables false

end Wx

namespace Wx
open Go Go.RowKit Go.Proofs
set_option linter.unusedVariables false

end Wx

namespace Wx
set_option maxRecDepth 100000
open Go Go.RowKit Go.Proofs
set_option linter.unusedVariables false

theorem c_inner {L1 L2:List Rat} {j1 j2:Nat} (h0:0<L1.length) (hl:L1.length≤L2.length) (hm:L1.length≤1000000) (hm2:L2.length≤1000000) (q1:∀k,BdR j1 (L1.getD k 0)) (q2:∀k,BdR j2 (L2.getD k 0)) (hj:K8 (j1+j2) L1.length≤100000000):∀(M:Nat→Nat→Prop) (w:World) (v0 v1:Value),Mid M w→Box M (fun w=>(Qf L1) w v0) w→Box M (fun w=>(Qf L2) w v1) w→Calls Tryz.prog 63 #[v0,v1] w (RetB M (Qo (Jv L1 L2 L1.length)) w):=by
  intro M w0 v0 v1 hM hv0 hv1
  have B1:j1+j2≤100000000:=by have:=dotJ_mono (j1+j2) (show 1≤L1.length by omega); have:K8 (j1+j2) 1=1+(j1+j2)+1+(j1+j2)+1:=rfl; omega
  refine Q0 (N:=36) Tryz.func63 rfl rfl rfl hM (show EntsA M w0 [v0,v1] [⟨none,none,0,Qf L1⟩,⟨none,none,1,Qf L2⟩]from⟨⟨rfl,_,rfl,hv0⟩,⟨rfl,_,rfl,hv1⟩,trivial⟩) fun a hI=>?_
  refine Qe hI [⟨4,4,some 0,none,.ptr,38,3,true,pv (Qo 0),[]⟩] [] [] .z (.kk .z) rfl [0] (by kernel_rfl) ?_ (.k .z) (.kk .z) fun a w hI=>?_
  · exact⟨Yu 0 rfl rfl (by kernel_rfl) (by kernel_rfl) rfl rfl rfl Ja rfl rfl (by simp[Yr]) rfl (fun w=>Yv w),trivial⟩
  refine Qe hI [⟨5,5,some 0,none,.ptr,38,3,true,pv (Qo 0),[]⟩] [] [] (.k .z) (.kk .z) rfl [0] (by kernel_rfl) ?_ (.k (.k .z)) (.kk .z) fun a w hI=>?_
  · exact⟨Yu 1 rfl rfl (by kernel_rfl) (by kernel_rfl) rfl rfl rfl Ja rfl rfl (by simp[Yr]) rfl (fun w=>Yv w),trivial⟩
  refine wp_seq ?_
  refine Qe hI [] [] [⟨some 0,none,8,Qf L1⟩,⟨some 1,none,9,pI (L1.length:Int)⟩,⟨some 2,none,10,pI 0⟩] (.k (.k .z)) (.kk .z) rfl [0,1,3] (by kernel_rfl) ?_ (.k (.k .z)) (.dkkk (.k .z)) fun a w hI=>?_
  · exact⟨Qa (.tmp 0 rfl rfl) (.here 2 rfl),Qz (.tmp 2 rfl rfl) (Xk).under (.here 3 rfl),Qa (.const _) (.here 4 rfl),trivial⟩
  refine wp_block ?_
  refine Xw (fun(k:Nat) a w=>(k≤L1.length)∧Inv ⟨36,w0,M,fun _=>False⟩ [⟨4,4,none,none,.ptr,38,3,true,pv (Qo 0),[]⟩,⟨5,5,none,none,.ptr,38,3,true,pv (Qo (Jv L1 L2 k)),[]⟩] [] [⟨none,none,1,Qf L2⟩,⟨none,none,8,Qf L1⟩,⟨none,none,9,pI (L1.length:Int)⟩,⟨none,none,10,pI (k:Int)⟩] Ql a w) (fun(k:Nat)=>L1.length-k) (0) ⟨Nat.zero_le _,(hI.conv ⟨⟨0,_,_,rfl,⟨rfl,rfl,rfl⟩,rfl,fun _=>fun _ _ h=>h⟩,⟨1,_,_,rfl,⟨rfl,rfl,rfl⟩,rfl,fun _=>(fun _ _ h=>h)⟩,trivial⟩ ⟨⟨rfl,rfl,0,_,rfl,fun _ _ h=>h⟩,⟨rfl,rfl,1,_,rfl,fun _ _ h=>h⟩,⟨rfl,rfl,2,_,rfl,fun _ _ h=>h⟩,⟨rfl,rfl,3,_,rfl,(Q9 (by omega))⟩,trivial⟩)⟩ ?_
  intro k a w hIk
  obtain⟨hp,hI⟩:=hIk
  refine Qe hI [] [] [⟨some 0,none,11,pB (decide ((k:Int)<(L1.length:Int)))⟩] (.k (.k .z)) (.kkkk .z) rfl [0] (by kernel_rfl) ?_ (.k (.k .z)) (.kkkk (.k .z)) fun a w hI=>?_
  · exact⟨Qk (v:=.bool (decide ((k:Int)<(L1.length:Int)))) (.tmp 3 rfl rfl) (.tmp 2 rfl rfl) (fun _=>rfl) (.here 4 rfl),trivial⟩
  refine wp_seq ?_
  refine Xi hI 4 rfl (fun ht=>?_) (fun ht=>?_)
  · have t1:=of_decide_eq_true ht
    refine wp_skip ?_
    refine Qh ?_
    refine wp_seq ?_
    refine wp_block ?_
    refine Qe hI [⟨7,7,some 3,none,.ptr,38,3,true,pv (Qo 0),[(5,pv (Qo (L1.getD k 0)))]⟩] [] [⟨some 0,none,12,pI (k:Int)⟩,⟨some 1,none,13,Yb 3 true (Qo (L1.getD k 0))⟩,⟨some 2,none,14,Qo (L1.getD k 0)⟩,⟨some 4,none,6,pI (k:Int)⟩] (.k (.k .z)) (.kkkk (.k .z)) rfl [0,1,3,7,15,31] (by kernel_rfl) ?_ (.k (.k (.s .o .z))) (.k8 (.k .z)) fun a w hI=>?_
    · exact⟨Qa (.tmp 3 rfl rfl) (.here 5 rfl),Qt (.tmp 1 rfl rfl) (.tmp 3 rfl rfl) Xk (by omega) (by omega) (by kernel_rfl) (.at_ 6 _ _ rfl (by rw[Int.toNat_natCast]; exact fun _ _ h=>h)),Q5 (.tmp 6 rfl rfl) Q4 (X8 _) (.here 7 rfl),Yu 2 rfl rfl (by kernel_rfl) (by kernel_rfl) rfl rfl rfl Ja rfl rfl (by simp[Yr]) rfl (fun w=>Yv w),Qc (.tmp 5 rfl rfl) (.here 8 rfl),Xx 2 rfl rfl rfl rfl 0 rfl (by kernel_rfl) (by kernel_rfl) Q4 (.tmp 7 rfl rfl) (X8 _),trivial⟩
    refine Qe hI [] [] [⟨some 0,none,15,Qo (L1.getD k 0)⟩,⟨some 1,none,16,pB (decide (L1.getD k 0=0))⟩,⟨some 2,none,17,pB (!(decide (L1.getD k 0=0)))⟩,⟨some 3,none,18,pB (!(decide (L1.getD k 0=0)))⟩,⟨some 4,none,19,X2 ((!(decide (L1.getD k 0=0)))=true) (Qf L2)⟩,⟨some 5,none,20,X2 ((!(decide (L1.getD k 0=0)))=true) (pI (k:Int))⟩,⟨some 6,none,21,X2 ((!(decide (L1.getD k 0=0)))=true) (Yb 3 true (Qo (L2.getD k 0)))⟩,⟨some 7,none,22,X2 ((!(decide (L1.getD k 0=0)))=true) (Qo (L2.getD k 0))⟩,⟨some 8,none,23,X2 ((!(decide (L1.getD k 0=0)))=true) (pB (decide (L2.getD k 0=0)))⟩,⟨some 9,none,24,X2 ((!(decide (L1.getD k 0=0)))=true) (pB (!(decide (L2.getD k 0=0))))⟩,⟨some 10,none,25,pB ((!(decide (L1.getD k 0=0)))&&(!(decide (L2.getD k 0=0))))⟩] (.k (.k (.k .z))) (.k8 (.k .z)) rfl [0,1,3,7,15,31,63,127,255,511,1023] (by kernel_rfl) ?_ (.k (.k (.k .z))) (.k8 (.k8 (.kkkk .z))) fun a w hI=>?_
    · exact⟨Xl 2 rfl rfl rfl rfl (by kernel_rfl) Q4 rfl (.here 9 rfl),Zc (fun _ _=>by kernel_rfl) (Y9 _) (.tmp 9 rfl rfl) (.here 10 rfl) (c_zero (L1.getD k 0)),Wa (.tmp 10 rfl rfl) (.here 11 rfl),Qa (.tmp 11 rfl rfl) (.here 12 rfl),Xh 12 rfl rfl (fun hc=>Qa (.tmp 0 rfl rfl) (.sel hc 13 rfl)) (by kernel_rfl) (fun _=>.none (by kernel_rfl)) (fun hc=>.sel_no hc 13 rfl),Xh 12 rfl rfl (fun hc=>Qa (.tmp 8 rfl rfl) (.sel hc 14 rfl)) (by kernel_rfl) (fun _=>.none (by kernel_rfl)) (fun hc=>.sel_no hc 14 rfl),Xh 12 rfl rfl (fun hc=>Qt (.sel (.tmp 13 rfl rfl) hc) (.sel (.tmp 14 rfl rfl) hc) Xk (by omega) (by omega) (by kernel_rfl) (.sel hc 15 rfl)) (by kernel_rfl) (fun _=>.none (by kernel_rfl)) (fun hc=>.sel_no hc 15 rfl),Xh 12 rfl rfl (fun hc=>Q5 (.sel (.tmp 15 rfl rfl) hc) Q4 (X8 _) (.sel hc 16 rfl)) (by kernel_rfl) (fun _=>.none (by kernel_rfl)) (fun hc=>.sel_no hc 16 rfl),Xh 12 rfl rfl (fun hc=>Zc (fun _ _=>by kernel_rfl) (Y9 _) (.sel (.tmp 16 rfl rfl) hc) (.sel hc 17 rfl) (c_zero (L2.getD k 0))) (by kernel_rfl) (fun _=>.none (by kernel_rfl)) (fun hc=>.sel_no hc 17 rfl),Xh 12 rfl rfl (fun hc=>Wa (.sel (.tmp 17 rfl rfl) hc) (.sel hc 18 rfl)) (by kernel_rfl) (fun _=>.none (by kernel_rfl)) (fun hc=>.sel_no hc 18 rfl),Yh (.tmp 12 rfl rfl) (fun h=>.imp (.sel (.tmp 18 rfl rfl) (h)) fun _ _ e=>by rw[h]; exact e) (fun h=>.imp (.const _) fun _ _ e=>by rw[h]; exact e) (.here 19 rfl),trivial⟩
    refine Xi hI 19 rfl (fun ht=>?_) (fun ht=>?_)
    · have t2:=ht
      refine sem_D hI [] [] [⟨some 0,none,26,Qo (Jv L1 L2 k)⟩,⟨some 1,none,27,Qo (L1.getD k 0)⟩,⟨some 2,none,28,Qf L2⟩,⟨some 3,none,29,pI (k:Int)⟩,⟨some 4,none,30,Yb 3 true (Qo (L2.getD k 0))⟩,⟨some 5,none,31,Qo (L2.getD k 0)⟩,⟨some 6,none,32,Qo ((L1.getD k 0)*(L2.getD k 0))⟩,⟨some 7,none,33,Qo ((Jv L1 L2 k)+((L1.getD k 0)*(L2.getD k 0)))⟩] (.k (.u none [(8,pv (Qo ((Jv L1 L2 k)+((L1.getD k 0)*(L2.getD k 0)))))] (.k .z))) (.k8 (.k8 (.kkkk .z))) rfl [0,0,0,0,12,28,62,127,255] (by kernel_rfl) ?_ (.k (.s .o (.k .z))) (.k8 (.k8 (.k8 (.kkkk .z)))) fun a w hI=>?_
      · exact⟨Xl 1 rfl rfl rfl rfl (by kernel_rfl) Q4 rfl (.here 20 rfl),Xl 2 rfl rfl rfl rfl (by kernel_rfl) Q4 rfl (.here 21 rfl),Qa (.tmp 0 rfl rfl) (.here 22 rfl),Qa (.tmp 8 rfl rfl) (.here 23 rfl),Qt (.tmp 22 rfl rfl) (.tmp 23 rfl rfl) Xk (by omega) (by omega) (by kernel_rfl) (.at_ 24 _ _ rfl (by rw[Int.toNat_natCast]; exact fun _ _ h=>h)),Q5 (.tmp 24 rfl rfl) Q4 (X8 _) (.here 25 rfl),Yf (fun _ _=>by kernel_rfl) (Y2 _) (.tmp 21 rfl rfl) (.tmp 25 rfl rfl) (.here 26 rfl) (c_mul (q1 k) (q2 k) (by omega)),Yf (fun _ _=>by kernel_rfl) (Y2 _) (.tmp 20 rfl rfl) (.tmp 26 rfl rfl) (.here 27 rfl) (c_add (j:=K8 (j1+j2) k) (k:=j1+j2) (bd_dot q1 q2 k) ((((q1 k)).mul (q2 k))) (by have:=dotJ_mono (j1+j2) (show k+1≤L1.length by omega); have:K8 (j1+j2) (k+1)=K8 (j1+j2) k+(j1+j2)+K8 (j1+j2) k+(j1+j2)+1:=rfl; omega)),Xx 1 rfl rfl rfl rfl 0 rfl (by kernel_rfl) (by kernel_rfl) Q4 (.tmp 27 rfl rfl) (X8 _),trivial⟩
      refine Yd ?_
      refine Qh ?_
      refine Y0 hI [] [] [⟨some 0,none,34,pI ((k:Int)+(1:Int))⟩,⟨some 1,none,10,pI ((k:Int)+(1:Int))⟩] (.k (.k (.k .z))) (.kkk (.t 1 (.k8 (.k8 (.k8 .z))))) rfl [0,1] (by kernel_rfl) ?_ (.k (.k (.k .z))) (.kkkd (.k8 (.k8 (.k8 (.kk .z))))) fun a w hI=>?_
      · exact⟨Qk (v:=.int .i64 (IntKind.i64.wrap ((k:Int)+(1:Int)))) (.tmp 3 rfl rfl) (.const _) (fun _=>rfl) (.at_ 28 _ _ rfl (X3 (by omega))),Qa (.tmp 28 rfl rfl) (.here 29 rfl),trivial⟩
      refine Qh ?_
      exact⟨k+1,⟨(show k+1≤L1.length by omega),(hI.conv ⟨⟨0,_,_,rfl,⟨rfl,rfl,rfl⟩,rfl,fun _=>fun _ _ h=>h⟩,⟨1,_,_,rfl,⟨rfl,rfl,rfl⟩,rfl,fun _=>(fun _ _ h=>h)⟩,trivial⟩ ⟨⟨rfl,rfl,0,_,rfl,fun _ _ h=>h⟩,⟨rfl,rfl,1,_,rfl,fun _ _ h=>h⟩,⟨rfl,rfl,2,_,rfl,fun _ _ h=>h⟩,⟨rfl,rfl,28,_,rfl,(Q9 (by omega))⟩,trivial⟩)⟩,(show L1.length-(k+1)<L1.length-k by omega)⟩
    · have t3:=ht
      refine wp_skip ?_
      refine Yd ?_
      refine Qh ?_
      refine Y0 hI [] [] [⟨some 0,none,34,pI ((k:Int)+(1:Int))⟩,⟨some 1,none,10,pI ((k:Int)+(1:Int))⟩] (.k (.k (.k .z))) (.kkk (.t 1 (.k8 (.k8 .z)))) rfl [0,1] (by kernel_rfl) ?_ (.k (.k (.k .z))) (.kkkd (.k8 (.k8 (.kk .z)))) fun a w hI=>?_
      · exact⟨Qk (v:=.int .i64 (IntKind.i64.wrap ((k:Int)+(1:Int)))) (.tmp 3 rfl rfl) (.const _) (fun _=>rfl) (.at_ 20 _ _ rfl (X3 (by omega))),Qa (.tmp 20 rfl rfl) (.here 21 rfl),trivial⟩
      refine Qh ?_
      exact⟨k+1,⟨(show k+1≤L1.length by omega),(hI.conv ⟨⟨0,_,_,rfl,⟨rfl,rfl,rfl⟩,rfl,fun _=>fun _ _ h=>h⟩,⟨1,_,_,rfl,⟨rfl,rfl,rfl⟩,rfl,fun _=>(fun w v h=>by rw[dot_skip t3]; exact h)⟩,trivial⟩ ⟨⟨rfl,rfl,0,_,rfl,fun _ _ h=>h⟩,⟨rfl,rfl,1,_,rfl,fun _ _ h=>h⟩,⟨rfl,rfl,2,_,rfl,fun _ _ h=>h⟩,⟨rfl,rfl,20,_,rfl,(Q9 (by omega))⟩,trivial⟩)⟩,(show L1.length-(k+1)<L1.length-k by omega)⟩
  · have t4:=of_decide_eq_false ht
    refine wp_exit ?_
    refine Qv ?_
    refine Qv ?_
    refine Xt ?_
    refine Qh ?_
    refine Qe hI [] [] [⟨some 0,none,35,Qo (Jv L1 L2 k)⟩] (.u none [(1,pv (Qo (Jv L1 L2 k)))] (.k .z)) (.kkkk (.k .z)) rfl [0,1] (by kernel_rfl) ?_ (.s .o (.k .z)) (.dddd (.dd .z)) fun a w hI=>?_
    · exact⟨Xl 1 rfl rfl rfl rfl (by kernel_rfl) Q4 rfl (.here 5 rfl),Xx 0 rfl rfl rfl rfl 0 rfl (by kernel_rfl) (by kernel_rfl) Q4 (.tmp 5 rfl rfl) (X8 _),trivial⟩
    refine wp_ret ?_
    exact Zr hI rfl (.imp (.cell 0 rfl rfl rfl rfl Q4 rfl) (fun w v h=>by rw[show L1.length=k by omega]; exact h))
end Wx

namespace Wx
set_option maxRecDepth 100000
open Go Go.RowKit Go.Proofs
set_option linter.unusedVariables false

theorem colAt_bd {B:List (List Rat)} {j:Nat} (hb:BdX j B) (h1:1≤j) (k:Nat):∀q,BdR j ((Va B k).getD q 0):=fun q=>by
  rcases Nat.lt_or_ge q B.length with h|h
  · rw[Qbj h]
    exact hb q k
  · rw[Ve (by rw[W6]; exact h)]
    exact bd_zero.mono h1
theorem c_product {A B:List (List Rat)} {j1 j2:Nat} (hA0:A.length≤1000000) (hB0:0<B.length∧B.length≤1000000) (hAr:∀i,i<A.length→(A.getD i []).length=B.length) (hBr:∀i,i<B.length→(B.getD i []).length=(B.getD 0 []).length) (hBc:(B.getD 0 []).length≤1000000) (hAb:BdX j1 A) (hBb:BdX j2 B) (h2:1≤j2) (hj:K8 (j1+j2) B.length≤100000000):∀(M:Nat→Nat→Prop) (w:World) (v0 v1:Value),Mid M w→Box M (fun w=>(Qd 1 false A.length (fun i=>Qf (A.getD i []))) w v0) w→Box M (fun w=>(Qd 1 false B.length (fun i=>Qf (B.getD i []))) w v1) w→Calls Tryz.prog 49 #[v0,v1] w (RetB M (Qd 1 false A.length fun i=>Qf ((Kl A (Xr B)).getD i [])) w):=by
  intro M w0 v0 v1 hM hv0 hv1
  refine Jx (N:=39) Tryz.func49 rfl rfl rfl hM (show EntsA M w0 [v0,v1] [⟨none,none,0,Qd 1 false A.length (fun i=>Qf (A.getD i []))⟩,⟨none,none,1,Qd 1 false B.length (fun i=>Qf (B.getD i []))⟩]from⟨⟨rfl,_,rfl,hv0⟩,⟨rfl,_,rfl,hv1⟩,trivial⟩) fun a hI=>?_
  refine Qe hI [] [] [⟨some 0,none,4,Qp ((Value.slice none 0 0))⟩] .z (.kk .z) rfl [0] (by kernel_rfl) ?_ .z (.kkk .z) fun a w hI=>?_
  · exact⟨Qc (.const _) (.here 2 rfl),trivial⟩
  refine Qe hI [] [] [⟨some 0,none,12,Qd 1 false B.length (fun i=>Qf (B.getD i []))⟩,⟨some 1,none,13,Qd 1 false (B.getD 0 []).length (fun i=>Qf ((Xr B).getD i []))⟩,⟨some 2,none,5,Qd 1 false (B.getD 0 []).length (fun i=>Qf ((Xr B).getD i []))⟩] .z (.kkk .z) rfl [0,1,3] (by kernel_rfl) ?_ .z (.kdkd (.dk .z)) fun a w hI=>?_
  · exact⟨Qa (.tmp 1 rfl rfl) (.here 3 rfl),Q3 (fun _ _=>by kernel_rfl) (.tmp 3 rfl rfl) (.here 4 rfl) (c_turned (j:=j2) (by omega) (by omega) (by omega) hBr hBb),Qc (.tmp 4 rfl rfl) (.here 5 rfl),trivial⟩
  refine Qe hI [⟨6,6,some 0,none,(.grow 0 1),39,0,false,pv Xu,[]⟩] [] [⟨some 0,none,6,Qd 1 false 0 (fun i=>Qf ((Kl A (Xr B)).getD i []))⟩] .z (.kkk .z) rfl [0] (by kernel_rfl) ?_ (.k .z) (.kkkk .z) fun a w hI=>?_
  · exact⟨op_nilG 0 rfl rfl rfl (by kernel_rfl) (.here 3 rfl),trivial⟩
  refine wp_seq ?_
  refine Qe hI [] [] [⟨some 0,none,14,Qd 1 false A.length (fun i=>Qf (A.getD i []))⟩,⟨some 1,none,15,pI (A.length:Int)⟩,⟨some 2,none,16,pI 0⟩] (.k .z) (.kkkk .z) rfl [0,1,3] (by kernel_rfl) ?_ (.k .z) (.dkkk (.kkk .z)) fun a w hI=>?_
  · exact⟨Qa (.tmp 0 rfl rfl) (.here 4 rfl),Qz (.tmp 4 rfl rfl) (Q8).under (.here 5 rfl),Qa (.const _) (.here 6 rfl),trivial⟩
  refine wp_block ?_
  refine Xw (fun(k:Nat) a w=>(k≤A.length)∧Inv ⟨39,w0,M,fun _=>False⟩ [⟨6,6,none,none,(.grow k 1),39,0,false,pv Xu,[]⟩] [] [⟨none,none,4,Qp ((Value.slice none 0 0))⟩,⟨none,none,5,Qd 1 false (B.getD 0 []).length (fun i=>Qf ((Xr B).getD i []))⟩,⟨none,none,6,Qd 1 false k (fun i=>Qf ((Kl A (Xr B)).getD i []))⟩,⟨none,none,14,Qd 1 false A.length (fun i=>Qf (A.getD i []))⟩,⟨none,none,15,pI (A.length:Int)⟩,⟨none,none,16,pI (k:Int)⟩] Ql a w) (fun(k:Nat)=>A.length-k) (0) ⟨Nat.zero_le _,(hI.conv ⟨⟨0,_,_,rfl,⟨rfl,rfl,rfl⟩,rfl,fun _=>fun _ _ h=>h⟩,trivial⟩ ⟨⟨rfl,rfl,0,_,rfl,fun _ _ h=>h⟩,⟨rfl,rfl,1,_,rfl,fun _ _ h=>h⟩,⟨rfl,rfl,2,_,rfl,fun _ _ h=>h⟩,⟨rfl,rfl,3,_,rfl,fun _ _ h=>h⟩,⟨rfl,rfl,4,_,rfl,fun _ _ h=>h⟩,⟨rfl,rfl,5,_,rfl,(Q9 (by omega))⟩,trivial⟩)⟩ ?_
  intro k a w hIk
  obtain⟨hp,hI⟩:=hIk
  refine Qe hI [] [] [⟨some 0,none,17,pB (decide ((k:Int)<(A.length:Int)))⟩] (.k .z) (.kkkk (.kk .z)) rfl [0] (by kernel_rfl) ?_ (.k .z) (.kkkk (.kkk .z)) fun a w hI=>?_
  · exact⟨Qk (v:=.bool (decide ((k:Int)<(A.length:Int)))) (.tmp 5 rfl rfl) (.tmp 4 rfl rfl) (fun _=>rfl) (.here 6 rfl),trivial⟩
  refine wp_seq ?_
  refine Xi hI 6 rfl (fun ht=>?_) (fun ht=>?_)
  · have t1:=of_decide_eq_true ht
    refine wp_skip ?_
    refine Qh ?_
    refine wp_seq ?_
    refine wp_block ?_
    refine Qe hI [] [] [⟨some 0,none,18,Yb 1 false (Qf (A.getD k []))⟩,⟨some 1,none,19,Qf (A.getD k [])⟩,⟨some 2,none,8,Qf (A.getD k [])⟩] (.k .z) (.kkkk (.kkk .z)) rfl [0,1,3] (by kernel_rfl) ?_ (.k .z) (.kkkk (.kkdd (.dk .z))) fun a w hI=>?_
    · exact⟨Qt (.tmp 3 rfl rfl) (.tmp 5 rfl rfl) Q8 (by omega) (by omega) (by kernel_rfl) (.at_ 7 _ _ rfl (by rw[Int.toNat_natCast]; exact fun _ _ h=>h)),Q5 (.tmp 7 rfl rfl) X0 ((Y3 _)) (.here 8 rfl),Qc (.tmp 8 rfl rfl) (.here 9 rfl),trivial⟩
    refine Qe hI [⟨9,9,some 0,none,(.grow 0 3),38,0,false,pv Xu,[]⟩] [] [⟨some 0,none,9,Qd 3 true 0 (fun i=>Qo ((K3 (A.getD k []) (Xr B)).getD i 0))⟩] (.k .z) (.kkkk (.kkk .z)) rfl [0] (by kernel_rfl) ?_ (.k (.k .z)) (.k8 .z) fun a w hI=>?_
    · exact⟨op_nilG 1 rfl rfl rfl (by kernel_rfl) (.here 7 rfl),trivial⟩
    refine wp_seq ?_
    refine Qe hI [] [] [⟨some 0,none,20,Qd 1 false (B.getD 0 []).length (fun i=>Qf ((Xr B).getD i []))⟩,⟨some 1,none,21,pI ((B.getD 0 []).length:Int)⟩,⟨some 2,none,22,pI 0⟩] (.k (.k .z)) (.k8 .z) rfl [0,1,3] (by kernel_rfl) ?_ (.k (.k .z)) (.k8 (.kkk .z)) fun a w hI=>?_
    · exact⟨Qa (.tmp 1 rfl rfl) (.here 8 rfl),Qz (.tmp 8 rfl rfl) (Q8).under (.here 9 rfl),Qa (.const _) (.here 10 rfl),trivial⟩
    refine wp_block ?_
    refine Xw (fun(k2:Nat) a w=>(k2≤(B.getD 0 []).length)∧Inv ⟨39,w0,M,fun _=>False⟩ [⟨6,6,none,none,(.grow k 1),39,0,false,pv Xu,[]⟩,⟨9,9,none,none,(.grow k2 3),38,0,false,pv Xu,[]⟩] [] [⟨none,none,4,Qp ((Value.slice none 0 0))⟩,⟨none,none,5,Qd 1 false (B.getD 0 []).length (fun i=>Qf ((Xr B).getD i []))⟩,⟨none,none,6,Qd 1 false k (fun i=>Qf ((Kl A (Xr B)).getD i []))⟩,⟨none,none,14,Qd 1 false A.length (fun i=>Qf (A.getD i []))⟩,⟨none,none,15,pI (A.length:Int)⟩,⟨none,none,16,pI (k:Int)⟩,⟨none,none,8,Qf (A.getD k [])⟩,⟨none,none,9,Qd 3 true k2 (fun i=>Qo ((K3 (A.getD k []) (Xr B)).getD i 0))⟩,⟨none,none,20,Qd 1 false (B.getD 0 []).length (fun i=>Qf ((Xr B).getD i []))⟩,⟨none,none,21,pI ((B.getD 0 []).length:Int)⟩,⟨none,none,22,pI (k2:Int)⟩] Ql a w) (fun(k2:Nat)=>(B.getD 0 []).length-k2) (0) ⟨Nat.zero_le _,(hI.conv ⟨⟨0,_,_,rfl,⟨rfl,rfl,rfl⟩,rfl,fun _=>fun _ _ h=>h⟩,⟨1,_,_,rfl,⟨rfl,rfl,rfl⟩,rfl,fun _=>fun _ _ h=>h⟩,trivial⟩ ⟨⟨rfl,rfl,0,_,rfl,fun _ _ h=>h⟩,⟨rfl,rfl,1,_,rfl,fun _ _ h=>h⟩,⟨rfl,rfl,2,_,rfl,fun _ _ h=>h⟩,⟨rfl,rfl,3,_,rfl,fun _ _ h=>h⟩,⟨rfl,rfl,4,_,rfl,fun _ _ h=>h⟩,⟨rfl,rfl,5,_,rfl,fun _ _ h=>h⟩,⟨rfl,rfl,6,_,rfl,fun _ _ h=>h⟩,⟨rfl,rfl,7,_,rfl,fun _ _ h=>h⟩,⟨rfl,rfl,8,_,rfl,fun _ _ h=>h⟩,⟨rfl,rfl,9,_,rfl,fun _ _ h=>h⟩,⟨rfl,rfl,10,_,rfl,(Q9 (by omega))⟩,trivial⟩)⟩ ?_
    intro k2 a w hIk
    obtain⟨hp2,hI⟩:=hIk
    refine Qe hI [] [] [⟨some 0,none,23,pB (decide ((k2:Int)<((B.getD 0 []).length:Int)))⟩] (.k (.k .z)) (.k8 (.kkk .z)) rfl [0] (by kernel_rfl) ?_ (.k (.k .z)) (.k8 (.kkkk .z)) fun a w hI=>?_
    · exact⟨Qk (v:=.bool (decide ((k2:Int)<((B.getD 0 []).length:Int)))) (.tmp 10 rfl rfl) (.tmp 9 rfl rfl) (fun _=>rfl) (.here 11 rfl),trivial⟩
    refine wp_seq ?_
    refine Xi hI 11 rfl (fun ht=>?_) (fun ht=>?_)
    · have t2:=of_decide_eq_true ht
      refine wp_skip ?_
      refine Qh ?_
      refine wp_seq ?_
      refine wp_block ?_
      refine Qe hI [] [] [⟨some 0,none,24,Yb 1 false (Qf ((Xr B).getD k2 []))⟩,⟨some 1,none,25,Qf ((Xr B).getD k2 [])⟩,⟨some 2,none,11,Qf ((Xr B).getD k2 [])⟩] (.k (.k .z)) (.k8 (.kkkk .z)) rfl [0,1,3] (by kernel_rfl) ?_ (.k (.k .z)) (.k8 (.kkkd (.ddk .z))) fun a w hI=>?_
      · exact⟨Qt (.tmp 8 rfl rfl) (.tmp 10 rfl rfl) Q8 (by omega) (by omega) (by kernel_rfl) (.at_ 12 _ _ rfl (by rw[Int.toNat_natCast]; exact fun _ _ h=>h)),Q5 (.tmp 12 rfl rfl) X0 ((Y3 _)) (.here 13 rfl),Qc (.tmp 13 rfl rfl) (.here 14 rfl),trivial⟩
      have hTk:=U8 (A:=B) (show k2<(B.getD 0 []).length by omega)
      have hTl:((Xr B).getD k2 []).length=B.length:=by rw[hTk,W6]
      have q2:∀q,BdR j2 (((Xr B).getD k2 []).getD q 0):=fun q=>by rw[hTk]; exact colAt_bd hBb h2 k2 q
      have hAl:=hAr k (by omega)
      refine sem_ST hI [⟨26,26,some 0,some 5,(.grow k2 3),38,0,false,pv Xu,[]⟩,⟨31,31,some 5,none,(.grow (k2+1) 3),38,0,false,pv Xu,[]⟩] [] [⟨some 0,none,26,Qd 3 true k2 (fun i=>Qo ((K3 (A.getD k []) (Xr B)).getD i 0))⟩,⟨some 1,none,27,Qf (A.getD k [])⟩,⟨some 2,none,28,Qf ((Xr B).getD k2 [])⟩,⟨some 3,none,29,Qo (Jv (A.getD k []) ((Xr B).getD k2 []) (A.getD k []).length)⟩,⟨some 4,none,30,Qf ([Jv (A.getD k []) ((Xr B).getD k2 []) (A.getD k []).length])⟩,⟨some 5,none,31,Qd 3 true (k2+1) (fun i=>Qo ((K3 (A.getD k []) (Xr B)).getD i 0))⟩] (.k (.u (some 0) [] .z)) (.k8 (.kkkk .z)) rfl [0,1,3,7,15,31,63] 6 (by kernel_rfl) ?_ (.k (.d (.d (.k .z)))) (.kkkk (.kkkd (.kkkd (.dddd (.dk .z))))) (fun a w hI=>hI) (⟨_,fun a w hI=>Vg hI [⟨9,9,some 0,none,(.grow (k2+1) 3),38,0,false,pv Xu,[]⟩] [⟨some 0,none,9,Qd 3 true (k2+1) (fun i=>Qo ((K3 (A.getD k []) (Xr B)).getD i 0))⟩] (.k (.u (some 0) [] .z)) (.k8 (.kkk .z)) (by kernel_rfl) (Uh 1 rfl rfl (by kernel_rfl) rfl rfl 2 rfl rfl rfl rfl (by kernel_rfl) (.tmp 10 rfl rfl) (.here 11 rfl)) (.k (.d (.k .z))) (.k8 (.kkdk .z)),
          rfl⟩) ?_
      · exact⟨Qau 1 rfl rfl (by kernel_rfl) rfl rfl 2 rfl rfl rfl rfl (by kernel_rfl) (.tmp 7 rfl rfl) (.here 12 rfl),Qa (.tmp 6 rfl rfl) (.here 13 rfl),Qa (.tmp 11 rfl rfl) (.here 14 rfl),Kg (fun _ _=>by kernel_rfl) (.tmp 13 rfl rfl) (.tmp 14 rfl rfl) (.here 15 rfl) (c_inner (j1:=j1) (j2:=j2) (by omega) (by omega) (by omega) (by omega) (hAb _) q2 (by rw[hAl]; exact hj)),Qbn (fs:=List.replicate 1 ⟨true,3,Qo 0⟩) (ps:=[(0,Qo (Jv (A.getD k []) ((Xr B).getD k2 []) (A.getD k []).length))]) (gs:=[Jv (A.getD k []) ((Xr B).getD k2 []) (A.getD k []).length].map fun q=>⟨true,3,Qo q⟩) Xk Ja rfl rfl rfl (fun w=>Yv w) rfl (show Qa4 _ _ _ _ _ _ from⟨⟨rfl,(.tmp 15 rfl rfl),_,rfl,X8 _⟩,trivial⟩) rfl (fun i=>Qo ([Jv (A.getD k []) ((Xr B).getD k2 []) (A.getD k []).length].getD i 0)) (rats_fd _) (.here 16 rfl),Qez 2 rfl rfl (by kernel_rfl) rfl rfl 3 rfl rfl rfl rfl rfl (by kernel_rfl) (by kernel_rfl) (.tmp 12 rfl rfl) (.tmp 16 rfl rfl) Qel (fun h=>by cases h) (fun i _=>X8 _) (fun i _=>X8 _) (by omega) (.at_ 17 _ _ rfl (row_snoc (g:=fun j=>Qo ([Jv (A.getD k []) ((Xr B).getD k2 []) (A.getD k []).length].getD j 0)) (f:=fun i=>Qo ((K3 (A.getD k []) (Xr B)).getD i 0)) (f':=fun i=>Qo ((K3 (A.getD k []) (Xr B)).getD i 0)) (fun _ _ _ _ h=>h) (fun _ _ h=>by rw[Qd4 (by rw[Wr]; omega)]; exact h))),trivial⟩
      · intro a w hI
        refine Yd ?_
        refine Qh ?_
        refine Y0 hI [] [] [⟨some 0,none,32,pI ((k2:Int)+(1:Int))⟩,⟨some 1,none,22,pI ((k2:Int)+(1:Int))⟩] (.k (.k .z)) (.k8 (.k (.t 1 (.k .z)))) rfl [0,1] (by kernel_rfl) ?_ (.k (.k .z)) (.k8 (.kdkd (.k .z))) fun a w hI=>?_
        · exact⟨Qk (v:=.int .i64 (IntKind.i64.wrap ((k2:Int)+(1:Int)))) (.tmp 9 rfl rfl) (.const _) (fun _=>rfl) (.at_ 11 _ _ rfl (X3 (by omega))),Qa (.tmp 11 rfl rfl) (.here 12 rfl),trivial⟩
        refine Qh ?_
        exact⟨k2+1,⟨(show k2+1≤(B.getD 0 []).length by omega),(hI.conv ⟨⟨0,_,_,rfl,⟨rfl,rfl,rfl⟩,rfl,fun _=>fun _ _ h=>h⟩,⟨1,_,_,rfl,⟨rfl,rfl,rfl⟩,rfl,fun _=>fun _ _ h=>h⟩,trivial⟩ ⟨⟨rfl,rfl,0,_,rfl,fun _ _ h=>h⟩,⟨rfl,rfl,1,_,rfl,fun _ _ h=>h⟩,⟨rfl,rfl,2,_,rfl,fun _ _ h=>h⟩,⟨rfl,rfl,3,_,rfl,fun _ _ h=>h⟩,⟨rfl,rfl,4,_,rfl,fun _ _ h=>h⟩,⟨rfl,rfl,5,_,rfl,fun _ _ h=>h⟩,⟨rfl,rfl,6,_,rfl,fun _ _ h=>h⟩,⟨rfl,rfl,9,_,rfl,fun _ _ h=>h⟩,⟨rfl,rfl,7,_,rfl,fun _ _ h=>h⟩,⟨rfl,rfl,8,_,rfl,fun _ _ h=>h⟩,⟨rfl,rfl,10,_,rfl,(Q9 (by omega))⟩,trivial⟩)⟩,(show(B.getD 0 []).length-(k2+1)<(B.getD 0 []).length-k2 by omega)⟩
    · have t3:=of_decide_eq_false ht
      refine wp_exit ?_
      refine Qv ?_
      refine Qv ?_
      refine Xt ?_
      refine Qh ?_
      refine sem_ST hI [⟨33,33,some 0,some 3,(.grow k 1),39,0,false,pv Xu,[]⟩,⟨34,34,some 1,none,(.grow k2 3),38,0,false,pv Xu,[]⟩,⟨36,36,some 3,none,(.grow (k+1) 1),39,0,false,pv Xu,[]⟩] [] [⟨some 0,none,33,Qd 1 false k (fun i=>Qf ((Kl A (Xr B)).getD i []))⟩,⟨some 1,none,34,Qd 3 true k2 (fun i=>Qo ((K3 (A.getD k []) (Xr B)).getD i 0))⟩,⟨some 2,none,35,Qd 1 false 1 (fun _=>Qd 3 true k2 (fun i=>Qo ((K3 (A.getD k []) (Xr B)).getD i 0)))⟩,⟨some 3,none,36,Qd 1 false (k+1) (fun i=>Qf ((Kl A (Xr B)).getD i []))⟩] (.u (some 0) [] (.u (some 1) [] .z)) (.k8 (.kkkk .z)) rfl [0,1,3,7,15] 4 (by kernel_rfl) ?_ (.d (.d (.d (.k (.k .z))))) (.kkdk (.kkdd (.dddd (.dddk .z)))) (fun a w hI=>hI) (⟨_,fun a w hI=>Vg hI [⟨6,6,some 0,none,(.grow (k+1) 1),39,0,false,pv Xu,[]⟩] [⟨some 0,none,6,Qd 1 false (k+1) (fun i=>Qf ((Kl A (Xr B)).getD i []))⟩] (.k (.u (some 0) [] .z)) (.kkkk (.kk .z)) (by kernel_rfl) (Uh 1 rfl rfl (by kernel_rfl) rfl rfl 2 rfl rfl rfl rfl (by kernel_rfl) (.tmp 5 rfl rfl) (.here 6 rfl)) (.k (.d (.k .z))) (.kkkk (.kdk .z)),
          rfl⟩) ?_
      · exact⟨Qau 0 rfl rfl (by kernel_rfl) rfl rfl 2 rfl rfl rfl rfl (by kernel_rfl) (.tmp 2 rfl rfl) (.here 12 rfl),Qau 1 rfl rfl (by kernel_rfl) rfl rfl 3 rfl rfl rfl rfl (by kernel_rfl) (.tmp 7 rfl rfl) (.here 13 rfl),Qd1 (agg:=false) Q8 zv_Ratios rfl rfl (by decide) (.tmp 13 rfl rfl) Ww (.here 14 rfl),Qez 2 rfl rfl (by kernel_rfl) rfl rfl 4 rfl rfl rfl rfl rfl (by kernel_rfl) (by kernel_rfl) (.tmp 12 rfl rfl) (.tmp 14 rfl rfl) app_Rows (fun _=>rfl) (fun i _=>Y3 _) (fun i _=>Ww) (by omega) (.at_ 15 _ _ rfl (row_snoc1 (f':=fun i=>Qf ((Kl A (Xr B)).getD i [])) (f:=fun i=>Qf ((Kl A (Xr B)).getD i [])) (fun _ _ _ _ h=>h) (fun w v h=>by rw[Qce (by omega)]; exact Qbd (f':=fun i=>Qo ((K3 (A.getD k []) (Xr B)).getD i 0)) (by rw[Qbq,Wr]; omega) (fun _ _ _ _ h=>h) w v h))),trivial⟩
      · intro a w hI
        refine Yd ?_
        refine Qh ?_
        refine Y0 hI [] [] [⟨some 0,none,37,pI ((k:Int)+(1:Int))⟩,⟨some 1,none,16,pI ((k:Int)+(1:Int))⟩] (.k (.k .z)) (.kkkk (.t 1 (.k .z))) rfl [0,1] (by kernel_rfl) ?_ (.k (.k .z)) (.kkkk (.dkdk .z)) fun a w hI=>?_
        · exact⟨Qk (v:=.int .i64 (IntKind.i64.wrap ((k:Int)+(1:Int)))) (.tmp 4 rfl rfl) (.const _) (fun _=>rfl) (.at_ 6 _ _ rfl (X3 (by omega))),Qa (.tmp 6 rfl rfl) (.here 7 rfl),trivial⟩
        refine Qh ?_
        exact⟨k+1,⟨(show k+1≤A.length by omega),(hI.conv ⟨⟨1,_,_,rfl,⟨rfl,rfl,rfl⟩,rfl,fun _=>fun _ _ h=>h⟩,trivial⟩ ⟨⟨rfl,rfl,0,_,rfl,fun _ _ h=>h⟩,⟨rfl,rfl,1,_,rfl,fun _ _ h=>h⟩,⟨rfl,rfl,4,_,rfl,fun _ _ h=>h⟩,⟨rfl,rfl,2,_,rfl,fun _ _ h=>h⟩,⟨rfl,rfl,3,_,rfl,fun _ _ h=>h⟩,⟨rfl,rfl,5,_,rfl,(Q9 (by omega))⟩,trivial⟩)⟩,(show A.length-(k+1)<A.length-k by omega)⟩
  · have t4:=of_decide_eq_false ht
    refine wp_exit ?_
    refine Qv ?_
    refine Qv ?_
    refine Xt ?_
    refine Qh ?_
    refine Qe hI [⟨38,38,some 0,some 1,(.grow k 1),39,0,false,pv Xu,[]⟩,⟨4,4,some 1,none,(.grow k 1),39,0,false,pv Xu,[]⟩] [] [⟨some 0,none,38,Qd 1 false k (fun i=>Qf ((Kl A (Xr B)).getD i []))⟩,⟨some 1,none,4,Qd 1 false k (fun i=>Qf ((Kl A (Xr B)).getD i []))⟩] (.u (some 0) [] .z) (.t 1 (.kkkk (.kk .z))) rfl [0,1] (by kernel_rfl) ?_ (.d (.d (.k .z))) (.d8 (.k .z)) fun a w hI=>?_
    · exact⟨Qau 0 rfl rfl (by kernel_rfl) rfl rfl 1 rfl rfl rfl rfl (by kernel_rfl) (.tmp 2 rfl rfl) (.here 7 rfl),Uh 1 rfl rfl (by kernel_rfl) rfl rfl 2 rfl rfl rfl rfl (by kernel_rfl) (.tmp 7 rfl rfl) (.here 8 rfl),trivial⟩
    refine wp_ret ?_
    exact Zr hI rfl (.imp (.tmp 0 rfl) (Qbd (by omega) fun i hi w v h=>h))
end Wx

namespace Wx
open Go Go.RowKit Go.Proofs
set_option linter.unusedVariables false

end Wx
