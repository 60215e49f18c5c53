import Derived.Test.YtpiniclogfefjaaJSylvester40
namespace Wx
set_option maxRecDepth 100000
open Go Go.RowKit Go.Proofs
set_option linter.unusedVariables false

theorem colAt_bd {B:List (List Rat)} {j:Nat} (hb:BdX j B) (h1:1≤j) (k:Nat):∀q,BdR j ((Wu B k).getD q 0):=fun q=>by
 rcases Nat.lt_or_ge q B.length with h|h
 ·rw[Qap h]
  exact hb q k
 ·rw[J3 (by rw[W2]; exact h)]
  exact bd_zero.mono h1
theorem c_product {A B:List (List Rat)} {j1 j2:Nat} (hA0:A.length≤1000000) (hB0:0<B.length∧B.length≤1000000) (hAr:∀i,i<A.length→(A.getD i []).length=B.length) (hBr:∀i,i<B.length→(B.getD i []).length=(B.getD 0 []).length) (hBc:(B.getD 0 []).length≤1000000) (hAb:BdX j1 A) (hBb:BdX j2 B) (h2:1≤j2) (hj:Y4 (j1+j2) B.length≤100000000):∀(M:Nat→Nat→Prop) (w:World) (v0 v1:Value),Mid M w→Box M (fun w=>(Qg 1 false A.length (fun i=>Qd (A.getD i []))) w v0) w→Box M (fun w=>(Qg 1 false B.length (fun i=>Qd (B.getD i []))) w v1) w→Calls Try.prog 35 #[v0,v1] w (RetB M (Qg 1 false A.length fun i=>Qd ((Xq A (Qp B)).getD i [])) w):=by
 intro M w0 v0 v1 hM hv0 hv1
 refine Jz (N:=39) Try.func35 rfl rfl rfl hM (show EntsA M w0 [v0,v1] [⟨none,none,0,Qg 1 false A.length (fun i=>Qd (A.getD i []))⟩,⟨none,none,1,Qg 1 false B.length (fun i=>Qd (B.getD i []))⟩]from⟨⟨rfl,_,rfl,hv0⟩,⟨rfl,_,rfl,hv1⟩,trivial⟩) fun a hI=>?_
 refine Qh hI [] [] [⟨some 0,none,4,Qe ((Value.slice none 0 0))⟩] .z (.kk .z) rfl [0] (by kernel_rfl) ?_ .z (.kkk .z) fun a w hI=>?_
 ·exact⟨Qc (.const _) (.here 2 rfl),trivial⟩
 refine Qh hI [] [] [⟨some 0,none,12,Qg 1 false B.length (fun i=>Qd (B.getD i []))⟩,⟨some 1,none,13,Qg 1 false (B.getD 0 []).length (fun i=>Qd ((Qp B).getD i []))⟩,⟨some 2,none,5,Qg 1 false (B.getD 0 []).length (fun i=>Qd ((Qp B).getD i []))⟩] .z (.kkk .z) rfl [0,1,3] (by kernel_rfl) ?_ .z (.kdkd (.dk .z)) fun a w hI=>?_
 ·exact⟨Qa (.tmp 1 rfl rfl) (.here 3 rfl),Zn (fun _ _=>by kernel_rfl) (.tmp 3 rfl rfl) (.here 4 rfl) (c_turned (j:=j2) (by omega) (by omega) (by omega) hBr hBb),Qc (.tmp 4 rfl rfl) (.here 5 rfl),trivial⟩
 refine Qh hI [⟨6,6,some 0,none,(.grow 0 1),28,0,false,pv Zb,[]⟩] [] [⟨some 0,none,6,Qg 1 false 0 (fun i=>Qd ((Xq A (Qp B)).getD i []))⟩] .z (.kkk .z) rfl [0] (by kernel_rfl) ?_ (.k .z) (.kkkk .z) fun a w hI=>?_
 ·exact⟨op_nilG 0 rfl rfl rfl (by kernel_rfl) (.here 3 rfl),trivial⟩
 refine wp_seq ?_
 refine Qh hI [] [] [⟨some 0,none,14,Qg 1 false A.length (fun i=>Qd (A.getD i []))⟩,⟨some 1,none,15,pI (A.length:Int)⟩,⟨some 2,none,16,pI 0⟩] (.k .z) (.kkkk .z) rfl [0,1,3] (by kernel_rfl) ?_ (.k .z) (.dkkk (.kkk .z)) fun a w hI=>?_
 ·exact⟨Qa (.tmp 0 rfl rfl) (.here 4 rfl),Yy (.tmp 4 rfl rfl) (Qx).under (.here 5 rfl),Qa (.const _) (.here 6 rfl),trivial⟩
 refine wp_block ?_
 refine Xn (fun(k:Nat) a w=>(k≤A.length)∧Inv ⟨39,w0,M,fun _=>False⟩ [⟨6,6,none,none,(.grow k 1),28,0,false,pv Zb,[]⟩] [] [⟨none,none,4,Qe ((Value.slice none 0 0))⟩,⟨none,none,5,Qg 1 false (B.getD 0 []).length (fun i=>Qd ((Qp B).getD i []))⟩,⟨none,none,6,Qg 1 false k (fun i=>Qd ((Xq A (Qp B)).getD i []))⟩,⟨none,none,14,Qg 1 false A.length (fun i=>Qd (A.getD i []))⟩,⟨none,none,15,pI (A.length:Int)⟩,⟨none,none,16,pI (k:Int)⟩] Qf a w) (fun(k:Nat)=>A.length-k) (0) ⟨Nat.zero_le _,(hI.conv ⟨⟨0,_,_,rfl,⟨rfl,rfl,rfl⟩,rfl,fun _=>fun _ _ h=>h⟩,trivial⟩ ⟨⟨rfl,rfl,0,_,rfl,fun _ _ h=>h⟩,⟨rfl,rfl,1,_,rfl,fun _ _ h=>h⟩,⟨rfl,rfl,2,_,rfl,fun _ _ h=>h⟩,⟨rfl,rfl,3,_,rfl,fun _ _ h=>h⟩,⟨rfl,rfl,4,_,rfl,fun _ _ h=>h⟩,⟨rfl,rfl,5,_,rfl,(Xa (by omega))⟩,trivial⟩)⟩ ?_
 intro k a w hIk
 obtain⟨hp,hI⟩:=hIk
 refine Qh hI [] [] [⟨some 0,none,17,pB (decide ((k:Int)<(A.length:Int)))⟩] (.k .z) (.kkkk (.kk .z)) rfl [0] (by kernel_rfl) ?_ (.k .z) (.kkkk (.kkk .z)) fun a w hI=>?_
 ·exact⟨Qo (v:=.bool (decide ((k:Int)<(A.length:Int)))) (.tmp 5 rfl rfl) (.tmp 4 rfl rfl) (fun _=>rfl) (.here 6 rfl),trivial⟩
 refine wp_seq ?_
 refine Xd hI 6 rfl (fun ht=>?_) (fun ht=>?_)
 ·have t1:=of_decide_eq_true ht
  refine wp_skip ?_
  refine Qi ?_
  refine wp_seq ?_
  refine wp_block ?_
  refine Qh hI [] [] [⟨some 0,none,18,Zc 1 false (Qd (A.getD k []))⟩,⟨some 1,none,19,Qd (A.getD k [])⟩,⟨some 2,none,8,Qd (A.getD k [])⟩] (.k .z) (.kkkk (.kkk .z)) rfl [0,1,3] (by kernel_rfl) ?_ (.k .z) (.kkkk (.kkdd (.dk .z))) fun a w hI=>?_
  ·exact⟨Xi (.tmp 3 rfl rfl) (.tmp 5 rfl rfl) Qx (by omega) (by omega) (by kernel_rfl) (.at_ 7 _ _ rfl (by rw[Int.toNat_natCast]; exact fun _ _ h=>h)),X6 (.tmp 7 rfl rfl) Q1 ((Zf _)) (.here 8 rfl),Qc (.tmp 8 rfl rfl) (.here 9 rfl),trivial⟩
  refine Qh hI [⟨9,9,some 0,none,(.grow 0 3),32,0,false,pv Zb,[]⟩] [] [⟨some 0,none,9,Qg 3 true 0 (fun i=>Qk ((Kg (A.getD k []) (Qp B)).getD i 0))⟩] (.k .z) (.kkkk (.kkk .z)) rfl [0] (by kernel_rfl) ?_ (.k (.k .z)) (.k8 .z) fun a w hI=>?_
  ·exact⟨op_nilG 1 rfl rfl rfl (by kernel_rfl) (.here 7 rfl),trivial⟩
  refine wp_seq ?_
  refine Qh hI [] [] [⟨some 0,none,20,Qg 1 false (B.getD 0 []).length (fun i=>Qd ((Qp B).getD i []))⟩,⟨some 1,none,21,pI ((B.getD 0 []).length:Int)⟩,⟨some 2,none,22,pI 0⟩] (.k (.k .z)) (.k8 .z) rfl [0,1,3] (by kernel_rfl) ?_ (.k (.k .z)) (.k8 (.kkk .z)) fun a w hI=>?_
  ·exact⟨Qa (.tmp 1 rfl rfl) (.here 8 rfl),Yy (.tmp 8 rfl rfl) (Qx).under (.here 9 rfl),Qa (.const _) (.here 10 rfl),trivial⟩
  refine wp_block ?_
  refine Xn (fun(k2:Nat) a w=>(k2≤(B.getD 0 []).length)∧Inv ⟨39,w0,M,fun _=>False⟩ [⟨6,6,none,none,(.grow k 1),28,0,false,pv Zb,[]⟩,⟨9,9,none,none,(.grow k2 3),32,0,false,pv Zb,[]⟩] [] [⟨none,none,4,Qe ((Value.slice none 0 0))⟩,⟨none,none,5,Qg 1 false (B.getD 0 []).length (fun i=>Qd ((Qp B).getD i []))⟩,⟨none,none,6,Qg 1 false k (fun i=>Qd ((Xq A (Qp B)).getD i []))⟩,⟨none,none,14,Qg 1 false A.length (fun i=>Qd (A.getD i []))⟩,⟨none,none,15,pI (A.length:Int)⟩,⟨none,none,16,pI (k:Int)⟩,⟨none,none,8,Qd (A.getD k [])⟩,⟨none,none,9,Qg 3 true k2 (fun i=>Qk ((Kg (A.getD k []) (Qp B)).getD i 0))⟩,⟨none,none,20,Qg 1 false (B.getD 0 []).length (fun i=>Qd ((Qp B).getD i []))⟩,⟨none,none,21,pI ((B.getD 0 []).length:Int)⟩,⟨none,none,22,pI (k2:Int)⟩] Qf a w) (fun(k2:Nat)=>(B.getD 0 []).length-k2) (0) ⟨Nat.zero_le _,(hI.conv ⟨⟨0,_,_,rfl,⟨rfl,rfl,rfl⟩,rfl,fun _=>fun _ _ h=>h⟩,⟨1,_,_,rfl,⟨rfl,rfl,rfl⟩,rfl,fun _=>fun _ _ h=>h⟩,trivial⟩ ⟨⟨rfl,rfl,0,_,rfl,fun _ _ h=>h⟩,⟨rfl,rfl,1,_,rfl,fun _ _ h=>h⟩,⟨rfl,rfl,2,_,rfl,fun _ _ h=>h⟩,⟨rfl,rfl,3,_,rfl,fun _ _ h=>h⟩,⟨rfl,rfl,4,_,rfl,fun _ _ h=>h⟩,⟨rfl,rfl,5,_,rfl,fun _ _ h=>h⟩,⟨rfl,rfl,6,_,rfl,fun _ _ h=>h⟩,⟨rfl,rfl,7,_,rfl,fun _ _ h=>h⟩,⟨rfl,rfl,8,_,rfl,fun _ _ h=>h⟩,⟨rfl,rfl,9,_,rfl,fun _ _ h=>h⟩,⟨rfl,rfl,10,_,rfl,(Xa (by omega))⟩,trivial⟩)⟩ ?_
  intro k2 a w hIk
  obtain⟨hp2,hI⟩:=hIk
  refine Qh hI [] [] [⟨some 0,none,23,pB (decide ((k2:Int)<((B.getD 0 []).length:Int)))⟩] (.k (.k .z)) (.k8 (.kkk .z)) rfl [0] (by kernel_rfl) ?_ (.k (.k .z)) (.k8 (.kkkk .z)) fun a w hI=>?_
  ·exact⟨Qo (v:=.bool (decide ((k2:Int)<((B.getD 0 []).length:Int)))) (.tmp 10 rfl rfl) (.tmp 9 rfl rfl) (fun _=>rfl) (.here 11 rfl),trivial⟩
  refine wp_seq ?_
  refine Xd hI 11 rfl (fun ht=>?_) (fun ht=>?_)
  ·have t2:=of_decide_eq_true ht
   refine wp_skip ?_
   refine Qi ?_
   refine wp_seq ?_
   refine wp_block ?_
   refine Qh hI [] [] [⟨some 0,none,24,Zc 1 false (Qd ((Qp B).getD k2 []))⟩,⟨some 1,none,25,Qd ((Qp B).getD k2 [])⟩,⟨some 2,none,11,Qd ((Qp B).getD k2 [])⟩] (.k (.k .z)) (.k8 (.kkkk .z)) rfl [0,1,3] (by kernel_rfl) ?_ (.k (.k .z)) (.k8 (.kkkd (.ddk .z))) fun a w hI=>?_
   ·exact⟨Xi (.tmp 8 rfl rfl) (.tmp 10 rfl rfl) Qx (by omega) (by omega) (by kernel_rfl) (.at_ 12 _ _ rfl (by rw[Int.toNat_natCast]; exact fun _ _ h=>h)),X6 (.tmp 12 rfl rfl) Q1 ((Zf _)) (.here 13 rfl),Qc (.tmp 13 rfl rfl) (.here 14 rfl),trivial⟩
   have hTk:=Qay (A:=B) (show k2<(B.getD 0 []).length by omega)
   have hTl:((Qp B).getD k2 []).length=B.length:=by rw[hTk,W2]
   have q2:∀q,BdR j2 (((Qp B).getD k2 []).getD q 0):=fun q=>by rw[hTk]; exact colAt_bd hBb h2 k2 q
   have hAl:=hAr k (by omega)
   refine Qbw hI [⟨26,26,some 0,some 5,(.grow k2 3),32,0,false,pv Zb,[]⟩,⟨31,31,some 5,none,(.grow (k2+1) 3),32,0,false,pv Zb,[]⟩] [] [⟨some 0,none,26,Qg 3 true k2 (fun i=>Qk ((Kg (A.getD k []) (Qp B)).getD i 0))⟩,⟨some 1,none,27,Qd (A.getD k [])⟩,⟨some 2,none,28,Qd ((Qp B).getD k2 [])⟩,⟨some 3,none,29,Qk (Je (A.getD k []) ((Qp B).getD k2 []) (A.getD k []).length)⟩,⟨some 4,none,30,Qd ([Je (A.getD k []) ((Qp B).getD k2 []) (A.getD k []).length])⟩,⟨some 5,none,31,Qg 3 true (k2+1) (fun i=>Qk ((Kg (A.getD k []) (Qp B)).getD i 0))⟩] (.k (.u (some 0) [] .z)) (.k8 (.kkkk .z)) rfl [0,1,3,7,15,31,63] 6 (by kernel_rfl) ?_ (.k (.d (.d (.k .z)))) (.kkkk (.kkkd (.kkkd (.dddd (.dk .z))))) (fun a w hI=>hI) (⟨_,fun a w hI=>Jh hI [⟨9,9,some 0,none,(.grow (k2+1) 3),32,0,false,pv Zb,[]⟩] [⟨some 0,none,9,Qg 3 true (k2+1) (fun i=>Qk ((Kg (A.getD k []) (Qp B)).getD i 0))⟩] (.k (.u (some 0) [] .z)) (.k8 (.kkk .z)) (by kernel_rfl) (Kq 1 rfl rfl (by kernel_rfl) rfl rfl 2 rfl rfl rfl rfl (by kernel_rfl) (.tmp 10 rfl rfl) (.here 11 rfl)) (.k (.d (.k .z))) (.k8 (.kkdk .z)),
     rfl⟩) ?_
   ·exact⟨Va 1 rfl rfl (by kernel_rfl) rfl rfl 2 rfl rfl rfl rfl (by kernel_rfl) (.tmp 7 rfl rfl) (.here 12 rfl),Qa (.tmp 6 rfl rfl) (.here 13 rfl),Qa (.tmp 11 rfl rfl) (.here 14 rfl),W9 (fun _ _=>by kernel_rfl) (.tmp 13 rfl rfl) (.tmp 14 rfl rfl) (.here 15 rfl) (c_inner (j1:=j1) (j2:=j2) (by omega) (by omega) (by omega) (by omega) (hAb _) q2 (by rw[hAl]; exact hj)),Qa1 (fs:=List.replicate 1 ⟨true,3,Qk 0⟩) (ps:=[(0,Qk (Je (A.getD k []) ((Qp B).getD k2 []) (A.getD k []).length))]) (gs:=[Je (A.getD k []) ((Qp B).getD k2 []) (A.getD k []).length].map fun q=>⟨true,3,Qk q⟩) Qy Jj rfl rfl rfl (fun w=>Yl w) rfl (show U3 _ _ _ _ _ _ from⟨⟨rfl,(.tmp 15 rfl rfl),_,rfl,Xb _⟩,trivial⟩) rfl (fun i=>Qk ([Je (A.getD k []) ((Qp B).getD k2 []) (A.getD k []).length].getD i 0)) (rats_fd _) (.here 16 rfl),Qca 2 rfl rfl (by kernel_rfl) rfl rfl 3 rfl rfl rfl rfl rfl (by kernel_rfl) (by kernel_rfl) (.tmp 12 rfl rfl) (.tmp 16 rfl rfl) Qcx (fun h=>by cases h) (fun i _=>Xb _) (fun i _=>Xb _) (by omega) (.at_ 17 _ _ rfl (row_snoc (g:=fun j=>Qk ([Je (A.getD k []) ((Qp B).getD k2 []) (A.getD k []).length].getD j 0)) (f:=fun i=>Qk ((Kg (A.getD k []) (Qp B)).getD i 0)) (f':=fun i=>Qk ((Kg (A.getD k []) (Qp B)).getD i 0)) (fun _ _ _ _ h=>h) (fun _ _ h=>by rw[Qdb (by rw[Wb]; omega)]; exact h))),trivial⟩
   ·intro a w hI
    refine Xw ?_
    refine Qi ?_
    refine Yx hI [] [] [⟨some 0,none,32,pI ((k2:Int)+(1:Int))⟩,⟨some 1,none,22,pI ((k2:Int)+(1:Int))⟩] (.k (.k .z)) (.k8 (.k (.t 1 (.k .z)))) rfl [0,1] (by kernel_rfl) ?_ (.k (.k .z)) (.k8 (.kdkd (.k .z))) fun a w hI=>?_
    ·exact⟨Qo (v:=.int .i64 (IntKind.i64.wrap ((k2:Int)+(1:Int)))) (.tmp 9 rfl rfl) (.const _) (fun _=>rfl) (.at_ 11 _ _ rfl (Xe (by omega))),Qa (.tmp 11 rfl rfl) (.here 12 rfl),trivial⟩
    refine Qi ?_
    exact⟨k2+1,⟨(show k2+1≤(B.getD 0 []).length by omega),(hI.conv ⟨⟨0,_,_,rfl,⟨rfl,rfl,rfl⟩,rfl,fun _=>fun _ _ h=>h⟩,⟨1,_,_,rfl,⟨rfl,rfl,rfl⟩,rfl,fun _=>fun _ _ h=>h⟩,trivial⟩ ⟨⟨rfl,rfl,0,_,rfl,fun _ _ h=>h⟩,⟨rfl,rfl,1,_,rfl,fun _ _ h=>h⟩,⟨rfl,rfl,2,_,rfl,fun _ _ h=>h⟩,⟨rfl,rfl,3,_,rfl,fun _ _ h=>h⟩,⟨rfl,rfl,4,_,rfl,fun _ _ h=>h⟩,⟨rfl,rfl,5,_,rfl,fun _ _ h=>h⟩,⟨rfl,rfl,6,_,rfl,fun _ _ h=>h⟩,⟨rfl,rfl,9,_,rfl,fun _ _ h=>h⟩,⟨rfl,rfl,7,_,rfl,fun _ _ h=>h⟩,⟨rfl,rfl,8,_,rfl,fun _ _ h=>h⟩,⟨rfl,rfl,10,_,rfl,(Xa (by omega))⟩,trivial⟩)⟩,(show(B.getD 0 []).length-(k2+1)<(B.getD 0 []).length-k2 by omega)⟩
  ·have t3:=of_decide_eq_false ht
   refine wp_exit ?_
   refine Qz ?_
   refine Qz ?_
   refine Xl ?_
   refine Qi ?_
   refine Qbw hI [⟨33,33,some 0,some 3,(.grow k 1),28,0,false,pv Zb,[]⟩,⟨34,34,some 1,none,(.grow k2 3),32,0,false,pv Zb,[]⟩,⟨36,36,some 3,none,(.grow (k+1) 1),28,0,false,pv Zb,[]⟩] [] [⟨some 0,none,33,Qg 1 false k (fun i=>Qd ((Xq A (Qp B)).getD i []))⟩,⟨some 1,none,34,Qg 3 true k2 (fun i=>Qk ((Kg (A.getD k []) (Qp B)).getD i 0))⟩,⟨some 2,none,35,Qg 1 false 1 (fun _=>Qg 3 true k2 (fun i=>Qk ((Kg (A.getD k []) (Qp B)).getD i 0)))⟩,⟨some 3,none,36,Qg 1 false (k+1) (fun i=>Qd ((Xq A (Qp B)).getD i []))⟩] (.u (some 0) [] (.u (some 1) [] .z)) (.k8 (.kkkk .z)) rfl [0,1,3,7,15] 4 (by kernel_rfl) ?_ (.d (.d (.d (.k (.k .z))))) (.kkdk (.kkdd (.dddd (.dddk .z)))) (fun a w hI=>hI) (⟨_,fun a w hI=>Jh hI [⟨6,6,some 0,none,(.grow (k+1) 1),28,0,false,pv Zb,[]⟩] [⟨some 0,none,6,Qg 1 false (k+1) (fun i=>Qd ((Xq A (Qp B)).getD i []))⟩] (.k (.u (some 0) [] .z)) (.kkkk (.kk .z)) (by kernel_rfl) (Kq 1 rfl rfl (by kernel_rfl) rfl rfl 2 rfl rfl rfl rfl (by kernel_rfl) (.tmp 5 rfl rfl) (.here 6 rfl)) (.k (.d (.k .z))) (.kkkk (.kdk .z)),
     rfl⟩) ?_
   ·exact⟨Va 0 rfl rfl (by kernel_rfl) rfl rfl 2 rfl rfl rfl rfl (by kernel_rfl) (.tmp 2 rfl rfl) (.here 12 rfl),Va 1 rfl rfl (by kernel_rfl) rfl rfl 3 rfl rfl rfl rfl (by kernel_rfl) (.tmp 7 rfl rfl) (.here 13 rfl),U9 (agg:=false) Qx Qek rfl rfl (by decide) (.tmp 13 rfl rfl) Qc4 (.here 14 rfl),Qca 2 rfl rfl (by kernel_rfl) rfl rfl 4 rfl rfl rfl rfl rfl (by kernel_rfl) (by kernel_rfl) (.tmp 12 rfl rfl) (.tmp 14 rfl rfl) app_Rows (fun _=>rfl) (fun i _=>Zf _) (fun i _=>Qc4) (by omega) (.at_ 15 _ _ rfl (row_snoc1 (f':=fun i=>Qd ((Xq A (Qp B)).getD i [])) (f:=fun i=>Qd ((Xq A (Qp B)).getD i [])) (fun _ _ _ _ h=>h) (fun w v h=>by rw[Qdd (by omega)]; exact Ug (f':=fun i=>Qk ((Kg (A.getD k []) (Qp B)).getD i 0)) (by rw[Qdc,Wb]; omega) (fun _ _ _ _ h=>h) w v h))),trivial⟩
   ·intro a w hI
    refine Xw ?_
    refine Qi ?_
    refine Yx hI [] [] [⟨some 0,none,37,pI ((k:Int)+(1:Int))⟩,⟨some 1,none,16,pI ((k:Int)+(1:Int))⟩] (.k (.k .z)) (.kkkk (.t 1 (.k .z))) rfl [0,1] (by kernel_rfl) ?_ (.k (.k .z)) (.kkkk (.dkdk .z)) fun a w hI=>?_
    ·exact⟨Qo (v:=.int .i64 (IntKind.i64.wrap ((k:Int)+(1:Int)))) (.tmp 4 rfl rfl) (.const _) (fun _=>rfl) (.at_ 6 _ _ rfl (Xe (by omega))),Qa (.tmp 6 rfl rfl) (.here 7 rfl),trivial⟩
    refine Qi ?_
    exact⟨k+1,⟨(show k+1≤A.length by omega),(hI.conv ⟨⟨1,_,_,rfl,⟨rfl,rfl,rfl⟩,rfl,fun _=>fun _ _ h=>h⟩,trivial⟩ ⟨⟨rfl,rfl,0,_,rfl,fun _ _ h=>h⟩,⟨rfl,rfl,1,_,rfl,fun _ _ h=>h⟩,⟨rfl,rfl,4,_,rfl,fun _ _ h=>h⟩,⟨rfl,rfl,2,_,rfl,fun _ _ h=>h⟩,⟨rfl,rfl,3,_,rfl,fun _ _ h=>h⟩,⟨rfl,rfl,5,_,rfl,(Xa (by omega))⟩,trivial⟩)⟩,(show A.length-(k+1)<A.length-k by omega)⟩
 ·have t4:=of_decide_eq_false ht
  refine wp_exit ?_
  refine Qz ?_
  refine Qz ?_
  refine Xl ?_
  refine Qi ?_
  refine Qh hI [⟨38,38,some 0,some 1,(.grow k 1),28,0,false,pv Zb,[]⟩,⟨4,4,some 1,none,(.grow k 1),28,0,false,pv Zb,[]⟩] [] [⟨some 0,none,38,Qg 1 false k (fun i=>Qd ((Xq A (Qp B)).getD i []))⟩,⟨some 1,none,4,Qg 1 false k (fun i=>Qd ((Xq A (Qp B)).getD i []))⟩] (.u (some 0) [] .z) (.t 1 (.kkkk (.kk .z))) rfl [0,1] (by kernel_rfl) ?_ (.d (.d (.k .z))) (.d8 (.k .z)) fun a w hI=>?_
  ·exact⟨Va 0 rfl rfl (by kernel_rfl) rfl rfl 1 rfl rfl rfl rfl (by kernel_rfl) (.tmp 2 rfl rfl) (.here 7 rfl),Kq 1 rfl rfl (by kernel_rfl) rfl rfl 2 rfl rfl rfl rfl (by kernel_rfl) (.tmp 7 rfl rfl) (.here 8 rfl),trivial⟩
  refine wp_ret ?_
  exact W5 hI rfl (.imp (.tmp 0 rfl) (Ug (by omega) fun i hi w v h=>h))
end Wx

namespace Wx
open Go Go.RowKit Go.Proofs
set_option linter.unusedVariables false

end Wx
