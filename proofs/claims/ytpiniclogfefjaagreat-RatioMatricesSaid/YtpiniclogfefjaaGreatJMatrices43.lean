import Derived.Test.YtpiniclogfefjaaGreatJMatrices42
namespace Wx
open Go Go.RowKit Go.Proofs
set_option linter.unusedVariables false

end Wx

namespace Wx
open Go Go.RowKit Go.Proofs
set_option linter.unusedVariables false

end Wx

namespace Wx
set_option maxRecDepth 100000
open Go Go.RowKit Go.Proofs
set_option linter.unusedVariables false

theorem c_inner {L1 L2:List Rat} {j1 j2:Nat} (h0:0<L1.length) (hl:L1.length≤L2.length) (hm:L1.length≤1000000) (hm2:L2.length≤1000000) (q1:∀k,BdR j1 (L1.getD k 0)) (q2:∀k,BdR j2 (L2.getD k 0)) (hj:K6 (j1+j2) L1.length≤100000000):∀(M:Nat→Nat→Prop) (w:World) (v0 v1:Value),Mid M w→Box M (fun w=>(Qd L1) w v0) w→Box M (fun w=>(Qd L2) w v1) w→Calls Tryz.prog 63 #[v0,v1] w (RetB M (Qq (Jy L1 L2 L1.length)) w):=by
 intro M w0 v0 v1 hM hv0 hv1
 have B1:j1+j2≤100000000:=by have:=dotJ_mono (j1+j2) (show 1≤L1.length by omega); have:K6 (j1+j2) 1=1+(j1+j2)+1+(j1+j2)+1:=rfl; omega
 refine Q5 (N:=36) Tryz.func63 rfl rfl rfl hM (show EntsA M w0 [v0,v1] [Ez 0 (Qd L1),Ez 1 (Qd L2)]from⟨⟨rfl,_,rfl,hv0⟩,⟨rfl,_,rfl,hv1⟩,trivial⟩) fun a hI=>?_
 refine Ql hI [⟨4,4,some 0,none,.ptr,38,3,true,pv (Qq 0),[]⟩] [] [0] .z (.kk .z) ?_ (.k .z) (.kk .z) fun a w hI=>?_
 ·exact⟨Yx 0 rfl rfl (by kernel_rfl) (by kernel_rfl) rfl rfl rfl Jd rfl rfl (by simp[Yu]) rfl (fun w=>Yy w),trivial⟩
 refine Ql hI [⟨5,5,some 0,none,.ptr,38,3,true,pv (Qq 0),[]⟩] [] [0] (.k .z) (.kk .z) ?_ (.k (.k .z)) (.kk .z) fun a w hI=>?_
 ·exact⟨Yx 1 rfl rfl (by kernel_rfl) (by kernel_rfl) rfl rfl rfl Jd rfl rfl (by simp[Yu]) rfl (fun w=>Yy w),trivial⟩
 refine wp_seq ?_
 refine Ql hI [] [Ec 0 8 (Qd L1),Ec 1 9 (pI (L1.length:Int)),Ec 2 10 (pI 0)] [0,1,3] (.k (.k .z)) (.kk .z) ?_ (.k (.k .z)) (.dkkk (.k .z)) fun a w hI=>?_
 ·exact⟨Qa (.tp 0 rfl) (.here 2 rfl),Q4 (.tp 2 rfl) (Xo).under (.here 3 rfl),Qa (.const _) (.here 4 rfl),trivial⟩
 refine wp_block ?_
 refine Xz (fun(k:Nat) a w=>(k≤L1.length)∧Inv ⟨36,w0,M,fun _=>False⟩ [⟨4,4,none,none,.ptr,38,3,true,pv (Qq 0),[]⟩,⟨5,5,none,none,.ptr,38,3,true,pv (Qq (Jy L1 L2 k)),[]⟩] [] [Ez 1 (Qd L2),Ez 8 (Qd L1),Ez 9 (pI (L1.length:Int)),Ez 10 (pI (k:Int))] Qi a w) (fun(k:Nat)=>L1.length-k) (0) ⟨Nat.zero_le _,(hI.conv ⟨⟨0,_,_,rfl,⟨rfl,rfl,rfl⟩,rfl,fun _=>fun _ _ h=>h⟩,⟨1,_,_,rfl,⟨rfl,rfl,rfl⟩,rfl,fun _=>(fun _ _ h=>h)⟩,trivial⟩ ⟨Qp 0 rfl,Qp 1 rfl,Qp 2 rfl,⟨rfl,rfl,3,_,rfl,(Xc (by omega))⟩,trivial⟩)⟩ ?_
 intro k a w hIk
 obtain⟨hp,hI⟩:=hIk
 refine Ql hI [] [Ec 0 11 (pB (decide ((k:Int)<(L1.length:Int))))] [0] (.k (.k .z)) (.kkkk .z) ?_ (.k (.k .z)) (.kkkk (.k .z)) fun a w hI=>?_
 ·exact⟨Qk (v:=.bool (decide ((k:Int)<(L1.length:Int)))) (.tp 3 rfl) (.tp 2 rfl) (fun _=>rfl) (.here 4 rfl),trivial⟩
 refine wp_seq ?_
 refine Xm hI 4 rfl (fun ht=>?_) (fun ht=>?_)
 ·have t1:=of_decide_eq_true ht
  refine wp_skip ?_
  refine Qf ?_
  refine wp_seq ?_
  refine wp_block ?_
  refine Ql hI [⟨7,7,some 3,none,.ptr,38,3,true,pv (Qq 0),[(5,pv (Qq (L1.getD k 0)))]⟩] [Ec 0 12 (pI (k:Int)),Ec 1 13 (Ye 3 true (Qq (L1.getD k 0))),Ec 2 14 (Qq (L1.getD k 0)),Ec 4 6 (pI (k:Int))] [0,1,3,7,15,31] (.k (.k .z)) (.kkkk (.k .z)) ?_ (.k (.k (.s .o .z))) (.k8 (.k .z)) fun a w hI=>?_
  ·exact⟨Qa (.tp 3 rfl) (.here 5 rfl),Qw (.tp 1 rfl) (.tp 3 rfl) Xo (.at_ 6 _ _ rfl (by rw[Int.toNat_natCast]; exact fun _ _ h=>h)),Q7 (.tp 6 rfl) Q8 (Yb _) (.here 7 rfl),Yx 2 rfl rfl (by kernel_rfl) (by kernel_rfl) rfl rfl rfl Jd rfl rfl (by simp[Yu]) rfl (fun w=>Yy w),Qc (.tp 5 rfl) (.here 8 rfl),X0 2 rfl rfl rfl rfl 0 rfl (by kernel_rfl) (by kernel_rfl) Q8 (.tp 7 rfl) (Yb _),trivial⟩
  refine Ql hI [] [Ec 0 15 (Qq (L1.getD k 0)),Ec 1 16 (pB (decide (L1.getD k 0=0))),Ec 2 17 (pB (!(decide (L1.getD k 0=0)))),Ec 3 18 (pB (!(decide (L1.getD k 0=0)))),Ec 4 19 (X4 ((!(decide (L1.getD k 0=0)))=true) (Qd L2)),Ec 5 20 (X4 ((!(decide (L1.getD k 0=0)))=true) (pI (k:Int))),Ec 6 21 (X4 ((!(decide (L1.getD k 0=0)))=true) (Ye 3 true (Qq (L2.getD k 0)))),Ec 7 22 (X4 ((!(decide (L1.getD k 0=0)))=true) (Qq (L2.getD k 0))),Ec 8 23 (X4 ((!(decide (L1.getD k 0=0)))=true) (pB (decide (L2.getD k 0=0)))),Ec 9 24 (X4 ((!(decide (L1.getD k 0=0)))=true) (pB (!(decide (L2.getD k 0=0))))),Ec 10 25 (pB ((!(decide (L1.getD k 0=0)))&&(!(decide (L2.getD k 0=0)))))] [0,1,3,7,15,31,63,127,255,511,1023] (.k (.k (.k .z))) (.k8 (.k .z)) ?_ (.k (.k (.k .z))) (.k8 (.k8 (.kkkk .z))) fun a w hI=>?_
  ·exact⟨Xp 2 rfl rfl rfl rfl (by kernel_rfl) Q8 rfl (.here 9 rfl),Zf (fun _ _=>by kernel_rfl) (Zc _) (.tp 9 rfl) (.here 10 rfl) (c_zero (L1.getD k 0)),K9 (.tp 10 rfl) (.here 11 rfl),Qa (.tp 11 rfl) (.here 12 rfl),Xd 12 rfl rfl (fun hc=>Qa (.tp 0 rfl) (.sel hc 13 rfl)) 13 rfl,Xd 12 rfl rfl (fun hc=>Qa (.tp 8 rfl) (.sel hc 14 rfl)) 14 rfl,Xd 12 rfl rfl (fun hc=>Qw (.sel (.tp 13 rfl) hc) (.sel (.tp 14 rfl) hc) Xo (.sel hc 15 rfl)) 15 rfl,Xd 12 rfl rfl (fun hc=>Q7 (.sel (.tp 15 rfl) hc) Q8 (Yb _) (.sel hc 16 rfl)) 16 rfl,Xd 12 rfl rfl (fun hc=>Zf (fun _ _=>by kernel_rfl) (Zc _) (.sel (.tp 16 rfl) hc) (.sel hc 17 rfl) (c_zero (L2.getD k 0))) 17 rfl,Xd 12 rfl rfl (fun hc=>K9 (.sel (.tp 17 rfl) hc) (.sel hc 18 rfl)) 18 rfl,Yl (.tp 12 rfl) (fun h=>.imp (.sel (.tp 18 rfl) (h)) fun _ _ e=>by rw[h]; exact e) (fun h=>.imp (.const _) fun _ _ e=>by rw[h]; exact e) (.here 19 rfl),trivial⟩
  refine Xm hI 19 rfl (fun ht=>?_) (fun ht=>?_)
  ·have t2:=ht
   refine Qc6 hI [] [Ec 0 26 (Qq (Jy L1 L2 k)),Ec 1 27 (Qq (L1.getD k 0)),Ec 2 28 (Qd L2),Ec 3 29 (pI (k:Int)),Ec 4 30 (Ye 3 true (Qq (L2.getD k 0))),Ec 5 31 (Qq (L2.getD k 0)),Ec 6 32 (Qq ((L1.getD k 0)*(L2.getD k 0))),Ec 7 33 (Qq ((Jy L1 L2 k)+((L1.getD k 0)*(L2.getD k 0))))] [0,0,0,0,12,28,62,127,255] (.k (.u none [(8,pv (Qq ((Jy L1 L2 k)+((L1.getD k 0)*(L2.getD k 0)))))] (.k .z))) (.k8 (.k8 (.kkkk .z))) ?_ (.k (.s .o (.k .z))) (.k8 (.k8 (.k8 (.kkkk .z)))) fun a w hI=>?_
   ·exact⟨Xp 1 rfl rfl rfl rfl (by kernel_rfl) Q8 rfl (.here 20 rfl),Xp 2 rfl rfl rfl rfl (by kernel_rfl) Q8 rfl (.here 21 rfl),Qa (.tp 0 rfl) (.here 22 rfl),Qa (.tp 8 rfl) (.here 23 rfl),Qw (.tp 22 rfl) (.tp 23 rfl) Xo (.at_ 24 _ _ rfl (by rw[Int.toNat_natCast]; exact fun _ _ h=>h)),Q7 (.tp 24 rfl) Q8 (Yb _) (.here 25 rfl),Yi (fun _ _=>by kernel_rfl) (Y5 _) (.tp 21 rfl) (.tp 25 rfl) (.here 26 rfl) (c_mul (q1 k) (q2 k) (by omega)),Yi (fun _ _=>by kernel_rfl) (Y5 _) (.tp 20 rfl) (.tp 26 rfl) (.here 27 rfl) (c_add (j:=K6 (j1+j2) k) (k:=j1+j2) (bd_dot q1 q2 k) ((((q1 k)).mul (q2 k))) (by have:=dotJ_mono (j1+j2) (show k+1≤L1.length by omega); have:K6 (j1+j2) (k+1)=K6 (j1+j2) k+(j1+j2)+K6 (j1+j2) k+(j1+j2)+1:=rfl; omega)),X0 1 rfl rfl rfl rfl 0 rfl (by kernel_rfl) (by kernel_rfl) Q8 (.tp 27 rfl) (Yb _),trivial⟩
   refine Yf ?_
   refine Qf ?_
   refine Y4 hI [] [Ec 0 34 (pI ((k:Int)+(1:Int))),Ec 1 10 (pI ((k:Int)+(1:Int)))] [0,1] (.k (.k (.k .z))) (.kkk (.t 1 (.k8 (.k8 (.k8 .z))))) ?_ (.k (.k (.k .z))) (.kkkd (.k8 (.k8 (.k8 (.kk .z))))) fun a w hI=>?_
   ·exact⟨Qk (v:=.int .i64 (IntKind.i64.wrap ((k:Int)+(1:Int)))) (.tp 3 rfl) (.const _) (fun _=>rfl) (.at_ 28 _ _ rfl (X8 (by omega))),Qa (.tp 28 rfl) (.here 29 rfl),trivial⟩
   refine Qf ?_
   exact⟨k+1,⟨(show k+1≤L1.length by omega),(hI.conv ⟨⟨0,_,_,rfl,⟨rfl,rfl,rfl⟩,rfl,fun _=>fun _ _ h=>h⟩,⟨1,_,_,rfl,⟨rfl,rfl,rfl⟩,rfl,fun _=>(fun _ _ h=>h)⟩,trivial⟩ ⟨Qp 0 rfl,Qp 1 rfl,Qp 2 rfl,⟨rfl,rfl,28,_,rfl,(Xc (by omega))⟩,trivial⟩)⟩,(show L1.length-(k+1)<L1.length-k by omega)⟩
  ·have t3:=ht
   refine wp_skip ?_
   refine Yf ?_
   refine Qf ?_
   refine Y4 hI [] [Ec 0 34 (pI ((k:Int)+(1:Int))),Ec 1 10 (pI ((k:Int)+(1:Int)))] [0,1] (.k (.k (.k .z))) (.kkk (.t 1 (.k8 (.k8 .z)))) ?_ (.k (.k (.k .z))) (.kkkd (.k8 (.k8 (.kk .z)))) fun a w hI=>?_
   ·exact⟨Qk (v:=.int .i64 (IntKind.i64.wrap ((k:Int)+(1:Int)))) (.tp 3 rfl) (.const _) (fun _=>rfl) (.at_ 20 _ _ rfl (X8 (by omega))),Qa (.tp 20 rfl) (.here 21 rfl),trivial⟩
   refine Qf ?_
   exact⟨k+1,⟨(show k+1≤L1.length by omega),(hI.conv ⟨⟨0,_,_,rfl,⟨rfl,rfl,rfl⟩,rfl,fun _=>fun _ _ h=>h⟩,⟨1,_,_,rfl,⟨rfl,rfl,rfl⟩,rfl,fun _=>(fun w v h=>by rw[dot_skip t3]; exact h)⟩,trivial⟩ ⟨Qp 0 rfl,Qp 1 rfl,Qp 2 rfl,⟨rfl,rfl,20,_,rfl,(Xc (by omega))⟩,trivial⟩)⟩,(show L1.length-(k+1)<L1.length-k by omega)⟩
 ·have t4:=of_decide_eq_false ht
  refine wp_exit ?_
  refine Qy ?_
  refine Qy ?_
  refine Xv ?_
  refine Qf ?_
  refine Ql hI [] [Ec 0 35 (Qq (Jy L1 L2 k))] [0,1] (.u none [(1,pv (Qq (Jy L1 L2 k)))] (.k .z)) (.kkkk (.k .z)) ?_ (.s .o (.k .z)) (.dddd (.dd .z)) fun a w hI=>?_
  ·exact⟨Xp 1 rfl rfl rfl rfl (by kernel_rfl) Q8 rfl (.here 5 rfl),X0 0 rfl rfl rfl rfl 0 rfl (by kernel_rfl) (by kernel_rfl) Q8 (.tp 5 rfl) (Yb _),trivial⟩
  refine wp_ret ?_
  exact Zu hI rfl (.imp (.cell 0 rfl rfl rfl rfl Q8 rfl) (fun w v h=>by rw[show L1.length=k by omega]; exact h))
end Wx

namespace Wx
set_option maxRecDepth 100000
open Go Go.RowKit Go.Proofs
set_option linter.unusedVariables false

theorem colAt_bd {B:List (List Rat)} {j:Nat} (hb:BdX j B) (h1:1≤j) (k:Nat):∀q,BdR j ((Ve B k).getD q 0):=fun q=>by
 rcases Nat.lt_or_ge q B.length with h|h
 ·rw[Qbi h]
  exact hb q k
 ·rw[Vg (by rw[Va]; exact h)]
  exact bd_zero.mono h1
theorem c_product {A B:List (List Rat)} {j1 j2:Nat} (hA0:A.length≤1000000) (hB0:0<B.length∧B.length≤1000000) (hAr:∀i,i<A.length→(A.getD i []).length=B.length) (hBr:∀i,i<B.length→(B.getD i []).length=(B.getD 0 []).length) (hBc:(B.getD 0 []).length≤1000000) (hAb:BdX j1 A) (hBb:BdX j2 B) (h2:1≤j2) (hj:K6 (j1+j2) B.length≤100000000):∀(M:Nat→Nat→Prop) (w:World) (v0 v1:Value),Mid M w→Box M (fun w=>(Qr Qd A) w v0) w→Box M (fun w=>(Qr Qd B) w v1) w→Calls Tryz.prog 49 #[v0,v1] w (RetB M (Qj 1 false A.length fun i=>Qd ((Ko A (Xu B)).getD i [])) w):=by
 intro M w0 v0 v1 hM hv0 hv1
 refine J1 (N:=39) Tryz.func49 rfl rfl rfl hM (show EntsA M w0 [v0,v1] [Ez 0 (Qr Qd A),Ez 1 (Qr Qd B)]from⟨⟨rfl,_,rfl,hv0⟩,⟨rfl,_,rfl,hv1⟩,trivial⟩) fun a hI=>?_
 refine Qo hI [Ec 0 4 (Qs ((Value.slice none 0 0)))] [0] (.kk .z) ?_ (.kkk .z) fun a w hI=>?_
 ·exact⟨Qc (.const _) (.here 2 rfl),trivial⟩
 refine Qo hI [Ec 0 12 (Qr Qd B),Ec 1 13 (Qj 1 false (B.getD 0 []).length (fun i=>Qd ((Xu B).getD i []))),Ec 2 5 (Qj 1 false (B.getD 0 []).length (fun i=>Qd ((Xu B).getD i [])))] [0,1,3] (.kkk .z) ?_ (.kdkd (.dk .z)) fun a w hI=>?_
 ·exact⟨Qa (.tp 1 rfl) (.here 3 rfl),Q6 (fun _ _=>by kernel_rfl) (.tp 3 rfl) (.here 4 rfl) (c_turned (j:=j2) (by omega) (by omega) (by omega) hBr hBb),Qc (.tp 4 rfl) (.here 5 rfl),trivial⟩
 refine Ql hI [⟨6,6,some 0,none,(.grow 0 1),39,0,false,pv Xx,[]⟩] [Ec 0 6 (Qj 1 false 0 (fun i=>Qd ((Ko A (Xu B)).getD i [])))] [0] .z (.kkk .z) ?_ (.k .z) (.kkkk .z) fun a w hI=>?_
 ·exact⟨op_nilG 0 rfl rfl rfl (by kernel_rfl) (.here 3 rfl),trivial⟩
 refine wp_seq ?_
 refine Ql hI [] [Ec 0 14 (Qr Qd A),Ec 1 15 (pI (A.length:Int)),Ec 2 16 (pI 0)] [0,1,3] (.k .z) (.kkkk .z) ?_ (.k .z) (.dkkk (.kkk .z)) fun a w hI=>?_
 ·exact⟨Qa (.tp 0 rfl) (.here 4 rfl),Q4 (.tp 4 rfl) (Xb).under (.here 5 rfl),Qa (.const _) (.here 6 rfl),trivial⟩
 refine wp_block ?_
 refine Xz (fun(k:Nat) a w=>(k≤A.length)∧Inv ⟨39,w0,M,fun _=>False⟩ [⟨6,6,none,none,(.grow k 1),39,0,false,pv Xx,[]⟩] [] [Ez 4 (Qs ((Value.slice none 0 0))),Ez 5 (Qj 1 false (B.getD 0 []).length (fun i=>Qd ((Xu B).getD i []))),Ez 6 (Qj 1 false k (fun i=>Qd ((Ko A (Xu B)).getD i []))),Ez 14 (Qr Qd A),Ez 15 (pI (A.length:Int)),Ez 16 (pI (k:Int))] Qi a w) (fun(k:Nat)=>A.length-k) (0) ⟨Nat.zero_le _,(hI.conv ⟨⟨0,_,_,rfl,⟨rfl,rfl,rfl⟩,rfl,fun _=>fun _ _ h=>h⟩,trivial⟩ ⟨Qp 0 rfl,Qp 1 rfl,Qp 2 rfl,Qp 3 rfl,Qp 4 rfl,⟨rfl,rfl,5,_,rfl,(Xc (by omega))⟩,trivial⟩)⟩ ?_
 intro k a w hIk
 obtain⟨hp,hI⟩:=hIk
 refine Ql hI [] [Ec 0 17 (pB (decide ((k:Int)<(A.length:Int))))] [0] (.k .z) (.kkkk (.kk .z)) ?_ (.k .z) (.kkkk (.kkk .z)) fun a w hI=>?_
 ·exact⟨Qk (v:=.bool (decide ((k:Int)<(A.length:Int)))) (.tp 5 rfl) (.tp 4 rfl) (fun _=>rfl) (.here 6 rfl),trivial⟩
 refine wp_seq ?_
 refine Xm hI 6 rfl (fun ht=>?_) (fun ht=>?_)
 ·have t1:=of_decide_eq_true ht
  refine wp_skip ?_
  refine Qf ?_
  refine wp_seq ?_
  refine wp_block ?_
  refine Ql hI [] [Ec 0 18 (Ye 1 false (Qd (A.getD k []))),Ec 1 19 (Qd (A.getD k [])),Ec 2 8 (Qd (A.getD k []))] [0,1,3] (.k .z) (.kkkk (.kkk .z)) ?_ (.k .z) (.kkkk (.kkdd (.dk .z))) fun a w hI=>?_
  ·exact⟨Qw (.tp 3 rfl) (.tp 5 rfl) Xb (.at_ 7 _ _ rfl (by rw[Int.toNat_natCast]; exact fun _ _ h=>h)),Q7 (.tp 7 rfl) X6 ((Y6 _)) (.here 8 rfl),Qc (.tp 8 rfl) (.here 9 rfl),trivial⟩
  refine Ql hI [⟨9,9,some 0,none,(.grow 0 3),38,0,false,pv Xx,[]⟩] [Ec 0 9 (Qj 3 true 0 (fun i=>Qq ((K8 (A.getD k []) (Xu B)).getD i 0)))] [0] (.k .z) (.kkkk (.kkk .z)) ?_ (.k (.k .z)) (.k8 .z) fun a w hI=>?_
  ·exact⟨op_nilG 1 rfl rfl rfl (by kernel_rfl) (.here 7 rfl),trivial⟩
  refine wp_seq ?_
  refine Ql hI [] [Ec 0 20 (Qj 1 false (B.getD 0 []).length (fun i=>Qd ((Xu B).getD i []))),Ec 1 21 (pI ((B.getD 0 []).length:Int)),Ec 2 22 (pI 0)] [0,1,3] (.k (.k .z)) (.k8 .z) ?_ (.k (.k .z)) (.k8 (.kkk .z)) fun a w hI=>?_
  ·exact⟨Qa (.tp 1 rfl) (.here 8 rfl),Q4 (.tp 8 rfl) (Xb).under (.here 9 rfl),Qa (.const _) (.here 10 rfl),trivial⟩
  refine wp_block ?_
  refine Xz (fun(k2:Nat) a w=>(k2≤(B.getD 0 []).length)∧Inv ⟨39,w0,M,fun _=>False⟩ [⟨6,6,none,none,(.grow k 1),39,0,false,pv Xx,[]⟩,⟨9,9,none,none,(.grow k2 3),38,0,false,pv Xx,[]⟩] [] [Ez 4 (Qs ((Value.slice none 0 0))),Ez 5 (Qj 1 false (B.getD 0 []).length (fun i=>Qd ((Xu B).getD i []))),Ez 6 (Qj 1 false k (fun i=>Qd ((Ko A (Xu B)).getD i []))),Ez 14 (Qr Qd A),Ez 15 (pI (A.length:Int)),Ez 16 (pI (k:Int)),Ez 8 (Qd (A.getD k [])),Ez 9 (Qj 3 true k2 (fun i=>Qq ((K8 (A.getD k []) (Xu B)).getD i 0))),Ez 20 (Qj 1 false (B.getD 0 []).length (fun i=>Qd ((Xu B).getD i []))),Ez 21 (pI ((B.getD 0 []).length:Int)),Ez 22 (pI (k2:Int))] Qi a w) (fun(k2:Nat)=>(B.getD 0 []).length-k2) (0) ⟨Nat.zero_le _,(hI.conv ⟨⟨0,_,_,rfl,⟨rfl,rfl,rfl⟩,rfl,fun _=>fun _ _ h=>h⟩,⟨1,_,_,rfl,⟨rfl,rfl,rfl⟩,rfl,fun _=>fun _ _ h=>h⟩,trivial⟩ ⟨Qp 0 rfl,Qp 1 rfl,Qp 2 rfl,Qp 3 rfl,Qp 4 rfl,Qp 5 rfl,Qp 6 rfl,Qp 7 rfl,Qp 8 rfl,Qp 9 rfl,⟨rfl,rfl,10,_,rfl,(Xc (by omega))⟩,trivial⟩)⟩ ?_
  intro k2 a w hIk
  obtain⟨hp2,hI⟩:=hIk
  refine Ql hI [] [Ec 0 23 (pB (decide ((k2:Int)<((B.getD 0 []).length:Int))))] [0] (.k (.k .z)) (.k8 (.kkk .z)) ?_ (.k (.k .z)) (.k8 (.kkkk .z)) fun a w hI=>?_
  ·exact⟨Qk (v:=.bool (decide ((k2:Int)<((B.getD 0 []).length:Int)))) (.tp 10 rfl) (.tp 9 rfl) (fun _=>rfl) (.here 11 rfl),trivial⟩
  refine wp_seq ?_
  refine Xm hI 11 rfl (fun ht=>?_) (fun ht=>?_)
  ·have t2:=of_decide_eq_true ht
   refine wp_skip ?_
   refine Qf ?_
   refine wp_seq ?_
   refine wp_block ?_
   refine Ql hI [] [Ec 0 24 (Ye 1 false (Qd ((Xu B).getD k2 []))),Ec 1 25 (Qd ((Xu B).getD k2 [])),Ec 2 11 (Qd ((Xu B).getD k2 []))] [0,1,3] (.k (.k .z)) (.k8 (.kkkk .z)) ?_ (.k (.k .z)) (.k8 (.kkkd (.ddk .z))) fun a w hI=>?_
   ·exact⟨Qw (.tp 8 rfl) (.tp 10 rfl) Xb (.at_ 12 _ _ rfl (by rw[Int.toNat_natCast]; exact fun _ _ h=>h)),Q7 (.tp 12 rfl) X6 ((Y6 _)) (.here 13 rfl),Qc (.tp 13 rfl) (.here 14 rfl),trivial⟩
   have hTk:=Qah (A:=B) (show k2<(B.getD 0 []).length by omega)
   have hTl:((Xu B).getD k2 []).length=B.length:=by rw[hTk,Va]
   have q2:∀q,BdR j2 (((Xu B).getD k2 []).getD q 0):=fun q=>by rw[hTk]; exact colAt_bd hBb h2 k2 q
   have hAl:=hAr k (by omega)
   refine sem_ST hI [⟨26,26,some 0,some 5,(.grow k2 3),38,0,false,pv Xx,[]⟩,⟨31,31,some 5,none,(.grow (k2+1) 3),38,0,false,pv Xx,[]⟩] [] [Ec 0 26 (Qj 3 true k2 (fun i=>Qq ((K8 (A.getD k []) (Xu B)).getD i 0))),Ec 1 27 (Qd (A.getD k [])),Ec 2 28 (Qd ((Xu B).getD k2 [])),Ec 3 29 (Qq (Jy (A.getD k []) ((Xu B).getD k2 []) (A.getD k []).length)),Ec 4 30 (Qd ([Jy (A.getD k []) ((Xu B).getD k2 []) (A.getD k []).length])),Ec 5 31 (Qj 3 true (k2+1) (fun i=>Qq ((K8 (A.getD k []) (Xu B)).getD i 0)))] (.k (.u (some 0) [] .z)) (.k8 (.kkkk .z)) rfl [0,1,3,7,15,31,63] 6 (by kernel_rfl) ?_ (.k (.d (.d (.k .z)))) (.kkkk (.kkkd (.kkkd (.dddd (.dk .z))))) (fun a w hI=>hI) (⟨_,fun a w hI=>Vj hI [⟨9,9,some 0,none,(.grow (k2+1) 3),38,0,false,pv Xx,[]⟩] [Ec 0 9 (Qj 3 true (k2+1) (fun i=>Qq ((K8 (A.getD k []) (Xu B)).getD i 0)))] (.k (.u (some 0) [] .z)) (.k8 (.kkk .z)) (by kernel_rfl) (Uj 1 rfl rfl (by kernel_rfl) rfl rfl 2 rfl rfl rfl rfl (by kernel_rfl) (.tp 10 rfl) (.here 11 rfl)) (.k (.d (.k .z))) (.k8 (.kkdk .z)),
     rfl⟩) ?_
   ·exact⟨Qa1 1 rfl rfl (by kernel_rfl) rfl rfl 2 rfl rfl rfl rfl (by kernel_rfl) (.tp 7 rfl) (.here 12 rfl),Qa (.tp 6 rfl) (.here 13 rfl),Qa (.tp 11 rfl) (.here 14 rfl),Kk (fun _ _=>by kernel_rfl) (.tp 13 rfl) (.tp 14 rfl) (.here 15 rfl) (c_inner (j1:=j1) (j2:=j2) (by omega) (by omega) (by omega) (by omega) (hAb _) q2 (by rw[hAl]; exact hj)),Qbs (fs:=List.replicate 1 ⟨true,3,Qq 0⟩) (ps:=[(0,Qq (Jy (A.getD k []) ((Xu B).getD k2 []) (A.getD k []).length))]) (gs:=[Jy (A.getD k []) ((Xu B).getD k2 []) (A.getD k []).length].map fun q=>⟨true,3,Qq q⟩) Xo Jd rfl rfl rfl (fun w=>Yy w) rfl (show Qau _ _ _ _ _ _ from⟨⟨rfl,(.tp 15 rfl),_,rfl,Yb _⟩,trivial⟩) rfl (fun i=>Qq ([Jy (A.getD k []) ((Xu B).getD k2 []) (A.getD k []).length].getD i 0)) (rats_fd _) (.here 16 rfl),Qfb 2 rfl rfl (by kernel_rfl) rfl rfl 3 rfl rfl rfl rfl rfl (by kernel_rfl) (by kernel_rfl) (.tp 12 rfl) (.tp 16 rfl) Qd8 (fun h=>by cases h) (fun i _=>Yb _) (fun i _=>Yb _) (by omega) (.at_ 17 _ _ rfl (row_snoc (g:=fun j=>Qq ([Jy (A.getD k []) ((Xu B).getD k2 []) (A.getD k []).length].getD j 0)) (f:=fun i=>Qq ((K8 (A.getD k []) (Xu B)).getD i 0)) (f':=fun i=>Qq ((K8 (A.getD k []) (Xu B)).getD i 0)) (fun _ _ _ _ h=>h) (fun _ _ h=>by rw[Qel (by rw[Wv]; omega)]; exact h))),trivial⟩
   ·intro a w hI
    refine Yf ?_
    refine Qf ?_
    refine Y4 hI [] [Ec 0 32 (pI ((k2:Int)+(1:Int))),Ec 1 22 (pI ((k2:Int)+(1:Int)))] [0,1] (.k (.k .z)) (.k8 (.k (.t 1 (.k .z)))) ?_ (.k (.k .z)) (.k8 (.kdkd (.k .z))) fun a w hI=>?_
    ·exact⟨Qk (v:=.int .i64 (IntKind.i64.wrap ((k2:Int)+(1:Int)))) (.tp 9 rfl) (.const _) (fun _=>rfl) (.at_ 11 _ _ rfl (X8 (by omega))),Qa (.tp 11 rfl) (.here 12 rfl),trivial⟩
    refine Qf ?_
    exact⟨k2+1,⟨(show k2+1≤(B.getD 0 []).length by omega),(hI.conv ⟨⟨0,_,_,rfl,⟨rfl,rfl,rfl⟩,rfl,fun _=>fun _ _ h=>h⟩,⟨1,_,_,rfl,⟨rfl,rfl,rfl⟩,rfl,fun _=>fun _ _ h=>h⟩,trivial⟩ ⟨Qp 0 rfl,Qp 1 rfl,Qp 2 rfl,Qp 3 rfl,Qp 4 rfl,Qp 5 rfl,Qp 6 rfl,Qp 9 rfl,Qp 7 rfl,Qp 8 rfl,⟨rfl,rfl,10,_,rfl,(Xc (by omega))⟩,trivial⟩)⟩,(show(B.getD 0 []).length-(k2+1)<(B.getD 0 []).length-k2 by omega)⟩
  ·have t3:=of_decide_eq_false ht
   refine wp_exit ?_
   refine Qy ?_
   refine Qy ?_
   refine Xv ?_
   refine Qf ?_
   refine sem_ST hI [⟨33,33,some 0,some 3,(.grow k 1),39,0,false,pv Xx,[]⟩,⟨34,34,some 1,none,(.grow k2 3),38,0,false,pv Xx,[]⟩,⟨36,36,some 3,none,(.grow (k+1) 1),39,0,false,pv Xx,[]⟩] [] [Ec 0 33 (Qj 1 false k (fun i=>Qd ((Ko A (Xu B)).getD i []))),Ec 1 34 (Qj 3 true k2 (fun i=>Qq ((K8 (A.getD k []) (Xu B)).getD i 0))),Ec 2 35 (Qj 1 false 1 (fun _=>Qj 3 true k2 (fun i=>Qq ((K8 (A.getD k []) (Xu B)).getD i 0)))),Ec 3 36 (Qj 1 false (k+1) (fun i=>Qd ((Ko A (Xu B)).getD i [])))] (.u (some 0) [] (.u (some 1) [] .z)) (.k8 (.kkkk .z)) rfl [0,1,3,7,15] 4 (by kernel_rfl) ?_ (.d (.d (.d (.k (.k .z))))) (.kkdk (.kkdd (.dddd (.dddk .z)))) (fun a w hI=>hI) (⟨_,fun a w hI=>Vj hI [⟨6,6,some 0,none,(.grow (k+1) 1),39,0,false,pv Xx,[]⟩] [Ec 0 6 (Qj 1 false (k+1) (fun i=>Qd ((Ko A (Xu B)).getD i [])))] (.k (.u (some 0) [] .z)) (.kkkk (.kk .z)) (by kernel_rfl) (Uj 1 rfl rfl (by kernel_rfl) rfl rfl 2 rfl rfl rfl rfl (by kernel_rfl) (.tp 5 rfl) (.here 6 rfl)) (.k (.d (.k .z))) (.kkkk (.kdk .z)),
     rfl⟩) ?_
   ·exact⟨Qa1 0 rfl rfl (by kernel_rfl) rfl rfl 2 rfl rfl rfl rfl (by kernel_rfl) (.tp 2 rfl) (.here 12 rfl),Qa1 1 rfl rfl (by kernel_rfl) rfl rfl 3 rfl rfl rfl rfl (by kernel_rfl) (.tp 7 rfl) (.here 13 rfl),Qd3 (agg:=false) Xb zv_Ratios rfl rfl (by decide) (.tp 13 rfl) Wy (.here 14 rfl),Qfb 2 rfl rfl (by kernel_rfl) rfl rfl 4 rfl rfl rfl rfl rfl (by kernel_rfl) (by kernel_rfl) (.tp 12 rfl) (.tp 14 rfl) app_Rows (fun _=>rfl) (fun i _=>Y6 _) (fun i _=>Wy) (by omega) (.at_ 15 _ _ rfl (row_snoc1 (f':=fun i=>Qd ((Ko A (Xu B)).getD i [])) (f:=fun i=>Qd ((Ko A (Xu B)).getD i [])) (fun _ _ _ _ h=>h) (fun w v h=>by rw[Qcv (by omega)]; exact Qbl (f':=fun i=>Qq ((K8 (A.getD k []) (Xu B)).getD i 0)) (by rw[Qb1,Wv]; omega) (fun _ _ _ _ h=>h) w v h))),trivial⟩
   ·intro a w hI
    refine Yf ?_
    refine Qf ?_
    refine Y4 hI [] [Ec 0 37 (pI ((k:Int)+(1:Int))),Ec 1 16 (pI ((k:Int)+(1:Int)))] [0,1] (.k (.k .z)) (.kkkk (.t 1 (.k .z))) ?_ (.k (.k .z)) (.kkkk (.dkdk .z)) fun a w hI=>?_
    ·exact⟨Qk (v:=.int .i64 (IntKind.i64.wrap ((k:Int)+(1:Int)))) (.tp 4 rfl) (.const _) (fun _=>rfl) (.at_ 6 _ _ rfl (X8 (by omega))),Qa (.tp 6 rfl) (.here 7 rfl),trivial⟩
    refine Qf ?_
    exact⟨k+1,⟨(show k+1≤A.length by omega),(hI.conv ⟨⟨1,_,_,rfl,⟨rfl,rfl,rfl⟩,rfl,fun _=>fun _ _ h=>h⟩,trivial⟩ ⟨Qp 0 rfl,Qp 1 rfl,Qp 4 rfl,Qp 2 rfl,Qp 3 rfl,⟨rfl,rfl,5,_,rfl,(Xc (by omega))⟩,trivial⟩)⟩,(show A.length-(k+1)<A.length-k by omega)⟩
 ·have t4:=of_decide_eq_false ht
  refine wp_exit ?_
  refine Qy ?_
  refine Qy ?_
  refine Xv ?_
  refine Qf ?_
  refine Ql hI [⟨38,38,some 0,some 1,(.grow k 1),39,0,false,pv Xx,[]⟩,⟨4,4,some 1,none,(.grow k 1),39,0,false,pv Xx,[]⟩] [Ec 0 38 (Qj 1 false k (fun i=>Qd ((Ko A (Xu B)).getD i []))),Ec 1 4 (Qj 1 false k (fun i=>Qd ((Ko A (Xu B)).getD i [])))] [0,1] (.u (some 0) [] .z) (.t 1 (.kkkk (.kk .z))) ?_ (.d (.d (.k .z))) (.d8 (.k .z)) fun a w hI=>?_
  ·exact⟨Qa1 0 rfl rfl (by kernel_rfl) rfl rfl 1 rfl rfl rfl rfl (by kernel_rfl) (.tp 2 rfl) (.here 7 rfl),Uj 1 rfl rfl (by kernel_rfl) rfl rfl 2 rfl rfl rfl rfl (by kernel_rfl) (.tp 7 rfl) (.here 8 rfl),trivial⟩
  refine wp_ret ?_
  exact Zu hI rfl (.imp (.tmp 0 rfl) (Qbl (by omega) fun i hi w v h=>h))
end Wx

namespace Wx
open Go Go.RowKit Go.Proofs
set_option linter.unusedVariables false

end Wx
