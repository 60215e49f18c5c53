import Derived.Test.YtpiniclogfefjaaJSylvester30
import Derived.Test.YtpiniclogfefjaaJSylvester41
import Derived.Test.YtpiniclogfefjaaCSylvesterDet
import Derived.Test.YtpiniclogfefjaaJSylvester36
namespace Wx
set_option maxRecDepth 100000
open Go Go.RowKit Go.Proofs
set_option linter.unusedVariables false

theorem Qdy {A B:List (List Rat)} {j1 j2:Nat} (hR:Right A) (hQ:Right B) (hf:B.length=(A.getD 0 []).length) (hAb:BdX j1 A) (hBb:BdX j2 B) (h2:1≤j2) (hj:Y4 (j1+j2) B.length≤100000000):∀(M:Nat→Nat→Prop) (w:World) (v0 v1:Value),Mid M w→Box M (fun w=>(Qg 1 false A.length (fun i=>Qd (A.getD i []))) w v0) w→Box M (fun w=>(Qg 1 false B.length (fun i=>Qd (B.getD i []))) w v1) w→Calls Try.prog 16 #[v0,v1] w (RetB M (Zd (Qg 1 false A.length fun i=>Qd ((Xq A (Qp B)).getD i [])) (pI 0)) w):=by
 intro M w0 v0 v1 hM hv0 hv1
 have h0:=hR.rows
 have h0':=hQ.rows
 have h1:=hR.cols
 have h1':=hQ.cols
 refine Jz (N:=28) Try.func16 rfl rfl rfl hM (show EntsA M w0 [v0,v1] [⟨none,none,0,Qg 1 false A.length (fun i=>Qd (A.getD i []))⟩,⟨none,none,1,Qg 1 false B.length (fun i=>Qd (B.getD i []))⟩]from⟨⟨rfl,_,rfl,hv0⟩,⟨rfl,_,rfl,hv1⟩,trivial⟩) fun a hI=>?_
 refine Qh hI [] [] [⟨some 0,none,4,Qe ((Value.slice none 0 0))⟩,⟨some 1,none,5,pI 0⟩] .z (.kk .z) rfl [0,1] (by kernel_rfl) ?_ .z (.kkkk .z) fun a w hI=>?_
 ·exact⟨Qc (.const _) (.here 2 rfl),Qc (.const _) (.here 3 rfl),trivial⟩
 refine wp_seq ?_
 refine Qh hI [] [] [⟨some 0,none,8,Qg 1 false A.length (fun i=>Qd (A.getD i []))⟩,⟨some 1,none,9,pI 0⟩,⟨some 2,none,6,pI 0⟩] .z (.kkkk .z) rfl [0,1,3] (by kernel_rfl) ?_ .z (.kkkk (.ddk .z)) fun a w hI=>?_
 ·exact⟨Qa (.tmp 0 rfl rfl) (.here 4 rfl),Zn (fun _ _=>by kernel_rfl) (.tmp 4 rfl rfl) (.here 5 rfl) (Qa3 hR),Qc (.tmp 5 rfl rfl) (.here 6 rfl),trivial⟩
 refine Qh hI [] [] [⟨some 0,none,10,pI 0⟩,⟨some 1,none,11,pB false⟩] .z (.kkkk (.k .z)) rfl [0,1] (by kernel_rfl) ?_ .z (.kkkk (.kdk .z)) fun a w hI=>?_
 ·exact⟨Qa (.tmp 4 rfl rfl) (.here 5 rfl),Qo (v:=.bool (false)) (.tmp 5 rfl rfl) (.const _) (fun _=>rfl) (.here 6 rfl),trivial⟩
 refine Zt hI 5 rfl ?_
 refine wp_skip ?_
 refine Qi ?_
 refine wp_seq ?_
 refine Qh hI [] [] [⟨some 0,none,13,Qg 1 false B.length (fun i=>Qd (B.getD i []))⟩,⟨some 1,none,14,pI 0⟩,⟨some 2,none,7,pI 0⟩] .z (.kkkk (.kk .z)) rfl [0,1,3] (by kernel_rfl) ?_ .z (.kkkk (.dddd (.k .z))) fun a w hI=>?_
 ·exact⟨Qa (.tmp 1 rfl rfl) (.here 6 rfl),Zn (fun _ _=>by kernel_rfl) (.tmp 6 rfl rfl) (.here 7 rfl) (Qa3 hQ),Qc (.tmp 7 rfl rfl) (.here 8 rfl),trivial⟩
 refine Qh hI [] [] [⟨some 0,none,15,pI 0⟩,⟨some 1,none,16,pB false⟩] .z (.kkkk (.k .z)) rfl [0,1] (by kernel_rfl) ?_ .z (.kkkk (.kdk .z)) fun a w hI=>?_
 ·exact⟨Qa (.tmp 4 rfl rfl) (.here 5 rfl),Qo (v:=.bool (false)) (.tmp 5 rfl rfl) (.const _) (fun _=>rfl) (.here 6 rfl),trivial⟩
 refine Zt hI 5 rfl ?_
 refine wp_skip ?_
 refine Qi ?_
 refine wp_seq ?_
 refine Qh hI [] [] [⟨some 0,none,18,Qg 1 false B.length (fun i=>Qd (B.getD i []))⟩,⟨some 1,none,19,pI (B.length:Int)⟩,⟨some 2,none,20,Qg 1 false A.length (fun i=>Qd (A.getD i []))⟩,⟨some 3,none,21,Zc 1 false (Qd (A.getD 0 []))⟩,⟨some 4,none,22,Qd (A.getD 0 [])⟩,⟨some 5,none,23,pI ((A.getD 0 []).length:Int)⟩,⟨some 6,none,24,pB false⟩] .z (.kkkk (.kk .z)) rfl [0,1,3,7,15,31,63] (by kernel_rfl) ?_ .z (.kkkk (.d8 (.k .z))) fun a w hI=>?_
 ·exact⟨Qa (.tmp 1 rfl rfl) (.here 6 rfl),Yy (.tmp 6 rfl rfl) (Qx).under (.here 7 rfl),Qa (.tmp 0 rfl rfl) (.here 8 rfl),Xi (.tmp 8 rfl rfl) (.const _) Qx (by omega) (by omega) (by kernel_rfl) (.here 9 rfl),X6 (.tmp 9 rfl rfl) Q1 ((Zf _)) (.here 10 rfl),Yy (.tmp 10 rfl rfl) (Qy).under (.here 11 rfl),Qo (v:=.bool (((B.length:Int) != ((A.getD 0 []).length:Int)))) (.tmp 7 rfl rfl) (.tmp 11 rfl rfl) (fun _=>rfl) (.at_ 12 _ _ rfl (Zy ((by rw[hf]; exact bne_self_eq_false _)))),trivial⟩
 refine Zt hI 4 rfl ?_
 refine wp_skip ?_
 refine Qi ?_
 refine Qh hI [] [] [⟨some 0,none,25,Qg 1 false A.length (fun i=>Qd (A.getD i []))⟩,⟨some 1,none,26,Qg 1 false B.length (fun i=>Qd (B.getD i []))⟩,⟨some 2,none,27,Qg 1 false A.length (fun i=>Qd ((Xq A (Qp B)).getD i []))⟩,⟨some 3,none,4,Qg 1 false A.length (fun i=>Qd ((Xq A (Qp B)).getD i []))⟩,⟨some 4,none,5,pI 0⟩] .z (.kk (.t 3 (.t 4 (.k .z)))) rfl [0,1,3,7,15] (by kernel_rfl) ?_ .z (.d8 (.kk .z)) fun a w hI=>?_
 ·exact⟨Qa (.tmp 0 rfl rfl) (.here 5 rfl),Qa (.tmp 1 rfl rfl) (.here 6 rfl),W9 (fun _ _=>by kernel_rfl) (.tmp 5 rfl rfl) (.tmp 6 rfl rfl) (.here 7 rfl) (c_product (j1:=j1) (j2:=j2) (by omega) ⟨by omega,by omega⟩ (fun i hi=>by rw[hR.rect i hi,hf]) hQ.rect (by omega) hAb hBb h2 hj),Qc (.tmp 7 rfl rfl) (.here 8 rfl),Qc (.const _) (.here 9 rfl),trivial⟩
 refine wp_ret ?_
 exact fin2 hI rfl (.tmp 0 rfl) (.tmp 1 rfl)
end Wx

namespace Wx
set_option maxRecDepth 100000
open Go Go.RowKit Go.Proofs
set_option linter.unusedVariables false

theorem Qe6 {A:List (List Rat)} {j:Nat} (hA:Right A) (hb:BdX j A):∀(M:Nat→Nat→Prop) (w:World) (v0:Value),Mid M w→Box M (fun w=>(Qg 1 false A.length (fun i=>Qd (A.getD i []))) w v0) w→Calls Try.prog 26 #[v0] w (RetB M (Zd (Qg 1 false (A.getD 0 []).length (fun i=>Qd ((Qp A).getD i []))) (pI 0)) w):=by
 intro M w0 v0 hM hv0
 have h0:=hA.rows
 have h0':=hA.cols
 refine Zq (N:=12) Try.func26 rfl rfl rfl hM (show EntsA M w0 [v0] [⟨none,none,0,Qg 1 false A.length (fun i=>Qd (A.getD i []))⟩]from⟨⟨rfl,_,rfl,hv0⟩,trivial⟩) fun a hI=>?_
 refine Qh hI [] [] [⟨some 0,none,2,Qe ((Value.slice none 0 0))⟩,⟨some 1,none,3,pI 0⟩] .z (.k .z) rfl [0,1] (by kernel_rfl) ?_ .z (.kkk .z) fun a w hI=>?_
 ·exact⟨Qc (.const _) (.here 1 rfl),Qc (.const _) (.here 2 rfl),trivial⟩
 refine wp_seq ?_
 refine Qh hI [] [] [⟨some 0,none,5,Qg 1 false A.length (fun i=>Qd (A.getD i []))⟩,⟨some 1,none,6,pI 0⟩,⟨some 2,none,4,pI 0⟩] .z (.kkk .z) rfl [0,1,3] (by kernel_rfl) ?_ .z (.kkkd (.dk .z)) fun a w hI=>?_
 ·exact⟨Qa (.tmp 0 rfl rfl) (.here 3 rfl),Zn (fun _ _=>by kernel_rfl) (.tmp 3 rfl rfl) (.here 4 rfl) (Qa3 hA),Qc (.tmp 4 rfl rfl) (.here 5 rfl),trivial⟩
 refine Qh hI [] [] [⟨some 0,none,7,pI 0⟩,⟨some 1,none,8,pB false⟩] .z (.kkkk .z) rfl [0,1] (by kernel_rfl) ?_ .z (.kkkk (.dk .z)) fun a w hI=>?_
 ·exact⟨Qa (.tmp 3 rfl rfl) (.here 4 rfl),Qo (v:=.bool (false)) (.tmp 4 rfl rfl) (.const _) (fun _=>rfl) (.here 5 rfl),trivial⟩
 refine Zt hI 4 rfl ?_
 refine wp_skip ?_
 refine Qi ?_
 refine Qh hI [] [] [⟨some 0,none,10,Qg 1 false A.length (fun i=>Qd (A.getD i []))⟩,⟨some 1,none,11,Qg 1 false (A.getD 0 []).length (fun i=>Qd ((Qp A).getD i []))⟩,⟨some 2,none,2,Qg 1 false (A.getD 0 []).length (fun i=>Qd ((Qp A).getD i []))⟩,⟨some 3,none,3,pI 0⟩] .z (.k (.t 2 (.t 3 (.kk .z)))) rfl [0,1,3,7] (by kernel_rfl) ?_ .z (.dddd (.dddk (.k .z))) fun a w hI=>?_
 ·exact⟨Qa (.tmp 0 rfl rfl) (.here 5 rfl),Zn (fun _ _=>by kernel_rfl) (.tmp 5 rfl rfl) (.here 6 rfl) (c_turned (j:=j) hA.rows.1 (by omega) (by omega) hA.rect hb),Qc (.tmp 6 rfl rfl) (.here 7 rfl),Qc (.const _) (.here 8 rfl),trivial⟩
 refine wp_ret ?_
 exact fin2 hI rfl (.tmp 0 rfl) (.tmp 1 rfl)
theorem c_Quadratic_ok {A:List (List Rat)} {x:List Rat} {j jx:Nat} (hR:SqOk A) (hxl:x.length=A.length) (hb:BdX j A) (hx:∀k,BdR jx (x.getD k 0)) (hq:Y4 (j+jx) A.length≤100000000∧jx+Y4 (j+jx) A.length≤100000000∧∀k,k<A.length→(1+k*(A.length*(jx+(j+jx)+1)))+(jx+Y4 (j+jx) A.length)+(1+k*(A.length*(jx+(j+jx)+1)))+(jx+Y4 (j+jx) A.length)+1≤100000000):∀(M:Nat→Nat→Prop) (w:World) (v0 v1:Value),Mid M w→Box M (fun w=>(Qg 1 false A.length (fun i=>Qd (A.getD i []))) w v0) w→Box M (fun w=>(Qd x) w v1) w→Calls Try.prog 25 #[v0,v1] w (RetB M (Zd (Qk (Yi A x A.length A.length)) (pI 0)) w):=by
 intro M w0 v0 v1 hM hv0 hv1
 have h0:=hR.1.rows
 have hr:=hR.rect
 refine Zq (N:=41) Try.func25 rfl rfl rfl hM (show EntsA M w0 [v0,v1] [⟨none,none,0,Qg 1 false A.length (fun i=>Qd (A.getD i []))⟩,⟨none,none,1,Qd x⟩]from⟨⟨rfl,_,rfl,hv0⟩,⟨rfl,_,rfl,hv1⟩,trivial⟩) fun a hI=>?_
 refine Qh hI [⟨4,4,some 0,none,.ptr,32,3,true,pv (Qk 0),[]⟩] [] [⟨some 1,none,5,pI 0⟩] .z (.kk .z) rfl [0,1] (by kernel_rfl) ?_ (.k .z) (.kkk .z) fun a w hI=>?_
 ·exact⟨J4 0 rfl rfl (by kernel_rfl) (by kernel_rfl) rfl rfl rfl Jj rfl rfl (by simp[Yr]) rfl (fun w=>Yl w),Qc (.const _) (.here 2 rfl),trivial⟩
 refine wp_seq ?_
 refine Qh hI [] [] [⟨some 0,none,10,Qg 1 false A.length (fun i=>Qd (A.getD i []))⟩,⟨some 1,none,11,pI 0⟩,⟨some 2,none,6,pI 0⟩] (.k .z) (.kkk .z) rfl [0,1,3] (by kernel_rfl) ?_ (.k .z) (.kkkd (.dk .z)) fun a w hI=>?_
 ·exact⟨Qa (.tmp 0 rfl rfl) (.here 3 rfl),Zn (fun _ _=>by kernel_rfl) (.tmp 3 rfl rfl) (.here 4 rfl) (Qch hR.1 hR.2.symm),Qc (.tmp 4 rfl rfl) (.here 5 rfl),trivial⟩
 refine Qh hI [] [] [⟨some 0,none,12,pI 0⟩,⟨some 1,none,13,pB false⟩] (.k .z) (.kkkk .z) rfl [0,1] (by kernel_rfl) ?_ (.k .z) (.kkkk (.dk .z)) fun a w hI=>?_
 ·exact⟨Qa (.tmp 3 rfl rfl) (.here 4 rfl),Qo (v:=.bool (false)) (.tmp 4 rfl rfl) (.const _) (fun _=>rfl) (.here 5 rfl),trivial⟩
 refine Zt hI 4 rfl ?_
 refine wp_skip ?_
 refine Qi ?_
 refine wp_seq ?_
 refine Qh hI [] [] [⟨some 0,none,16,Qd x⟩,⟨some 1,none,17,pI (x.length:Int)⟩,⟨some 2,none,18,Qg 1 false A.length (fun i=>Qd (A.getD i []))⟩,⟨some 3,none,19,pI (A.length:Int)⟩,⟨some 4,none,20,pB false⟩] (.k .z) (.kkkk (.k .z)) rfl [0,1,3,7,15] (by kernel_rfl) ?_ (.k .z) (.kkkd (.dddd (.dk .z))) fun a w hI=>?_
 ·exact⟨Qa (.tmp 1 rfl rfl) (.here 5 rfl),Yy (.tmp 5 rfl rfl) (Qy).under (.here 6 rfl),Qa (.tmp 0 rfl rfl) (.here 7 rfl),Yy (.tmp 7 rfl rfl) (Qx).under (.here 8 rfl),Qo (v:=.bool (((x.length:Int) != (A.length:Int)))) (.tmp 6 rfl rfl) (.tmp 8 rfl rfl) (fun _=>rfl) (.at_ 9 _ _ rfl (Zy ((by rw[hxl]; exact bne_self_eq_false _)))),trivial⟩
 refine Zt hI 3 rfl ?_
 refine wp_skip ?_
 refine Qi ?_
 refine Qh hI [⟨7,7,some 0,none,.ptr,32,3,true,pv (Qk 0),[]⟩] [] [] (.k .z) (.kkkk .z) rfl [0] (by kernel_rfl) ?_ (.k (.k .z)) (.kkkd .z) fun a w hI=>?_
 ·exact⟨J4 1 rfl rfl (by kernel_rfl) (by kernel_rfl) rfl rfl rfl Jj rfl rfl (by simp[Yr]) rfl (fun w=>Yl w),trivial⟩
 refine wp_seq ?_
 refine Qh hI [] [] [⟨some 0,none,22,Qg 1 false A.length (fun i=>Qd (A.getD i []))⟩,⟨some 1,none,23,pI (A.length:Int)⟩,⟨some 2,none,24,pI 0⟩] (.k (.k .z)) (.kkk .z) rfl [0,1,3] (by kernel_rfl) ?_ (.k (.k .z)) (.dkkk (.kk .z)) fun a w hI=>?_
 ·exact⟨Qa (.tmp 0 rfl rfl) (.here 3 rfl),Yy (.tmp 3 rfl rfl) (Qx).under (.here 4 rfl),Qa (.const _) (.here 5 rfl),trivial⟩
 refine wp_block ?_
 refine Xn (fun(k:Nat) a w=>(k≤A.length)∧Inv ⟨41,w0,M,fun _=>False⟩ [⟨4,4,none,none,.ptr,32,3,true,pv (Qk 0),[]⟩,⟨7,7,none,none,.ptr,32,3,true,pv (Qk (Yi A x A.length k)),[]⟩] [] [⟨none,none,1,Qd x⟩,⟨none,none,5,pI 0⟩,⟨none,none,22,Qg 1 false A.length (fun i=>Qd (A.getD i []))⟩,⟨none,none,23,pI (A.length:Int)⟩,⟨none,none,24,pI (k:Int)⟩] Qf a w) (fun(k:Nat)=>A.length-k) (0) ⟨Nat.zero_le _,(hI.conv ⟨⟨0,_,_,rfl,⟨rfl,rfl,rfl⟩,rfl,fun _=>fun _ _ h=>h⟩,⟨1,_,_,rfl,⟨rfl,rfl,rfl⟩,rfl,fun _=>(fun _ _ q=>q)⟩,trivial⟩ ⟨⟨rfl,rfl,0,_,rfl,fun _ _ h=>h⟩,⟨rfl,rfl,1,_,rfl,fun _ _ h=>h⟩,⟨rfl,rfl,2,_,rfl,fun _ _ h=>h⟩,⟨rfl,rfl,3,_,rfl,fun _ _ h=>h⟩,⟨rfl,rfl,4,_,rfl,(Xa (by omega))⟩,trivial⟩)⟩ ?_
 intro k a w hIk
 obtain⟨hp,hI⟩:=hIk
 refine Qh hI [] [] [⟨some 0,none,25,pB (decide ((k:Int)<(A.length:Int)))⟩] (.k (.k .z)) (.kkkk (.k .z)) rfl [0] (by kernel_rfl) ?_ (.k (.k .z)) (.kkkk (.kk .z)) fun a w hI=>?_
 ·exact⟨Qo (v:=.bool (decide ((k:Int)<(A.length:Int)))) (.tmp 4 rfl rfl) (.tmp 3 rfl rfl) (fun _=>rfl) (.here 5 rfl),trivial⟩
 refine wp_seq ?_
 refine Xd hI 5 rfl (fun ht=>?_) (fun ht=>?_)
 ·have t1:=of_decide_eq_true ht
  refine wp_skip ?_
  refine Qi ?_
  refine wp_seq ?_
  refine wp_block ?_
  refine Qh hI [] [] [⟨some 0,none,26,pI (k:Int)⟩,⟨some 1,none,27,Zc 1 false (Qd (A.getD k []))⟩,⟨some 2,none,28,Qd (A.getD k [])⟩,⟨some 3,none,8,pI (k:Int)⟩,⟨some 4,none,9,Qd (A.getD k [])⟩] (.k (.k .z)) (.kkkk (.kk .z)) rfl [0,1,3,7,15] (by kernel_rfl) ?_ (.k (.k .z)) (.kkkk (.kddd (.dkk .z))) fun a w hI=>?_
  ·exact⟨Qa (.tmp 4 rfl rfl) (.here 6 rfl),Xi (.tmp 2 rfl rfl) (.tmp 4 rfl rfl) Qx (by omega) (by omega) (by kernel_rfl) (.at_ 7 _ _ rfl (by rw[Int.toNat_natCast]; exact fun _ _ h=>h)),X6 (.tmp 7 rfl rfl) Q1 ((Zf _)) (.here 8 rfl),Qc (.tmp 6 rfl rfl) (.here 9 rfl),Qc (.tmp 8 rfl rfl) (.here 10 rfl),trivial⟩
  have hrk:=hr k (by omega)
  refine sem_D hI [] [] [⟨some 0,none,29,Qk (Yi A x A.length k)⟩,⟨some 1,none,30,Qd x⟩,⟨some 2,none,31,pI (k:Int)⟩,⟨some 3,none,32,Zc 3 true (Qk (x.getD k 0))⟩,⟨some 4,none,33,Qk (x.getD k 0)⟩,⟨some 5,none,34,Qd (A.getD k [])⟩,⟨some 6,none,35,Qd x⟩,⟨some 7,none,36,Qk (Je (A.getD k []) x A.length)⟩,⟨some 8,none,37,Qk ((x.getD k 0)*(Je (A.getD k []) x A.length))⟩,⟨some 9,none,38,Qk ((Yi A x A.length k)+((x.getD k 0)*(Je (A.getD k []) x A.length)))⟩] (.k (.u none [(10,pv (Qk ((Yi A x A.length k)+((x.getD k 0)*(Je (A.getD k []) x A.length)))))] .z)) (.kkkk (.kkk .z)) rfl [0,0,0,6,14,0,0,96,254,511,1023] (by kernel_rfl) ?_ (.k (.s .o .z)) (.kkkk (.kddd (.d8 (.d .z)))) fun a w hI=>?_
  ·exact⟨Yg 1 rfl rfl rfl rfl (by kernel_rfl) Qr rfl (.here 7 rfl),Qa (.tmp 0 rfl rfl) (.here 8 rfl),Qa (.tmp 5 rfl rfl) (.here 9 rfl),Xi (.tmp 8 rfl rfl) (.tmp 9 rfl rfl) Qy (by omega) (by omega) (by kernel_rfl) (.at_ 10 _ _ rfl (by rw[Int.toNat_natCast]; exact fun _ _ h=>h)),X6 (.tmp 10 rfl rfl) Qr (Xb _) (.here 11 rfl),Qa (.tmp 6 rfl rfl) (.here 12 rfl),Qa (.tmp 0 rfl rfl) (.here 13 rfl),W9 (fun _ _=>by kernel_rfl) (.tmp 12 rfl rfl) (.tmp 13 rfl rfl) (.here 14 rfl) ((by have h:=c_inner (L1:=A.getD k []) (L2:=x) (j1:=j) (j2:=jx) (by omega) (by omega) (by omega) (by omega) (hb k) hx (by rw[hrk]; exact hq.1); rw[hrk]at h; exact h)),Y6 (fun _ _=>by kernel_rfl) (Xr _) (.tmp 11 rfl rfl) (.tmp 14 rfl rfl) (.here 15 rfl) (c_mul (hx k) (bd_dot (hb k) hx A.length) hq.2.1),Y6 (fun _ _=>by kernel_rfl) (Xr _) (.tmp 7 rfl rfl) (.tmp 15 rfl rfl) (.here 16 rfl) (c_add (bd_qSum hb hx k) ((hx k).mul (bd_dot (hb k) hx A.length)) (hq.2.2 k (by omega))),Zo 1 rfl rfl rfl rfl 0 rfl (by kernel_rfl) (by kernel_rfl) Qr (.tmp 16 rfl rfl) (Xb _),trivial⟩
  refine Xw ?_
  refine Qi ?_
  refine Yx hI [] [] [⟨some 0,none,39,pI ((k:Int)+(1:Int))⟩,⟨some 1,none,24,pI ((k:Int)+(1:Int))⟩] (.k (.k .z)) (.kkkk (.t 1 .z)) rfl [0,1] (by kernel_rfl) ?_ (.k (.k .z)) (.kkkk (.ddk .z)) fun a w hI=>?_
  ·exact⟨Qo (v:=.int .i64 (IntKind.i64.wrap ((k:Int)+(1:Int)))) (.tmp 4 rfl rfl) (.const _) (fun _=>rfl) (.at_ 5 _ _ rfl (Xe (by omega))),Qa (.tmp 5 rfl rfl) (.here 6 rfl),trivial⟩
  refine Qi ?_
  exact⟨k+1,⟨(show k+1≤A.length by omega),(hI.conv ⟨⟨0,_,_,rfl,⟨rfl,rfl,rfl⟩,rfl,fun _=>fun _ _ h=>h⟩,⟨1,_,_,rfl,⟨rfl,rfl,rfl⟩,rfl,fun _=>(fun _ _ q=>q)⟩,trivial⟩ ⟨⟨rfl,rfl,0,_,rfl,fun _ _ h=>h⟩,⟨rfl,rfl,1,_,rfl,fun _ _ h=>h⟩,⟨rfl,rfl,2,_,rfl,fun _ _ h=>h⟩,⟨rfl,rfl,3,_,rfl,fun _ _ h=>h⟩,⟨rfl,rfl,4,_,rfl,(Xa (by omega))⟩,trivial⟩)⟩,(show A.length-(k+1)<A.length-k by omega)⟩
 ·have t2:=of_decide_eq_false ht
  refine wp_exit ?_
  refine Qz ?_
  refine Qz ?_
  refine Xl ?_
  refine Qi ?_
  refine Qh hI [] [] [⟨some 0,none,40,Qk (Yi A x A.length k)⟩,⟨some 2,none,5,pI 0⟩] (.u none [(1,pv (Qk (Yi A x A.length k)))] (.k .z)) (.k (.t 2 (.kkkk .z))) rfl [0,1,3] (by kernel_rfl) ?_ (.s .o (.k .z)) (.dddd (.dddk .z)) fun a w hI=>?_
  ·exact⟨Yg 1 rfl rfl rfl rfl (by kernel_rfl) Qr rfl (.here 6 rfl),Zo 0 rfl rfl rfl rfl 0 rfl (by kernel_rfl) (by kernel_rfl) Qr (.tmp 6 rfl rfl) (Xb _),Qc (.const _) (.here 7 rfl),trivial⟩
  refine wp_ret ?_
  exact fin2 hI rfl (.imp (.cell 0 rfl rfl rfl rfl Qr rfl) (fun w v h=>by rw[show k=A.length by omega]at h; exact h)) (.tmp 0 rfl)
end Wx

namespace Wx
open Go Go.RowKit

theorem ret_read {P:Program} {f:FuncId} {vs:Array Value} {w:World} {M:Nat→Nat→Prop} {Λ:Type} {C:Λ→Prop} {hd:Λ→Value} {H:Λ→List Bk} {p:Qj} (hM:Mid M w) (h:Calls P f vs w (RetO C hd H w)) (hF:∀l,C l→∀B w,HpOk B w (H l)→p w (hd l)):Calls P f vs w (RetB M p w):=by
 refine h.mono ?_
 rintro e w' ⟨l,B,h1,rfl,h2,h3,h4⟩
 have hmid:Mid (Jg M B) w':=by
  rintro k o (hk|hk)
  ·obtain⟨h5,h6⟩:=hM k o hk
   refine⟨Nat.lt_of_lt_of_le h5 h2.size,fun u hu=>h6 u ?_⟩
   rw[World.cell?_of_block (w:=w) (a:=⟨k,o,none⟩) (h2.block k h5)]at hu
   exact hu
  ·exact⟨(h4.noU hk).1,fun u hu=>(h4.noU hk).2 o u hu⟩
 refine⟨hd l,rfl,((h4.box hmid).imp fun w h=>hF l h1 _ w h).sub fun k o _ hk=>⟨.inl hk,fun hb=>?_⟩,h2⟩
 have:=(hM k o hk).1
 have:=h3 k hb
 omega
end Wx
