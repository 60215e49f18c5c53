import Derived.Test.YtpiniclogfefjaaCSylvesterMatrix
namespace Wx
set_option maxRecDepth 100000
open Go Go.RowKit Go.Proofs
set_option linter.unusedVariables false

theorem c_clone {l:List Rat} (hn:0<l.length) (hm:l.length≤1000000):∀(M:Nat→Nat→Prop) (w:World) (v0:Value),Mid M w→Box M (fun w=>(Qd l) w v0) w→Calls Try.prog 69 #[v0] w (RetRow l w):=by
 intro M w0 v0 hM hv0
 refine Jz (N:=8) Try.func69 rfl rfl rfl hM (show EntsA M w0 [v0] [⟨none,none,0,Qd l⟩]from⟨⟨rfl,_,rfl,hv0⟩,trivial⟩) fun a hI=>?_
 refine Qh hI [] [] [⟨some 0,none,2,Qe ((Value.slice none 0 0))⟩] .z (.k .z) rfl [0] (by kernel_rfl) ?_ .z (.kk .z) fun a w hI=>?_
 ·exact⟨Qc (.const _) (.here 1 rfl),trivial⟩
 refine wp_seq ?_
 refine Qh hI [] [] [⟨some 0,none,3,Qd l⟩,⟨some 1,none,4,pB false⟩] .z (.kk .z) rfl [0,1] (by kernel_rfl) ?_ .z (.kkdk .z) fun a w hI=>?_
 ·exact⟨Qa (.tmp 0 rfl rfl) (.here 2 rfl),op_eqlNil (.tmp 2 rfl rfl) hn (Qy).under (.here 3 rfl),trivial⟩
 refine Zt hI 2 rfl ?_
 refine wp_skip ?_
 refine Qi ?_
 refine Qh hI [⟨7,7,some 2,some 3,(.grow (l.length) 3),32,0,false,pv Zb,[]⟩,⟨2,2,some 3,none,(.grow (l.length) 3),32,0,false,pv Zb,[]⟩] [] [⟨some 0,none,5,pEmpty⟩,⟨some 1,none,6,Qd l⟩,⟨some 2,none,7,Qd l⟩,⟨some 3,none,2,Qd l⟩] .z (.k (.t 3 (.k .z))) rfl [0,1,3,7] (by kernel_rfl) ?_ (.d (.k .z)) (.dddd (.ddk .z)) fun a w hI=>?_
 ·exact⟨op_buildSlice0 Qy (.here 3 rfl),Qa (.tmp 0 rfl rfl) (.here 4 rfl),op_append0 0 rfl rfl rfl rfl (by kernel_rfl) (.tmp 3 rfl rfl) (.tmp 4 rfl rfl) Qcx (fun h=>by cases h) (fun i _=>Xb _) hn (by omega) (.here 5 rfl),Kq 0 rfl rfl (by kernel_rfl) rfl rfl 1 rfl rfl rfl rfl (by kernel_rfl) (.tmp 5 rfl rfl) (.here 6 rfl),trivial⟩
 refine wp_ret ?_
 exact finRow hI rfl (n0:=0) rfl hn (k:=0) rfl
theorem r_copied {X:List (List Rat)} (hn:0<X.length) (hx:X.length≤1000000) (hX:∀i,i<X.length→0<(X.getD i []).length) (hm:∀i,i<X.length→(X.getD i []).length≤1000000):∀(M:Nat→Nat→Prop) (w:World) (v0:Value),Mid M w→Box M (fun w=>(Qg 1 false X.length (fun i=>Qd (X.getD i []))) w v0) w→Calls Try.prog 45 #[v0] w (RetO (MatC X) (MatL.hd X.length) (fun l=>l.H) w):=by
 intro M w0 v0 hM hv0
 refine Jz (N:=19) Try.func45 rfl rfl rfl hM (show EntsA M w0 [v0] [⟨none,none,0,Qg 1 false X.length (fun i=>Qd (X.getD i []))⟩]from⟨⟨rfl,_,rfl,hv0⟩,trivial⟩) fun a hI=>?_
 refine Qh hI [] [] [⟨some 0,none,2,Qe ((Value.slice none 0 0))⟩] .z (.k .z) rfl [0] (by kernel_rfl) ?_ .z (.kk .z) fun a w hI=>?_
 ·exact⟨Qc (.const _) (.here 1 rfl),trivial⟩
 refine Qh hI [⟨3,3,some 0,none,(.grow 0 1),28,0,false,pv Zb,[]⟩] [] [⟨some 0,none,3,Qg 1 false ([]:List RowL).length (fun i=>Kn (Q0 ([]:List RowL) i) (X.getD i []))⟩] .z (.kk .z) rfl [0] (by kernel_rfl) ?_ (.k .z) (.kkk .z) fun a w hI=>?_
 ·exact⟨op_nilG 0 rfl rfl rfl (by kernel_rfl) (.here 2 rfl),trivial⟩
 refine wp_seq ?_
 refine Qh hI [] [] [⟨some 0,none,6,Qg 1 false X.length (fun i=>Qd (X.getD i []))⟩,⟨some 1,none,7,pI (X.length:Int)⟩,⟨some 2,none,8,pI 0⟩] (.k .z) (.kkk .z) rfl [0,1,3] (by kernel_rfl) ?_ (.k .z) (.dkkk (.kk .z)) fun a w hI=>?_
 ·exact⟨Qa (.tmp 0 rfl rfl) (.here 3 rfl),Yy (.tmp 3 rfl rfl) (Qx).under (.here 4 rfl),Qa (.const _) (.here 5 rfl),trivial⟩
 refine wp_block ?_
 refine Xn (fun(R:List RowL) a w=>(R.length≤X.length∧(R.Pairwise fun x y=>x.b≠y.b)∧∀r,r∈R→w0.heap.size≤r.b)∧Inv ⟨19,w0,M,fun _=>False⟩ [⟨3,3,none,none,(.grow R.length 1),28,0,false,pv Zb,[]⟩] [] [⟨none,none,2,Qe ((Value.slice none 0 0))⟩,⟨none,none,3,Qg 1 false R.length (fun i=>Kn (Q0 R i) (X.getD i []))⟩,⟨none,none,6,Qg 1 false X.length (fun i=>Qd (X.getD i []))⟩,⟨none,none,7,pI (X.length:Int)⟩,⟨none,none,8,pI (R.length:Int)⟩] Qf a w) (fun(R:List RowL)=>X.length-R.length) (([]:List RowL)) ⟨⟨Nat.zero_le _,List.Pairwise.nil,fun r hr=>by cases hr⟩,(hI.conv ⟨⟨0,_,_,rfl,⟨rfl,rfl,rfl⟩,rfl,fun _=>fun _ _ h=>h⟩,trivial⟩ ⟨⟨rfl,rfl,0,_,rfl,fun _ _ h=>h⟩,⟨rfl,rfl,1,_,rfl,fun _ _ h=>h⟩,⟨rfl,rfl,2,_,rfl,fun _ _ h=>h⟩,⟨rfl,rfl,3,_,rfl,fun _ _ h=>h⟩,⟨rfl,rfl,4,_,rfl,(Xa rfl)⟩,trivial⟩)⟩ ?_
 intro R a w hIk
 obtain⟨hp,hI⟩:=hIk
 refine Qh hI [] [] [⟨some 0,none,9,pB (decide ((R.length:Int)<(X.length:Int)))⟩] (.k .z) (.kkkk (.k .z)) rfl [0] (by kernel_rfl) ?_ (.k .z) (.kkkk (.kk .z)) fun a w hI=>?_
 ·exact⟨Qo (v:=.bool (decide ((R.length:Int)<(X.length:Int)))) (.tmp 4 rfl rfl) (.tmp 3 rfl rfl) (fun _=>rfl) (.here 5 rfl),trivial⟩
 refine wp_seq ?_
 refine Xd hI 5 rfl (fun ht=>?_) (fun ht=>?_)
 ·have t1:=of_decide_eq_true ht
  refine wp_skip ?_
  refine Qi ?_
  refine wp_seq ?_
  refine wp_block ?_
  refine Qh hI [] [] [⟨some 0,none,10,Zc 1 false (Qd (X.getD R.length []))⟩,⟨some 1,none,11,Qd (X.getD R.length [])⟩,⟨some 2,none,5,Qd (X.getD R.length [])⟩] (.k .z) (.kkkk (.kk .z)) rfl [0,1,3] (by kernel_rfl) ?_ (.k .z) (.kkkk (.kddd (.k .z))) fun a w hI=>?_
  ·exact⟨Xi (.tmp 2 rfl rfl) (.tmp 4 rfl rfl) Qx (by omega) (by omega) (by kernel_rfl) (.at_ 6 _ _ rfl (by rw[Int.toNat_natCast]; exact fun _ _ h=>h)),X6 (.tmp 6 rfl rfl) Q1 ((Zf _)) (.here 7 rfl),Qc (.tmp 7 rfl rfl) (.here 8 rfl),trivial⟩
  refine Qbw hI [⟨12,12,some 0,none,(.grow R.length 1),28,0,false,pv Zb,[]⟩] [] [⟨some 0,none,12,Qg 1 false R.length (fun i=>Kn (Q0 R i) (X.getD i []))⟩,⟨some 1,none,13,Qd (X.getD R.length [])⟩] (.u (some 0) [] .z) (.kkkk (.kk .z)) rfl [0,1,3,7,15,31] 2 (by kernel_rfl) ?_ (.d (.k .z)) (.kdkk (.kdkk .z)) (fun a w hI=>hI) (⟨_,fun a w hI=>(step_callRow (fun _ _=>by kernel_rfl) hI (.tmp 5 rfl rfl) (fun M w v hM hv=>c_clone (hX _ (by omega)) (hm _ (by omega)) M w v hM hv) (by kernel_rfl) (by kernel_rfl) (by kernel_rfl)).exC (C':=fun l:RowL=>w0.heap.size≤l.b∧∀q,q∈R→q.b≠l.b) fun l hl=>⟨Nat.le_trans hI.grown hl,fun q hq=>Nat.ne_of_lt (Nat.lt_of_lt_of_le (rows_lt (k:=4) hI rfl q hq) hl)⟩,
    _,exL fun l hC a w hI=>Jh hI [] [⟨some 0,none,15,Qg 1 false 1 (fun _=>Kn l (X.getD R.length []))⟩] (.k .z) (.kkkk (.kkk .z)) (by kernel_rfl) (U9 (agg:=false) Qx Qek rfl rfl (by decide) (.tmp 0 rfl rfl) (fits_own _ _) (.here 7 rfl)) (.k .z) (.dkkk (.kkdk .z)),
    _,exL fun l hC a w hI=>Jh hI [⟨16,16,some 0,none,(.grow (R.length+1) 1),28,0,false,pv Zb,[]⟩] [⟨some 0,none,16,Qg 1 false (R++[l]).length (fun i=>Kn (Q0 (R++[l]) i) (X.getD i []))⟩] (.u (some 0) [] .z) (.kkkk (.kk .z)) (by kernel_rfl) (Qca 0 rfl rfl (by kernel_rfl) rfl rfl 1 rfl rfl rfl rfl rfl (by kernel_rfl) (by kernel_rfl) (.tmp 4 rfl rfl) (.tmp 5 rfl rfl) app_Rows (fun _=>rfl) (fun i _=>fits_own _ _) (fun i _=>fits_own _ _) (by omega) (.at_ 6 _ _ rfl copied_snoc)) (.d (.k .z)) (.kkkk (.ddk .z)),
    _,exL fun l hC a w hI=>Jh hI [⟨3,3,some 0,none,(.grow (R.length+1) 1),28,0,false,pv Zb,[]⟩] [⟨some 0,none,3,Qg 1 false (R++[l]).length (fun i=>Kn (Q0 (R++[l]) i) (X.getD i []))⟩] (.u (some 0) [] .z) (.kkkk (.k .z)) (by kernel_rfl) (Kq 0 rfl rfl (by kernel_rfl) rfl rfl 1 rfl rfl rfl rfl (by kernel_rfl) (.tmp 4 rfl rfl) (.here 5 rfl)) (.d (.k .z)) (.kkkk (.dk .z)),
    rfl⟩) ?_
  ·exact⟨Va 0 rfl rfl (by kernel_rfl) rfl rfl 1 rfl rfl rfl rfl (by kernel_rfl) (.tmp 1 rfl rfl) (.here 6 rfl),Qa (.tmp 5 rfl rfl) (.here 7 rfl),trivial⟩
  ·rintro a w ⟨l,hC,hI⟩
   have hC:w0.heap.size≤l.b∧∀q,q∈R→q.b≠l.b:=hC
   refine Xw ?_
   refine Qi ?_
   refine Yx hI [] [] [⟨some 0,none,17,pI ((R.length:Int)+(1:Int))⟩,⟨some 1,none,8,pI ((R.length:Int)+(1:Int))⟩] (.k .z) (.kkk (.t 1 (.k .z))) rfl [0,1] (by kernel_rfl) ?_ (.k .z) (.kkkd (.kdk .z)) fun a w hI=>?_
   ·exact⟨Qo (v:=.int .i64 (IntKind.i64.wrap ((R.length:Int)+(1:Int)))) (.tmp 3 rfl rfl) (.const _) (fun _=>rfl) (.at_ 5 _ _ rfl (Xe (by omega))),Qa (.tmp 5 rfl rfl) (.here 6 rfl),trivial⟩
   refine Qi ?_
   exact⟨R++[l],⟨⟨by simp; omega,pairwise_snoc hp.2.1 hC.2,fun r hr=>(List.mem_append.1 hr).elim (hp.2.2 r) fun h=>by rw[List.mem_singleton.1 h]; exact hC.1⟩,(hI.conv ⟨⟨0,_,_,rfl,⟨rfl,rfl,rfl⟩,(congrArg (Kd.grow · 1) (by simp)),fun _=>fun _ _ h=>h⟩,trivial⟩ ⟨⟨rfl,rfl,0,_,rfl,fun _ _ h=>h⟩,⟨rfl,rfl,3,_,rfl,fun _ _ h=>h⟩,⟨rfl,rfl,1,_,rfl,fun _ _ h=>h⟩,⟨rfl,rfl,2,_,rfl,fun _ _ h=>h⟩,⟨rfl,rfl,4,_,rfl,(Xa (by simp))⟩,trivial⟩)⟩,(show X.length-(R++[l]).length<X.length-R.length by simp; omega)⟩
 ·have t2:=of_decide_eq_false ht
  refine wp_exit ?_
  refine Qz ?_
  refine Qz ?_
  refine Xl ?_
  refine Qi ?_
  refine Qh hI [⟨18,18,some 0,some 1,(.grow R.length 1),28,0,false,pv Zb,[]⟩,⟨2,2,some 1,none,(.grow R.length 1),28,0,false,pv Zb,[]⟩] [] [⟨some 0,none,18,Qg 1 false R.length (fun i=>Kn (Q0 R i) (X.getD i []))⟩,⟨some 1,none,2,Qg 1 false R.length (fun i=>Kn (Q0 R i) (X.getD i []))⟩] (.u (some 0) [] .z) (.t 1 (.kkkk (.k .z))) rfl [0,1] (by kernel_rfl) ?_ (.d (.d (.k .z))) (.dddd (.dddk .z)) fun a w hI=>?_
  ·exact⟨Va 0 rfl rfl (by kernel_rfl) rfl rfl 1 rfl rfl rfl rfl (by kernel_rfl) (.tmp 1 rfl rfl) (.here 6 rfl),Kq 1 rfl rfl (by kernel_rfl) rfl rfl 2 rfl rfl rfl rfl (by kernel_rfl) (.tmp 6 rfl rfl) (.here 7 rfl),trivial⟩
  refine wp_ret ?_
  exact finCopied hI rfl (n0:=0) rfl (by omega) hX (by omega) hp.2.1 hp.2.2 (k:=0) rfl
end Wx

namespace Wx
set_option maxRecDepth 100000
open Go Go.RowKit Go.Proofs
set_option linter.unusedVariables false

theorem c_check1 {l:List Rat} {X:List (List Rat)} (h0:0<X.length) (hX:X.length≤1000000):∀(M:Nat→Nat→Prop) (w:World) (v0 v1:Value),Mid M w→Box M (fun w=>(Qd l) w v0) w→Box M (fun w=>(Zc 1 false (Qg 1 false X.length (fun i=>Qd (X.getD i [])))) w v1) w→Calls Try.prog 61 #[v0,v1] w (RetB M (pB ((l.length:Int) != ((X.getD 0 []).length:Int))) w):=by
 intro M w0 v0 v1 hM hv0 hv1
 refine Zq (N:=11) Try.func61 rfl rfl rfl hM (show EntsA M w0 [v0,v1] [⟨none,none,0,Qd l⟩,⟨none,none,1,Zc 1 false (Qg 1 false X.length (fun i=>Qd (X.getD i [])))⟩]from⟨⟨rfl,_,rfl,hv0⟩,⟨rfl,_,rfl,hv1⟩,trivial⟩) fun a hI=>?_
 refine Qh hI [] [] [⟨some 0,none,3,pB false⟩] .z (.kk .z) rfl [0] (by kernel_rfl) ?_ .z (.kkk .z) fun a w hI=>?_
 ·exact⟨Qc (.const _) (.here 2 rfl),trivial⟩
 refine Qh hI [] [] [⟨some 0,none,4,Qd l⟩,⟨some 1,none,5,pI (l.length:Int)⟩,⟨some 2,none,6,Qg 1 false X.length (fun i=>Qd (X.getD i []))⟩,⟨some 3,none,7,Zc 1 false (Qd (X.getD 0 []))⟩,⟨some 4,none,8,Qd (X.getD 0 [])⟩,⟨some 5,none,9,pI ((X.getD 0 []).length:Int)⟩,⟨some 6,none,10,pB ((l.length:Int) != ((X.getD 0 []).length:Int))⟩,⟨some 7,none,3,pB ((l.length:Int) != ((X.getD 0 []).length:Int))⟩] .z (.kk (.t 7 .z)) rfl [0,1,3,7,15,31,63,127] (by kernel_rfl) ?_ .z (.d8 (.ddk .z)) fun a w hI=>?_
 ·exact⟨Qa (.tmp 0 rfl rfl) (.here 3 rfl),Yy (.tmp 3 rfl rfl) (Qy).under (.here 4 rfl),X6 (.tmp 1 rfl rfl) Qbe (Qc4) (.here 5 rfl),Xi (.tmp 5 rfl rfl) (.const _) Qx (by omega) (by omega) (by kernel_rfl) (.here 6 rfl),X6 (.tmp 6 rfl rfl) Q1 ((Zf _)) (.here 7 rfl),Yy (.tmp 7 rfl rfl) (Qy).under (.here 8 rfl),Qo (v:=.bool (((l.length:Int) != ((X.getD 0 []).length:Int)))) (.tmp 4 rfl rfl) (.tmp 8 rfl rfl) (fun _=>rfl) (.here 9 rfl),Qc (.tmp 9 rfl rfl) (.here 10 rfl),trivial⟩
 refine wp_ret ?_
 exact W5 hI rfl (.tmp 0 rfl)
theorem c_indexCheck {X:List (List Rat)} (h0:0<X.length) (hX:X.length≤1000000):∀(M:Nat→Nat→Prop) (w:World) (v0 v1:Value),Mid M w→Box M (fun w=>(Qg 1 false X.length (fun i=>Qd (X.getD i []))) w v0) w→Box M (fun w=>(Uz 61 1 false (Qg 1 false X.length (fun i=>Qd (X.getD i [])))) w v1) w→Calls Try.prog 70 #[v0,v1] w (RetB M (pI (Z1 (fun i=>((X.getD i []).length:Int) != ((X.getD 0 []).length:Int)) X.length)) w):=by
 intro M w0 v0 v1 hM hv0 hv1
 refine Zq (N:=19) Try.func70 rfl rfl rfl hM (show EntsA M w0 [v0,v1] [⟨none,none,0,Qg 1 false X.length (fun i=>Qd (X.getD i []))⟩,⟨none,none,1,Uz 61 1 false (Qg 1 false X.length (fun i=>Qd (X.getD i [])))⟩]from⟨⟨rfl,_,rfl,hv0⟩,⟨rfl,_,rfl,hv1⟩,trivial⟩) fun a hI=>?_
 refine Qh hI [] [] [⟨some 0,none,4,pI 0⟩] .z (.kk .z) rfl [0] (by kernel_rfl) ?_ .z (.kkk .z) fun a w hI=>?_
 ·exact⟨Qc (.const _) (.here 2 rfl),trivial⟩
 refine wp_seq ?_
 refine Qh hI [] [] [⟨some 0,none,6,Qg 1 false X.length (fun i=>Qd (X.getD i []))⟩,⟨some 1,none,7,pI (X.length:Int)⟩,⟨some 2,none,8,pI 0⟩] .z (.kkk .z) rfl [0,1,3] (by kernel_rfl) ?_ .z (.kkkd (.kk .z)) fun a w hI=>?_
 ·exact⟨Qa (.tmp 0 rfl rfl) (.here 3 rfl),Yy (.tmp 3 rfl rfl) (Qx).under (.here 4 rfl),Qa (.const _) (.here 5 rfl),trivial⟩
 refine wp_block ?_
 refine Xn (fun(k:Nat) a w=>(k≤X.length∧∀q,q<k→(((X.getD q []).length:Int) != ((X.getD 0 []).length:Int))=false)∧Inv ⟨19,w0,M,fun _=>False⟩ [] [] [⟨none,none,0,Qg 1 false X.length (fun i=>Qd (X.getD i []))⟩,⟨none,none,1,Uz 61 1 false (Qg 1 false X.length (fun i=>Qd (X.getD i [])))⟩,⟨none,none,7,pI (X.length:Int)⟩,⟨none,none,8,pI (k:Int)⟩] Qf a w) (fun(k:Nat)=>X.length-k) (0) ⟨⟨Nat.zero_le _,fun q hq=>by omega⟩,(hI.conv trivial ⟨⟨rfl,rfl,0,_,rfl,fun _ _ h=>h⟩,⟨rfl,rfl,1,_,rfl,fun _ _ h=>h⟩,⟨rfl,rfl,3,_,rfl,fun _ _ h=>h⟩,⟨rfl,rfl,4,_,rfl,(Xa (by omega))⟩,trivial⟩)⟩ ?_
 intro k a w hIk
 obtain⟨hp,hI⟩:=hIk
 refine Qh hI [] [] [⟨some 0,none,9,pB (decide ((k:Int)<(X.length:Int)))⟩] .z (.kkkk .z) rfl [0] (by kernel_rfl) ?_ .z (.kkkk (.k .z)) fun a w hI=>?_
 ·exact⟨Qo (v:=.bool (decide ((k:Int)<(X.length:Int)))) (.tmp 3 rfl rfl) (.tmp 2 rfl rfl) (fun _=>rfl) (.here 4 rfl),trivial⟩
 refine wp_seq ?_
 refine Xd hI 4 rfl (fun ht=>?_) (fun ht=>?_)
 ·have t1:=of_decide_eq_true ht
  refine wp_skip ?_
  refine Qi ?_
  refine wp_seq ?_
  refine wp_block ?_
  refine Qh hI [] [] [⟨some 0,none,10,pI (k:Int)⟩,⟨some 1,none,5,pI (k:Int)⟩] .z (.kkkk (.k .z)) rfl [0,1] (by kernel_rfl) ?_ .z (.kkkk (.kkk .z)) fun a w hI=>?_
  ·exact⟨Qa (.tmp 3 rfl rfl) (.here 5 rfl),Qc (.tmp 5 rfl rfl) (.here 6 rfl),trivial⟩
  refine Qh hI [] [] [⟨some 0,none,11,Uz 61 1 false (Qg 1 false X.length (fun i=>Qd (X.getD i [])))⟩,⟨some 1,none,12,Qg 1 false X.length (fun i=>Qd (X.getD i []))⟩,⟨some 2,none,13,pI (k:Int)⟩,⟨some 3,none,14,Zc 1 false (Qd (X.getD k []))⟩,⟨some 4,none,15,Qd (X.getD k [])⟩,⟨some 5,none,16,pB (((X.getD k []).length:Int) != ((X.getD 0 []).length:Int))⟩] .z (.kkkk (.kkk .z)) rfl [0,1,3,7,15,31] (by kernel_rfl) ?_ .z (.k8 (.kkkk (.k .z))) fun a w hI=>?_
  ·exact⟨Qa (.tmp 1 rfl rfl) (.here 7 rfl),Qa (.tmp 0 rfl rfl) (.here 8 rfl),Qa (.tmp 6 rfl rfl) (.here 9 rfl),Xi (.tmp 8 rfl rfl) (.tmp 9 rfl rfl) Qx (by omega) (by omega) (by kernel_rfl) (.at_ 10 _ _ rfl (by rw[Int.toNat_natCast]; exact fun _ _ h=>h)),X6 (.tmp 10 rfl rfl) Q1 ((Zf _)) (.here 11 rfl),op_callc1 (fun _ _=>by kernel_rfl) (.tmp 7 rfl rfl) (.tmp 11 rfl rfl) (.here 12 rfl) (c_check1 h0 hX),trivial⟩
  refine Xd hI 12 rfl (fun ht=>?_) (fun ht=>?_)
  ·have t2:=ht
   refine Qh hI [] [] [⟨some 0,none,17,pI (k:Int)⟩,⟨some 1,none,4,pI (k:Int)⟩] .z (.k8 (.kkkk (.k .z))) rfl [0,1] (by kernel_rfl) ?_ .z (.k8 (.kkkk (.kkk .z))) fun a w hI=>?_
   ·exact⟨Qa (.tmp 6 rfl rfl) (.here 13 rfl),Qc (.tmp 13 rfl rfl) (.here 14 rfl),trivial⟩
   refine wp_ret ?_
   refine Ze ?_
   refine X7 ?_
   refine X7 ?_
   refine Ze ?_
   refine X7 ?_
   exact W5 hI rfl (.imp (.tmp 14 rfl) (Xa (firstI_yes (p:=fun i=>((X.getD i []).length:Int) != ((X.getD 0 []).length:Int)) (by omega) t2 hp.2).symm))
  ·have t3:=ht
   refine wp_skip ?_
   refine Xw ?_
   refine Qi ?_
   refine Yx hI [] [] [⟨some 0,none,18,pI ((k:Int)+(1:Int))⟩,⟨some 1,none,8,pI ((k:Int)+(1:Int))⟩] .z (.kkk (.t 1 (.k8 (.k .z)))) rfl [0,1] (by kernel_rfl) ?_ .z (.kkkd (.k8 (.kkk .z))) fun a w hI=>?_
   ·exact⟨Qo (v:=.int .i64 (IntKind.i64.wrap ((k:Int)+(1:Int)))) (.tmp 3 rfl rfl) (.const _) (fun _=>rfl) (.at_ 13 _ _ rfl (Xe (by omega))),Qa (.tmp 13 rfl rfl) (.here 14 rfl),trivial⟩
   refine Qi ?_
   exact⟨k+1,⟨⟨by omega,fun q hq=>by rcases Nat.lt_or_ge q k with h|h; exact hp.2 q h; rw[show q=k by omega]; exact t3⟩,(hI.conv trivial ⟨⟨rfl,rfl,0,_,rfl,fun _ _ h=>h⟩,⟨rfl,rfl,1,_,rfl,fun _ _ h=>h⟩,⟨rfl,rfl,2,_,rfl,fun _ _ h=>h⟩,⟨rfl,rfl,13,_,rfl,(Xa (by omega))⟩,trivial⟩)⟩,(show X.length-(k+1)<X.length-k by omega)⟩
 ·have t4:=of_decide_eq_false ht
  refine wp_exit ?_
  refine Qz ?_
  refine Qz ?_
  refine Xl ?_
  refine Qi ?_
  refine Qh hI [] [] [⟨some 0,none,4,pI (-1)⟩] .z (.kkkk (.k .z)) rfl [0] (by kernel_rfl) ?_ .z (.dddd (.dk .z)) fun a w hI=>?_
  ·exact⟨Qc (.const _) (.here 5 rfl),trivial⟩
  refine wp_ret ?_
  exact W5 hI rfl (.imp (.tmp 0 rfl) (Xa (Qd3 (fun j hj=>hp.2 j (by omega))).symm))
theorem Qe7 {X:List (List Rat)} (h0:0<X.length) (hX:X.length≤1000000):∀(M:Nat→Nat→Prop) (w:World) (v0 v1:Value),Mid M w→Box M (fun w=>(Qg 1 false X.length (fun i=>Qd (X.getD i []))) w v0) w→Box M (fun w=>(Uz 61 1 false (Qg 1 false X.length (fun i=>Qd (X.getD i [])))) w v1) w→Calls Try.prog 60 #[v0,v1] w (RetB M (pB (decide ((Z1 (fun i=>((X.getD i []).length:Int) != ((X.getD 0 []).length:Int)) X.length)≥(0:Int)))) w):=by
 intro M w0 v0 v1 hM hv0 hv1
 refine Zq (N:=9) Try.func60 rfl rfl rfl hM (show EntsA M w0 [v0,v1] [⟨none,none,0,Qg 1 false X.length (fun i=>Qd (X.getD i []))⟩,⟨none,none,1,Uz 61 1 false (Qg 1 false X.length (fun i=>Qd (X.getD i [])))⟩]from⟨⟨rfl,_,rfl,hv0⟩,⟨rfl,_,rfl,hv1⟩,trivial⟩) fun a hI=>?_
 refine Qh hI [] [] [⟨some 0,none,4,pB false⟩] .z (.kk .z) rfl [0] (by kernel_rfl) ?_ .z (.kkk .z) fun a w hI=>?_
 ·exact⟨Qc (.const _) (.here 2 rfl),trivial⟩
 refine Qh hI [] [] [⟨some 0,none,5,Qg 1 false X.length (fun i=>Qd (X.getD i []))⟩,⟨some 1,none,6,Uz 61 1 false (Qg 1 false X.length (fun i=>Qd (X.getD i [])))⟩,⟨some 2,none,7,pI (Z1 (fun i=>((X.getD i []).length:Int) != ((X.getD 0 []).length:Int)) X.length)⟩,⟨some 3,none,8,pB (decide ((Z1 (fun i=>((X.getD i []).length:Int) != ((X.getD 0 []).length:Int)) X.length)≥(0:Int)))⟩,⟨some 4,none,4,pB (decide ((Z1 (fun i=>((X.getD i []).length:Int) != ((X.getD 0 []).length:Int)) X.length)≥(0:Int)))⟩] .z (.kk (.t 4 .z)) rfl [0,1,3,7,15] (by kernel_rfl) ?_ .z (.dddd (.dddk .z)) fun a w hI=>?_
 ·exact⟨Qa (.tmp 0 rfl rfl) (.here 3 rfl),Qa (.tmp 1 rfl rfl) (.here 4 rfl),W9 (fun _ _=>by kernel_rfl) (.tmp 3 rfl rfl) (.tmp 4 rfl rfl) (.here 5 rfl) (c_indexCheck h0 hX),Qo (v:=.bool (decide ((Z1 (fun i=>((X.getD i []).length:Int) != ((X.getD 0 []).length:Int)) X.length)≥(0:Int)))) (.tmp 5 rfl rfl) (.const _) (fun _=>rfl) (.here 6 rfl),Qc (.tmp 6 rfl rfl) (.here 7 rfl),trivial⟩
 refine wp_ret ?_
 exact W5 hI rfl (.tmp 0 rfl)
structure Right (X:List (List Rat)):Prop where
 rows:0<X.length∧X.length≤8
 cols:0<(X.getD 0 []).length∧(X.getD 0 []).length≤8
 rect:∀i,i<X.length→(X.getD i []).length=(X.getD 0 []).length
theorem Right.no {X:List (List Rat)} (h:Right X):Z1 (fun i=>((X.getD i []).length:Int) != ((X.getD 0 []).length:Int)) X.length = -1:=Qd3 fun j hj=>by rw[h.rect j hj]; simp
theorem Qa3 {X:List (List Rat)} (hR:Right X):∀(M:Nat→Nat→Prop) (w:World) (v0:Value),Mid M w→Box M (fun w=>(Qg 1 false X.length (fun i=>Qd (X.getD i []))) w v0) w→Calls Try.prog 32 #[v0] w (RetB M (pI 0) w):=by
 intro M w0 v0 hM hv0
 have h0:=hR.rows
 have h0':=hR.cols
 have h0'':=hR.no
 have h0:=hR.rows.1
 have hX:=hR.rows.2
 refine Zq (N:=28) Try.func32 rfl rfl rfl hM (show EntsA M w0 [v0] [⟨none,none,0,Qg 1 false X.length (fun i=>Qd (X.getD i []))⟩]from⟨⟨rfl,_,rfl,hv0⟩,trivial⟩) fun a hI=>?_
 refine Qh hI [⟨1,1,some 0,none,.ptr,27,1,false,pv (Qg 1 false X.length (fun i=>Qd (X.getD i []))),[]⟩] [] [⟨some 1,none,2,pI 0⟩] .z (.k .z) rfl [0,1] (by kernel_rfl) ?_ (.k .z) (.dk .z) fun a w hI=>?_
 ·exact⟨op_box 0 rfl rfl (by kernel_rfl) (by kernel_rfl) rfl rfl rfl (.tmp 0 rfl rfl) (Qc4) rfl,Qc (.const _) (.here 1 rfl),trivial⟩
 refine wp_seq ?_
 refine Qh hI [] [] [⟨some 0,none,3,Qg 1 false X.length (fun i=>Qd (X.getD i []))⟩,⟨some 1,none,4,pI (X.length:Int)⟩,⟨some 2,none,5,pB false⟩,⟨some 3,none,6,pB false⟩,⟨some 4,none,7,Qg 1 false X.length (fun i=>Qd (X.getD i []))⟩,⟨some 5,none,8,pI (X.length:Int)⟩,⟨some 6,none,9,pB false⟩,⟨some 7,none,10,pB false⟩,⟨some 8,none,11,pB false⟩,⟨some 9,none,12,Qg 1 false X.length (fun i=>Qd (X.getD i []))⟩,⟨some 10,none,13,Zc 1 false (Qd (X.getD 0 []))⟩,⟨some 11,none,14,Qd (X.getD 0 [])⟩,⟨some 12,none,15,pI ((X.getD 0 []).length:Int)⟩,⟨some 13,none,16,pB false⟩,⟨some 14,none,17,pB false⟩,⟨some 15,none,18,pB false⟩,⟨some 16,none,19,Qg 1 false X.length (fun i=>Qd (X.getD i []))⟩,⟨some 17,none,20,Zc 1 false (Qd (X.getD 0 []))⟩,⟨some 18,none,21,Qd (X.getD 0 [])⟩,⟨some 19,none,22,pI ((X.getD 0 []).length:Int)⟩,⟨some 20,none,23,pB false⟩,⟨some 21,none,24,pB false⟩] (.k .z) (.k .z) rfl [0,1,3,7,15,31,63,127,255,511,1023,2047,4095,8191,16383,32767,65535,131071,262143,524287,1048575,2097151] (by kernel_rfl) ?_ (.k .z) (.kddd (.d8 (.d8 (.ddk .z)))) fun a w hI=>?_
 ·exact⟨Yg 0 rfl rfl rfl rfl (by kernel_rfl) Qbe rfl (.here 1 rfl),Yy (.tmp 1 rfl rfl) (Qx).under (.here 2 rfl),Qo (v:=.bool (decide ((X.length:Int)<(1:Int)))) (.tmp 2 rfl rfl) (.const _) (fun _=>rfl) (.at_ 3 _ _ rfl (Zy ((decide_eq_false (by omega))))),Qa (.tmp 3 rfl rfl) (.here 4 rfl),Q9 4 rfl rfl (Yg 0 rfl rfl rfl rfl (by kernel_rfl) Qbe rfl (.here 5 rfl)),Q9 4 rfl rfl (Yy (.tmp 5 rfl rfl) (Qx).under (.here 6 rfl)),Q9 4 rfl rfl (Qo (v:=.bool (decide ((X.length:Int)>(8:Int)))) (.tmp 6 rfl rfl) (.const _) (fun _=>rfl) (.at_ 7 _ _ rfl (Zy ((decide_eq_false (by omega)))))),Yf (b:=false) (.tmp 4 rfl rfl) (fun h=>by cases h) (fun _=>(.tmp 7 rfl rfl)) (.here 8 rfl),Qa (.tmp 8 rfl rfl) (.here 9 rfl),Q9 9 rfl rfl (Yg 0 rfl rfl rfl rfl (by kernel_rfl) Qbe rfl (.here 10 rfl)),Q9 9 rfl rfl (Xi (.tmp 10 rfl rfl) (.const _) Qx (by omega) (by omega) (by kernel_rfl) (.here 11 rfl)),Q9 9 rfl rfl (X6 (.tmp 11 rfl rfl) Q1 ((Zf _)) (.here 12 rfl)),Q9 9 rfl rfl (Yy (.tmp 12 rfl rfl) (Qy).under (.here 13 rfl)),Q9 9 rfl rfl (Qo (v:=.bool (decide (((X.getD 0 []).length:Int)<(1:Int)))) (.tmp 13 rfl rfl) (.const _) (fun _=>rfl) (.at_ 14 _ _ rfl (Zy ((decide_eq_false (by omega)))))),Yf (b:=false) (.tmp 9 rfl rfl) (fun h=>by cases h) (fun _=>(.tmp 14 rfl rfl)) (.here 15 rfl),Qa (.tmp 15 rfl rfl) (.here 16 rfl),Q9 16 rfl rfl (Yg 0 rfl rfl rfl rfl (by kernel_rfl) Qbe rfl (.here 17 rfl)),Q9 16 rfl rfl (Xi (.tmp 17 rfl rfl) (.const _) Qx (by omega) (by omega) (by kernel_rfl) (.here 18 rfl)),Q9 16 rfl rfl (X6 (.tmp 18 rfl rfl) Q1 ((Zf _)) (.here 19 rfl)),Q9 16 rfl rfl (Yy (.tmp 19 rfl rfl) (Qy).under (.here 20 rfl)),Q9 16 rfl rfl (Qo (v:=.bool (decide (((X.getD 0 []).length:Int)>(8:Int)))) (.tmp 20 rfl rfl) (.const _) (fun _=>rfl) (.at_ 21 _ _ rfl (Zy ((decide_eq_false (by omega)))))),Yf (b:=false) (.tmp 16 rfl rfl) (fun h=>by cases h) (fun _=>(.tmp 21 rfl rfl)) (.here 22 rfl),trivial⟩
 refine Zt hI 1 rfl ?_
 refine wp_skip ?_
 refine Qi ?_
 refine wp_seq ?_
 obtain⟨p1,hI⟩:=hI.openPtr 0 rfl rfl rfl
 refine Qh hI [] [] [⟨some 0,none,25,Qg 1 false X.length (fun i=>Qd (X.getD i []))⟩,⟨some 1,none,26,Qe (.func (.func 61) #[] #[.pointer (some ⟨p1,0,none⟩)])⟩,⟨some 2,none,27,pB false⟩] (.k .z) (.kkk .z) rfl [0,1,3] (by kernel_rfl) ?_ (.k .z) (.dkdd (.dk .z)) fun a w hI=>?_
 ·exact⟨Yg 0 rfl rfl rfl rfl (by kernel_rfl) Qbe rfl (.here 3 rfl),Qea (.tmp 0 rfl rfl) (.here 4 rfl),op_callRP (fun _ _=>by kernel_rfl) 0 rfl rfl rfl (by kernel_rfl) rfl (.tmp 0 rfl rfl) (.tmp 3 rfl rfl) (.tmp 4 rfl rfl) (Xt _) (.at_ 5 _ _ rfl (Zy ((decide_eq_false (by omega))))) (Qe7 h0 (by omega)),trivial⟩
 refine Zt hI 1 rfl ?_
 refine wp_skip ?_
 refine Qi ?_
 refine Qh hI [] [] [⟨some 0,none,2,pI 0⟩] (.k .z) (.t 0 (.k .z)) rfl [0] (by kernel_rfl) ?_ (.k .z) (.ddk .z) fun a w hI=>?_
 ·exact⟨Qc (.const _) (.here 2 rfl),trivial⟩
 refine wp_ret ?_
 exact W5 hI rfl (.tmp 0 rfl)
theorem Qch {X:List (List Rat)} (hR:Right X) (hS:(X.getD 0 []).length=X.length):∀(M:Nat→Nat→Prop) (w:World) (v0:Value),Mid M w→Box M (fun w=>(Qg 1 false X.length (fun i=>Qd (X.getD i []))) w v0) w→Calls Try.prog 44 #[v0] w (RetB M (pI 0) w):=by
 intro M w0 v0 hM hv0
 have h0:=hR.rows
 have h0':=hR.cols
 refine Zq (N:=16) Try.func44 rfl rfl rfl hM (show EntsA M w0 [v0] [⟨none,none,0,Qg 1 false X.length (fun i=>Qd (X.getD i []))⟩]from⟨⟨rfl,_,rfl,hv0⟩,trivial⟩) fun a hI=>?_
 refine Qh hI [] [] [⟨some 0,none,2,pI 0⟩] .z (.k .z) rfl [0] (by kernel_rfl) ?_ .z (.kk .z) fun a w hI=>?_
 ·exact⟨Qc (.const _) (.here 1 rfl),trivial⟩
 refine wp_seq ?_
 refine Qh hI [] [] [⟨some 0,none,4,Qg 1 false X.length (fun i=>Qd (X.getD i []))⟩,⟨some 1,none,5,pI 0⟩,⟨some 2,none,3,pI 0⟩] .z (.kk .z) rfl [0,1,3] (by kernel_rfl) ?_ .z (.kkdd (.k .z)) fun a w hI=>?_
 ·exact⟨Qa (.tmp 0 rfl rfl) (.here 2 rfl),Zn (fun _ _=>by kernel_rfl) (.tmp 2 rfl rfl) (.here 3 rfl) (Qa3 hR),Qc (.tmp 3 rfl rfl) (.here 4 rfl),trivial⟩
 refine Qh hI [] [] [⟨some 0,none,6,pI 0⟩,⟨some 1,none,7,pB false⟩] .z (.kkk .z) rfl [0,1] (by kernel_rfl) ?_ .z (.kkkd (.k .z)) fun a w hI=>?_
 ·exact⟨Qa (.tmp 2 rfl rfl) (.here 3 rfl),Qo (v:=.bool (false)) (.tmp 3 rfl rfl) (.const _) (fun _=>rfl) (.here 4 rfl),trivial⟩
 refine Zt hI 3 rfl ?_
 refine wp_skip ?_
 refine Qi ?_
 refine wp_seq ?_
 refine Qh hI [] [] [⟨some 0,none,9,Qg 1 false X.length (fun i=>Qd (X.getD i []))⟩,⟨some 1,none,10,pI (X.length:Int)⟩,⟨some 2,none,11,Qg 1 false X.length (fun i=>Qd (X.getD i []))⟩,⟨some 3,none,12,Zc 1 false (Qd (X.getD 0 []))⟩,⟨some 4,none,13,Qd (X.getD 0 [])⟩,⟨some 5,none,14,pI ((X.getD 0 []).length:Int)⟩,⟨some 6,none,15,pB false⟩] .z (.kkkk .z) rfl [0,1,3,7,15,31,63] (by kernel_rfl) ?_ .z (.dkdd (.dddd (.ddk .z))) fun a w hI=>?_
 ·exact⟨Qa (.tmp 0 rfl rfl) (.here 4 rfl),Yy (.tmp 4 rfl rfl) (Qx).under (.here 5 rfl),Qa (.tmp 0 rfl rfl) (.here 6 rfl),Xi (.tmp 6 rfl rfl) (.const _) Qx (by omega) (by omega) (by kernel_rfl) (.here 7 rfl),X6 (.tmp 7 rfl rfl) Q1 ((Zf _)) (.here 8 rfl),Yy (.tmp 8 rfl rfl) (Qy).under (.here 9 rfl),Qo (v:=.bool (((X.length:Int) != ((X.getD 0 []).length:Int)))) (.tmp 5 rfl rfl) (.tmp 9 rfl rfl) (fun _=>rfl) (.at_ 10 _ _ rfl (Zy ((by rw[hS]; exact bne_self_eq_false _)))),trivial⟩
 refine Zt hI 1 rfl ?_
 refine wp_skip ?_
 refine Qi ?_
 refine Qh hI [] [] [⟨some 0,none,2,pI 0⟩] .z (.t 0 (.k .z)) rfl [0] (by kernel_rfl) ?_ .z (.ddk .z) fun a w hI=>?_
 ·exact⟨Qc (.const _) (.here 2 rfl),trivial⟩
 refine wp_ret ?_
 exact W5 hI rfl (.tmp 0 rfl)
end Wx
