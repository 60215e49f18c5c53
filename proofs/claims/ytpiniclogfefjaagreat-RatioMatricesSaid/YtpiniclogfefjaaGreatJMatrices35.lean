import Derived.Test.YtpiniclogfefjaaGreatCMatricesMatrix
namespace Wx
set_option maxRecDepth 100000
open Go Go.RowKit Go.Proofs
set_option linter.unusedVariables false

theorem c_clone {l:List Rat} (hn:0<l.length) (hm:l.length≤1000000):∀(M:Nat→Nat→Prop) (w:World) (v0:Value),Mid M w→Box M (fun w=>(Qd l) w v0) w→Calls Tryz.prog 80 #[v0] w (RetRow l w):=by
 intro M w0 v0 hM hv0
 refine J1 (N:=8) Tryz.func80 rfl rfl rfl hM (show EntsA M w0 [v0] [Ez 0 (Qd l)]from⟨⟨rfl,_,rfl,hv0⟩,trivial⟩) fun a hI=>?_
 refine Qo hI [Ec 0 2 (Qs ((Value.slice none 0 0)))] [0] (.k .z) ?_ (.kk .z) fun a w hI=>?_
 ·exact⟨Qc (.const _) (.here 1 rfl),trivial⟩
 refine wp_seq ?_
 refine Qo hI [Ec 0 3 (Qd l),Ec 1 4 (pB false)] [0,1] (.kk .z) ?_ (.kkdk .z) fun a w hI=>?_
 ·exact⟨Qa (.tp 0 rfl) (.here 2 rfl),op_eqlNil (.tp 2 rfl) hn (Xo).under (.here 3 rfl),trivial⟩
 refine Yk hI 2 rfl ?_
 refine wp_skip ?_
 refine Qf ?_
 refine Ql hI [⟨7,7,some 2,some 3,(.grow (l.length) 3),38,0,false,pv Xx,[]⟩,⟨2,2,some 3,none,(.grow (l.length) 3),38,0,false,pv Xx,[]⟩] [Ec 0 5 pEmpty,Ec 1 6 (Qd l),Ec 2 7 (Qd l),Ec 3 2 (Qd l)] [0,1,3,7] .z (.k (.t 3 (.k .z))) ?_ (.d (.k .z)) (.dddd (.ddk .z)) fun a w hI=>?_
 ·exact⟨op_buildSlice0 Xo (.here 3 rfl),Qa (.tp 0 rfl) (.here 4 rfl),op_append0 0 rfl rfl rfl rfl (by kernel_rfl) (.tp 3 rfl) (.tp 4 rfl) Qd8 (fun h=>by cases h) (fun i _=>Yb _) hn (by omega) (.here 5 rfl),Uj 0 rfl rfl (by kernel_rfl) rfl rfl 1 rfl rfl rfl rfl (by kernel_rfl) (.tp 5 rfl) (.here 6 rfl),trivial⟩
 refine wp_ret ?_
 exact finRow hI rfl (n0:=0) rfl hn (k:=0) rfl
theorem r_copied {X:List (List Rat)} (hn:0<X.length) (hx:X.length≤1000000) (hX:∀i,i<X.length→0<(X.getD i []).length) (hm:∀i,i<X.length→(X.getD i []).length≤1000000):∀(M:Nat→Nat→Prop) (w:World) (v0:Value),Mid M w→Box M (fun w=>(Qr Qd X) w v0) w→Calls Tryz.prog 38 #[v0] w (RetO (MatC X) (MatL.hd X.length) (fun l=>l.H) w):=by
 intro M w0 v0 hM hv0
 refine J1 (N:=19) Tryz.func38 rfl rfl rfl hM (show EntsA M w0 [v0] [Ez 0 (Qr Qd X)]from⟨⟨rfl,_,rfl,hv0⟩,trivial⟩) fun a hI=>?_
 refine Qo hI [Ec 0 2 (Qs ((Value.slice none 0 0)))] [0] (.k .z) ?_ (.kk .z) fun a w hI=>?_
 ·exact⟨Qc (.const _) (.here 1 rfl),trivial⟩
 refine Ql hI [⟨3,3,some 0,none,(.grow 0 1),39,0,false,pv Xx,[]⟩] [Ec 0 3 (Qj 1 false ([]:List RowL).length (fun i=>Wl (Xs ([]:List RowL) i) (X.getD i [])))] [0] .z (.kk .z) ?_ (.k .z) (.kkk .z) fun a w hI=>?_
 ·exact⟨op_nilG 0 rfl rfl rfl (by kernel_rfl) (.here 2 rfl),trivial⟩
 refine wp_seq ?_
 refine Ql hI [] [Ec 0 6 (Qr Qd X),Ec 1 7 (pI (X.length:Int)),Ec 2 8 (pI 0)] [0,1,3] (.k .z) (.kkk .z) ?_ (.k .z) (.dkkk (.kk .z)) fun a w hI=>?_
 ·exact⟨Qa (.tp 0 rfl) (.here 3 rfl),Q4 (.tp 3 rfl) (Xb).under (.here 4 rfl),Qa (.const _) (.here 5 rfl),trivial⟩
 refine wp_block ?_
 refine Xz (fun(R:List RowL) a w=>(R.length≤X.length∧(R.Pairwise fun x y=>x.b≠y.b)∧∀r,r∈R→w0.heap.size≤r.b)∧Inv ⟨19,w0,M,fun _=>False⟩ [⟨3,3,none,none,(.grow R.length 1),39,0,false,pv Xx,[]⟩] [] [Ez 2 (Qs ((Value.slice none 0 0))),Ez 3 (Qj 1 false R.length (fun i=>Wl (Xs R i) (X.getD i []))),Ez 6 (Qr Qd X),Ez 7 (pI (X.length:Int)),Ez 8 (pI (R.length:Int))] Qi a w) (fun(R:List RowL)=>X.length-R.length) (([]:List RowL)) ⟨⟨Nat.zero_le _,List.Pairwise.nil,fun r hr=>by cases hr⟩,(hI.conv ⟨⟨0,_,_,rfl,⟨rfl,rfl,rfl⟩,rfl,fun _=>fun _ _ h=>h⟩,trivial⟩ ⟨Qp 0 rfl,Qp 1 rfl,Qp 2 rfl,Qp 3 rfl,⟨rfl,rfl,4,_,rfl,(Xc rfl)⟩,trivial⟩)⟩ ?_
 intro R a w hIk
 obtain⟨hp,hI⟩:=hIk
 refine Ql hI [] [Ec 0 9 (pB (decide ((R.length:Int)<(X.length:Int))))] [0] (.k .z) (.kkkk (.k .z)) ?_ (.k .z) (.kkkk (.kk .z)) fun a w hI=>?_
 ·exact⟨Qk (v:=.bool (decide ((R.length:Int)<(X.length:Int)))) (.tp 4 rfl) (.tp 3 rfl) (fun _=>rfl) (.here 5 rfl),trivial⟩
 refine wp_seq ?_
 refine Xm hI 5 rfl (fun ht=>?_) (fun ht=>?_)
 ·have t1:=of_decide_eq_true ht
  refine wp_skip ?_
  refine Qf ?_
  refine wp_seq ?_
  refine wp_block ?_
  refine Ql hI [] [Ec 0 10 (Ye 1 false (Qd (X.getD R.length []))),Ec 1 11 (Qd (X.getD R.length [])),Ec 2 5 (Qd (X.getD R.length []))] [0,1,3] (.k .z) (.kkkk (.kk .z)) ?_ (.k .z) (.kkkk (.kddd (.k .z))) fun a w hI=>?_
  ·exact⟨Qw (.tp 2 rfl) (.tp 4 rfl) Xb (.at_ 6 _ _ rfl (by rw[Int.toNat_natCast]; exact fun _ _ h=>h)),Q7 (.tp 6 rfl) X6 ((Y6 _)) (.here 7 rfl),Qc (.tp 7 rfl) (.here 8 rfl),trivial⟩
  refine sem_ST hI [⟨12,12,some 0,none,(.grow R.length 1),39,0,false,pv Xx,[]⟩] [] [Ec 0 12 (Qj 1 false R.length (fun i=>Wl (Xs R i) (X.getD i []))),Ec 1 13 (Qd (X.getD R.length []))] (.u (some 0) [] .z) (.kkkk (.kk .z)) rfl [0,1,3,7,15,31] 2 (by kernel_rfl) ?_ (.d (.k .z)) (.kdkk (.kdkk .z)) (fun a w hI=>hI) (⟨_,fun a w hI=>(step_callRow (fun _ _=>by kernel_rfl) hI (.tp 5 rfl) (fun M w v hM hv=>c_clone (hX _ (by omega)) (hm _ (by omega)) M w v hM hv) (by kernel_rfl) (by kernel_rfl) (by kernel_rfl)).exC (C':=fun l:RowL=>w0.heap.size≤l.b∧∀q,q∈R→q.b≠l.b) fun l hl=>⟨Nat.le_trans hI.grown hl,fun q hq=>Nat.ne_of_lt (Nat.lt_of_lt_of_le (rows_lt (k:=4) hI rfl q hq) hl)⟩,
    _,exL fun l hC a w hI=>Vj hI [] [Ec 0 15 (Qj 1 false 1 (fun _=>Wl l (X.getD R.length [])))] (.k .z) (.kkkk (.kkk .z)) (by kernel_rfl) (Qd3 (agg:=false) Xb zv_Ratios rfl rfl (by decide) (.tp 0 rfl) (fits_own _ _) (.here 7 rfl)) (.k .z) (.dkkk (.kkdk .z)),
    _,exL fun l hC a w hI=>Vj hI [⟨16,16,some 0,none,(.grow (R.length+1) 1),39,0,false,pv Xx,[]⟩] [Ec 0 16 (Qj 1 false (R++[l]).length (fun i=>Wl (Xs (R++[l]) i) (X.getD i [])))] (.u (some 0) [] .z) (.kkkk (.kk .z)) (by kernel_rfl) (Qfb 0 rfl rfl (by kernel_rfl) rfl rfl 1 rfl rfl rfl rfl rfl (by kernel_rfl) (by kernel_rfl) (.tp 4 rfl) (.tp 5 rfl) app_Rows (fun _=>rfl) (fun i _=>fits_own _ _) (fun i _=>fits_own _ _) (by omega) (.at_ 6 _ _ rfl copied_snoc)) (.d (.k .z)) (.kkkk (.ddk .z)),
    _,exL fun l hC a w hI=>Vj hI [⟨3,3,some 0,none,(.grow (R.length+1) 1),39,0,false,pv Xx,[]⟩] [Ec 0 3 (Qj 1 false (R++[l]).length (fun i=>Wl (Xs (R++[l]) i) (X.getD i [])))] (.u (some 0) [] .z) (.kkkk (.k .z)) (by kernel_rfl) (Uj 0 rfl rfl (by kernel_rfl) rfl rfl 1 rfl rfl rfl rfl (by kernel_rfl) (.tp 4 rfl) (.here 5 rfl)) (.d (.k .z)) (.kkkk (.dk .z)),
    rfl⟩) ?_
  ·exact⟨Qa1 0 rfl rfl (by kernel_rfl) rfl rfl 1 rfl rfl rfl rfl (by kernel_rfl) (.tp 1 rfl) (.here 6 rfl),Qa (.tp 5 rfl) (.here 7 rfl),trivial⟩
  ·rintro a w ⟨l,hC,hI⟩
   have hC:w0.heap.size≤l.b∧∀q,q∈R→q.b≠l.b:=hC
   refine Yf ?_
   refine Qf ?_
   refine Y4 hI [] [Ec 0 17 (pI ((R.length:Int)+(1:Int))),Ec 1 8 (pI ((R.length:Int)+(1:Int)))] [0,1] (.k .z) (.kkk (.t 1 (.k .z))) ?_ (.k .z) (.kkkd (.kdk .z)) fun a w hI=>?_
   ·exact⟨Qk (v:=.int .i64 (IntKind.i64.wrap ((R.length:Int)+(1:Int)))) (.tp 3 rfl) (.const _) (fun _=>rfl) (.at_ 5 _ _ rfl (X8 (by omega))),Qa (.tp 5 rfl) (.here 6 rfl),trivial⟩
   refine Qf ?_
   exact⟨R++[l],⟨⟨by simp; omega,pairwise_snoc hp.2.1 hC.2,fun r hr=>(List.mem_append.1 hr).elim (hp.2.2 r) fun h=>by rw[List.mem_singleton.1 h]; exact hC.1⟩,(hI.conv ⟨⟨0,_,_,rfl,⟨rfl,rfl,rfl⟩,(congrArg (Kd.grow · 1) (by simp)),fun _=>fun _ _ h=>h⟩,trivial⟩ ⟨Qp 0 rfl,Qp 3 rfl,Qp 1 rfl,Qp 2 rfl,⟨rfl,rfl,4,_,rfl,(Xc (by simp))⟩,trivial⟩)⟩,(show X.length-(R++[l]).length<X.length-R.length by simp; omega)⟩
 ·have t2:=of_decide_eq_false ht
  refine wp_exit ?_
  refine Qy ?_
  refine Qy ?_
  refine Xv ?_
  refine Qf ?_
  refine Ql hI [⟨18,18,some 0,some 1,(.grow R.length 1),39,0,false,pv Xx,[]⟩,⟨2,2,some 1,none,(.grow R.length 1),39,0,false,pv Xx,[]⟩] [Ec 0 18 (Qj 1 false R.length (fun i=>Wl (Xs R i) (X.getD i []))),Ec 1 2 (Qj 1 false R.length (fun i=>Wl (Xs R i) (X.getD i [])))] [0,1] (.u (some 0) [] .z) (.t 1 (.kkkk (.k .z))) ?_ (.d (.d (.k .z))) (.dddd (.dddk .z)) fun a w hI=>?_
  ·exact⟨Qa1 0 rfl rfl (by kernel_rfl) rfl rfl 1 rfl rfl rfl rfl (by kernel_rfl) (.tp 1 rfl) (.here 6 rfl),Uj 1 rfl rfl (by kernel_rfl) rfl rfl 2 rfl rfl rfl rfl (by kernel_rfl) (.tp 6 rfl) (.here 7 rfl),trivial⟩
  refine wp_ret ?_
  exact finCopied hI rfl (n0:=0) rfl (by omega) hX (by omega) hp.2.1 hp.2.2 (k:=0) rfl
end Wx

namespace Wx
set_option maxRecDepth 100000
open Go Go.RowKit Go.Proofs
set_option linter.unusedVariables false

theorem c_check1 {l:List Rat} {X:List (List Rat)} (h0:0<X.length) (hX:X.length≤1000000):∀(M:Nat→Nat→Prop) (w:World) (v0 v1:Value),Mid M w→Box M (fun w=>(Qd l) w v0) w→Box M (fun w=>(Ye 1 false (Qr Qd X)) w v1) w→Calls Tryz.prog 87 #[v0,v1] w (RetB M (pB ((l.length:Int) != ((X.getD 0 []).length:Int))) w):=by
 intro M w0 v0 v1 hM hv0 hv1
 refine Q5 (N:=11) Tryz.func87 rfl rfl rfl hM (show EntsA M w0 [v0,v1] [Ez 0 (Qd l),Ez 1 (Ye 1 false (Qr Qd X))]from⟨⟨rfl,_,rfl,hv0⟩,⟨rfl,_,rfl,hv1⟩,trivial⟩) fun a hI=>?_
 refine Qo hI [Ec 0 3 (pB false)] [0] (.kk .z) ?_ (.kkk .z) fun a w hI=>?_
 ·exact⟨Qc (.const _) (.here 2 rfl),trivial⟩
 refine Qo hI [Ec 0 4 (Qd l),Ec 1 5 (pI (l.length:Int)),Ec 2 6 (Qr Qd X),Ec 3 7 (Ye 1 false (Qd (X.getD 0 []))),Ec 4 8 (Qd (X.getD 0 [])),Ec 5 9 (pI ((X.getD 0 []).length:Int)),Ec 6 10 (pB ((l.length:Int) != ((X.getD 0 []).length:Int))),Ec 7 3 (pB ((l.length:Int) != ((X.getD 0 []).length:Int)))] [0,1,3,7,15,31,63,127] (.kk (.t 7 .z)) ?_ (.d8 (.ddk .z)) fun a w hI=>?_
 ·exact⟨Qa (.tp 0 rfl) (.here 3 rfl),Q4 (.tp 3 rfl) (Xo).under (.here 4 rfl),Q7 (.tp 1 rfl) Jw (Wy) (.here 5 rfl),Qw (.tp 5 rfl) (.const _) Xb (.here 6 rfl),Q7 (.tp 6 rfl) X6 ((Y6 _)) (.here 7 rfl),Q4 (.tp 7 rfl) (Xo).under (.here 8 rfl),Qk (v:=.bool (((l.length:Int) != ((X.getD 0 []).length:Int)))) (.tp 4 rfl) (.tp 8 rfl) (fun _=>rfl) (.here 9 rfl),Qc (.tp 9 rfl) (.here 10 rfl),trivial⟩
 refine wp_ret ?_
 exact Zu hI rfl (.tmp 0 rfl)
theorem c_indexCheck {X:List (List Rat)} (h0:0<X.length) (hX:X.length≤1000000):∀(M:Nat→Nat→Prop) (w:World) (v0 v1:Value),Mid M w→Box M (fun w=>(Qr Qd X) w v0) w→Box M (fun w=>(pClo 87 1 false (Qr Qd X)) w v1) w→Calls Tryz.prog 94 #[v0,v1] w (RetB M (pI (Z3 (fun i=>((X.getD i []).length:Int) != ((X.getD 0 []).length:Int)) X.length)) w):=by
 intro M w0 v0 v1 hM hv0 hv1
 refine Q5 (N:=19) Tryz.func94 rfl rfl rfl hM (show EntsA M w0 [v0,v1] [Ez 0 (Qr Qd X),Ez 1 (pClo 87 1 false (Qr Qd X))]from⟨⟨rfl,_,rfl,hv0⟩,⟨rfl,_,rfl,hv1⟩,trivial⟩) fun a hI=>?_
 refine Qo hI [Ec 0 4 (pI 0)] [0] (.kk .z) ?_ (.kkk .z) fun a w hI=>?_
 ·exact⟨Qc (.const _) (.here 2 rfl),trivial⟩
 refine wp_seq ?_
 refine Qo hI [Ec 0 6 (Qr Qd X),Ec 1 7 (pI (X.length:Int)),Ec 2 8 (pI 0)] [0,1,3] (.kkk .z) ?_ (.kkkd (.kk .z)) fun a w hI=>?_
 ·exact⟨Qa (.tp 0 rfl) (.here 3 rfl),Q4 (.tp 3 rfl) (Xb).under (.here 4 rfl),Qa (.const _) (.here 5 rfl),trivial⟩
 refine wp_block ?_
 refine Xz (fun(k:Nat) a w=>(k≤X.length∧∀q,q<k→(((X.getD q []).length:Int) != ((X.getD 0 []).length:Int))=false)∧Inv ⟨19,w0,M,fun _=>False⟩ [] [] [Ez 0 (Qr Qd X),Ez 1 (pClo 87 1 false (Qr Qd X)),Ez 7 (pI (X.length:Int)),Ez 8 (pI (k:Int))] Qi a w) (fun(k:Nat)=>X.length-k) (0) ⟨⟨Nat.zero_le _,fun q hq=>by omega⟩,(hI.conv trivial ⟨Qp 0 rfl,Qp 1 rfl,Qp 3 rfl,⟨rfl,rfl,4,_,rfl,(Xc (by omega))⟩,trivial⟩)⟩ ?_
 intro k a w hIk
 obtain⟨hp,hI⟩:=hIk
 refine Qo hI [Ec 0 9 (pB (decide ((k:Int)<(X.length:Int))))] [0] (.kkkk .z) ?_ (.kkkk (.k .z)) fun a w hI=>?_
 ·exact⟨Qk (v:=.bool (decide ((k:Int)<(X.length:Int)))) (.tp 3 rfl) (.tp 2 rfl) (fun _=>rfl) (.here 4 rfl),trivial⟩
 refine wp_seq ?_
 refine Xm hI 4 rfl (fun ht=>?_) (fun ht=>?_)
 ·have t1:=of_decide_eq_true ht
  refine wp_skip ?_
  refine Qf ?_
  refine wp_seq ?_
  refine wp_block ?_
  refine Qo hI [Ec 0 10 (pI (k:Int)),Ec 1 5 (pI (k:Int))] [0,1] (.kkkk (.k .z)) ?_ (.kkkk (.kkk .z)) fun a w hI=>?_
  ·exact⟨Qa (.tp 3 rfl) (.here 5 rfl),Qc (.tp 5 rfl) (.here 6 rfl),trivial⟩
  refine Qo hI [Ec 0 11 (pClo 87 1 false (Qr Qd X)),Ec 1 12 (Qr Qd X),Ec 2 13 (pI (k:Int)),Ec 3 14 (Ye 1 false (Qd (X.getD k []))),Ec 4 15 (Qd (X.getD k [])),Ec 5 16 (pB (((X.getD k []).length:Int) != ((X.getD 0 []).length:Int)))] [0,1,3,7,15,31] (.kkkk (.kkk .z)) ?_ (.k8 (.kkkk (.k .z))) fun a w hI=>?_
  ·exact⟨Qa (.tp 1 rfl) (.here 7 rfl),Qa (.tp 0 rfl) (.here 8 rfl),Qa (.tp 6 rfl) (.here 9 rfl),Qw (.tp 8 rfl) (.tp 9 rfl) Xb (.at_ 10 _ _ rfl (by rw[Int.toNat_natCast]; exact fun _ _ h=>h)),Q7 (.tp 10 rfl) X6 ((Y6 _)) (.here 11 rfl),op_callc1 (fun _ _=>by kernel_rfl) (.tp 7 rfl) (.tp 11 rfl) (.here 12 rfl) (c_check1 h0 hX),trivial⟩
  refine Xm hI 12 rfl (fun ht=>?_) (fun ht=>?_)
  ·have t2:=ht
   refine Qo hI [Ec 0 17 (pI (k:Int)),Ec 1 4 (pI (k:Int))] [0,1] (.k8 (.kkkk (.k .z))) ?_ (.k8 (.kkkk (.kkk .z))) fun a w hI=>?_
   ·exact⟨Qa (.tp 6 rfl) (.here 13 rfl),Qc (.tp 13 rfl) (.here 14 rfl),trivial⟩
   refine wp_ret ?_
   refine Je ?_
   refine Xh ?_
   refine Xh ?_
   refine Je ?_
   refine Xh ?_
   exact Zu hI rfl (.imp (.tmp 14 rfl) (Xc (firstI_yes (p:=fun i=>((X.getD i []).length:Int) != ((X.getD 0 []).length:Int)) (by omega) t2 hp.2).symm))
  ·have t3:=ht
   refine wp_skip ?_
   refine Yf ?_
   refine Qf ?_
   refine sem_T0 hI [Ec 0 18 (pI ((k:Int)+(1:Int))),Ec 1 8 (pI ((k:Int)+(1:Int)))] [0,1] (.kkk (.t 1 (.k8 (.k .z)))) ?_ (.kkkd (.k8 (.kkk .z))) fun a w hI=>?_
   ·exact⟨Qk (v:=.int .i64 (IntKind.i64.wrap ((k:Int)+(1:Int)))) (.tp 3 rfl) (.const _) (fun _=>rfl) (.at_ 13 _ _ rfl (X8 (by omega))),Qa (.tp 13 rfl) (.here 14 rfl),trivial⟩
   refine Qf ?_
   exact⟨k+1,⟨⟨by omega,fun q hq=>by rcases Nat.lt_or_ge q k with h|h; exact hp.2 q h; rw[show q=k by omega]; exact t3⟩,(hI.conv trivial ⟨Qp 0 rfl,Qp 1 rfl,Qp 2 rfl,⟨rfl,rfl,13,_,rfl,(Xc (by omega))⟩,trivial⟩)⟩,(show X.length-(k+1)<X.length-k by omega)⟩
 ·have t4:=of_decide_eq_false ht
  refine wp_exit ?_
  refine Qy ?_
  refine Qy ?_
  refine Xv ?_
  refine Qf ?_
  refine Qo hI [Ec 0 4 (pI (-1))] [0] (.kkkk (.k .z)) ?_ (.dddd (.dk .z)) fun a w hI=>?_
  ·exact⟨Qc (.const _) (.here 5 rfl),trivial⟩
  refine wp_ret ?_
  exact Zu hI rfl (.imp (.tmp 0 rfl) (Xc (Qe5 (fun j hj=>hp.2 j (by omega))).symm))
theorem Qdc {X:List (List Rat)} (h0:0<X.length) (hX:X.length≤1000000):∀(M:Nat→Nat→Prop) (w:World) (v0 v1:Value),Mid M w→Box M (fun w=>(Qr Qd X) w v0) w→Box M (fun w=>(pClo 87 1 false (Qr Qd X)) w v1) w→Calls Tryz.prog 86 #[v0,v1] w (RetB M (pB (decide ((Z3 (fun i=>((X.getD i []).length:Int) != ((X.getD 0 []).length:Int)) X.length)≥(0:Int)))) w):=by
 intro M w0 v0 v1 hM hv0 hv1
 refine Q5 (N:=9) Tryz.func86 rfl rfl rfl hM (show EntsA M w0 [v0,v1] [Ez 0 (Qr Qd X),Ez 1 (pClo 87 1 false (Qr Qd X))]from⟨⟨rfl,_,rfl,hv0⟩,⟨rfl,_,rfl,hv1⟩,trivial⟩) fun a hI=>?_
 refine Qo hI [Ec 0 4 (pB false)] [0] (.kk .z) ?_ (.kkk .z) fun a w hI=>?_
 ·exact⟨Qc (.const _) (.here 2 rfl),trivial⟩
 refine Qo hI [Ec 0 5 (Qr Qd X),Ec 1 6 (pClo 87 1 false (Qr Qd X)),Ec 2 7 (pI (Z3 (fun i=>((X.getD i []).length:Int) != ((X.getD 0 []).length:Int)) X.length)),Ec 3 8 (pB (decide ((Z3 (fun i=>((X.getD i []).length:Int) != ((X.getD 0 []).length:Int)) X.length)≥(0:Int)))),Ec 4 4 (pB (decide ((Z3 (fun i=>((X.getD i []).length:Int) != ((X.getD 0 []).length:Int)) X.length)≥(0:Int))))] [0,1,3,7,15] (.kk (.t 4 .z)) ?_ (.dddd (.dddk .z)) fun a w hI=>?_
 ·exact⟨Qa (.tp 0 rfl) (.here 3 rfl),Qa (.tp 1 rfl) (.here 4 rfl),Kk (fun _ _=>by kernel_rfl) (.tp 3 rfl) (.tp 4 rfl) (.here 5 rfl) (c_indexCheck h0 hX),Qk (v:=.bool (decide ((Z3 (fun i=>((X.getD i []).length:Int) != ((X.getD 0 []).length:Int)) X.length)≥(0:Int)))) (.tp 5 rfl) (.const _) (fun _=>rfl) (.here 6 rfl),Qc (.tp 6 rfl) (.here 7 rfl),trivial⟩
 refine wp_ret ?_
 exact Zu hI rfl (.tmp 0 rfl)
structure Right (X:List (List Rat)):Prop where
 rows:0<X.length∧X.length≤8
 cols:0<(X.getD 0 []).length∧(X.getD 0 []).length≤8
 rect:∀i,i<X.length→(X.getD i []).length=(X.getD 0 []).length
theorem Right.no {X:List (List Rat)} (h:Right X):Z3 (fun i=>((X.getD i []).length:Int) != ((X.getD 0 []).length:Int)) X.length = -1:=Qe5 fun j hj=>by rw[h.rect j hj]; simp
theorem Wn {X:List (List Rat)} (hR:Right X):∀(M:Nat→Nat→Prop) (w:World) (v0:Value),Mid M w→Box M (fun w=>(Qr Qd X) w v0) w→Calls Tryz.prog 48 #[v0] w (RetB M (pI 0) w):=by
 intro M w0 v0 hM hv0
 have h0:=hR.rows
 have h0':=hR.cols
 have h0'':=hR.no
 have h0:=hR.rows.1
 have hX:=hR.rows.2
 refine Q5 (N:=28) Tryz.func48 rfl rfl rfl hM (show EntsA M w0 [v0] [Ez 0 (Qr Qd X)]from⟨⟨rfl,_,rfl,hv0⟩,trivial⟩) fun a hI=>?_
 refine Ql hI [⟨1,1,some 0,none,.ptr,25,1,false,pv (Qr Qd X),[]⟩] [Ec 1 2 (pI 0)] [0,1] .z (.k .z) ?_ (.k .z) (.dk .z) fun a w hI=>?_
 ·exact⟨Us 0 rfl rfl (by kernel_rfl) (by kernel_rfl) rfl rfl rfl (.tp 0 rfl) (Wy) rfl,Qc (.const _) (.here 1 rfl),trivial⟩
 refine wp_seq ?_
 refine Ql hI [] [Ec 0 3 (Qr Qd X),Ec 1 4 (pI (X.length:Int)),Ec 2 5 (pB false),Ec 3 6 (pB false),Ec 4 7 (Qr Qd X),Ec 5 8 (pI (X.length:Int)),Ec 6 9 (pB false),Ec 7 10 (pB false),Ec 8 11 (pB false),Ec 9 12 (Qr Qd X),Ec 10 13 (Ye 1 false (Qd (X.getD 0 []))),Ec 11 14 (Qd (X.getD 0 [])),Ec 12 15 (pI ((X.getD 0 []).length:Int)),Ec 13 16 (pB false),Ec 14 17 (pB false),Ec 15 18 (pB false),Ec 16 19 (Qr Qd X),Ec 17 20 (Ye 1 false (Qd (X.getD 0 []))),Ec 18 21 (Qd (X.getD 0 [])),Ec 19 22 (pI ((X.getD 0 []).length:Int)),Ec 20 23 (pB false),Ec 21 24 (pB false)] [0,1,3,7,15,31,63,127,255,511,1023,2047,4095,8191,16383,32767,65535,131071,262143,524287,1048575,2097151] (.k .z) (.k .z) ?_ (.k .z) (.kddd (.d8 (.d8 (.ddk .z)))) fun a w hI=>?_
 ·exact⟨Xp 0 rfl rfl rfl rfl (by kernel_rfl) Jw rfl (.here 1 rfl),Q4 (.tp 1 rfl) (Xb).under (.here 2 rfl),Qk (v:=.bool (decide ((X.length:Int)<(1:Int)))) (.tp 2 rfl) (.const _) (fun _=>rfl) (.at_ 3 _ _ rfl (Y7 ((decide_eq_false (by omega))))),Qa (.tp 3 rfl) (.here 4 rfl),Xt 4 rfl rfl (Xp 0 rfl rfl rfl rfl (by kernel_rfl) Jw rfl (.here 5 rfl)),Xt 4 rfl rfl (Q4 (.tp 5 rfl) (Xb).under (.here 6 rfl)),Xt 4 rfl rfl (Qk (v:=.bool (decide ((X.length:Int)>(8:Int)))) (.tp 6 rfl) (.const _) (fun _=>rfl) (.at_ 7 _ _ rfl (Y7 ((decide_eq_false (by omega)))))),Yl (b:=false) (.tp 4 rfl) (fun h=>by cases h) (fun _=>(.tp 7 rfl)) (.here 8 rfl),Qa (.tp 8 rfl) (.here 9 rfl),Xt 9 rfl rfl (Xp 0 rfl rfl rfl rfl (by kernel_rfl) Jw rfl (.here 10 rfl)),Xt 9 rfl rfl (Qw (.tp 10 rfl) (.const _) Xb (.here 11 rfl)),Xt 9 rfl rfl (Q7 (.tp 11 rfl) X6 ((Y6 _)) (.here 12 rfl)),Xt 9 rfl rfl (Q4 (.tp 12 rfl) (Xo).under (.here 13 rfl)),Xt 9 rfl rfl (Qk (v:=.bool (decide (((X.getD 0 []).length:Int)<(1:Int)))) (.tp 13 rfl) (.const _) (fun _=>rfl) (.at_ 14 _ _ rfl (Y7 ((decide_eq_false (by omega)))))),Yl (b:=false) (.tp 9 rfl) (fun h=>by cases h) (fun _=>(.tp 14 rfl)) (.here 15 rfl),Qa (.tp 15 rfl) (.here 16 rfl),Xt 16 rfl rfl (Xp 0 rfl rfl rfl rfl (by kernel_rfl) Jw rfl (.here 17 rfl)),Xt 16 rfl rfl (Qw (.tp 17 rfl) (.const _) Xb (.here 18 rfl)),Xt 16 rfl rfl (Q7 (.tp 18 rfl) X6 ((Y6 _)) (.here 19 rfl)),Xt 16 rfl rfl (Q4 (.tp 19 rfl) (Xo).under (.here 20 rfl)),Xt 16 rfl rfl (Qk (v:=.bool (decide (((X.getD 0 []).length:Int)>(8:Int)))) (.tp 20 rfl) (.const _) (fun _=>rfl) (.at_ 21 _ _ rfl (Y7 ((decide_eq_false (by omega)))))),Yl (b:=false) (.tp 16 rfl) (fun h=>by cases h) (fun _=>(.tp 21 rfl)) (.here 22 rfl),trivial⟩
 refine Yk hI 1 rfl ?_
 refine wp_skip ?_
 refine Qf ?_
 refine wp_seq ?_
 obtain⟨p1,hI⟩:=hI.openPtr 0 rfl rfl rfl
 refine Ql hI [] [Ec 0 25 (Qr Qd X),Ec 1 26 (Qs (.func (.func 87) #[] #[.pointer (some ⟨p1,0,none⟩)])),Ec 2 27 (pB false)] [0,1,3] (.k .z) (.kkk .z) ?_ (.k .z) (.dkdd (.dk .z)) fun a w hI=>?_
 ·exact⟨Xp 0 rfl rfl rfl rfl (by kernel_rfl) Jw rfl (.here 3 rfl),Qcz (.tp 0 rfl) (.here 4 rfl),op_callRP (fun _ _=>by kernel_rfl) 0 rfl rfl rfl (by kernel_rfl) rfl (.tp 0 rfl) (.tp 3 rfl) (.tp 4 rfl) (Zc _) (.at_ 5 _ _ rfl (Y7 ((decide_eq_false (by omega))))) (Qdc h0 (by omega)),trivial⟩
 refine Yk hI 1 rfl ?_
 refine wp_skip ?_
 refine Qf ?_
 refine Ql hI [] [Ec 0 2 (pI 0)] [0] (.k .z) (.t 0 (.k .z)) ?_ (.k .z) (.ddk .z) fun a w hI=>?_
 ·exact⟨Qc (.const _) (.here 2 rfl),trivial⟩
 refine wp_ret ?_
 exact Zu hI rfl (.tmp 0 rfl)
theorem Qdt {X:List (List Rat)} (hR:Right X) (hS:(X.getD 0 []).length=X.length):∀(M:Nat→Nat→Prop) (w:World) (v0:Value),Mid M w→Box M (fun w=>(Qr Qd X) w v0) w→Calls Tryz.prog 36 #[v0] w (RetB M (pI 0) w):=by
 intro M w0 v0 hM hv0
 have h0:=hR.rows
 have h0':=hR.cols
 refine Q5 (N:=16) Tryz.func36 rfl rfl rfl hM (show EntsA M w0 [v0] [Ez 0 (Qr Qd X)]from⟨⟨rfl,_,rfl,hv0⟩,trivial⟩) fun a hI=>?_
 refine Qo hI [Ec 0 2 (pI 0)] [0] (.k .z) ?_ (.kk .z) fun a w hI=>?_
 ·exact⟨Qc (.const _) (.here 1 rfl),trivial⟩
 refine wp_seq ?_
 refine Qo hI [Ec 0 4 (Qr Qd X),Ec 1 5 (pI 0),Ec 2 3 (pI 0)] [0,1,3] (.kk .z) ?_ (.kkdd (.k .z)) fun a w hI=>?_
 ·exact⟨Qa (.tp 0 rfl) (.here 2 rfl),Q6 (fun _ _=>by kernel_rfl) (.tp 2 rfl) (.here 3 rfl) (Wn hR),Qc (.tp 3 rfl) (.here 4 rfl),trivial⟩
 refine Qo hI [Ec 0 6 (pI 0),Ec 1 7 (pB false)] [0,1] (.kkk .z) ?_ (.kkkd (.k .z)) fun a w hI=>?_
 ·exact⟨Qa (.tp 2 rfl) (.here 3 rfl),Qk (v:=.bool (false)) (.tp 3 rfl) (.const _) (fun _=>rfl) (.here 4 rfl),trivial⟩
 refine Yk hI 3 rfl ?_
 refine wp_skip ?_
 refine Qf ?_
 refine wp_seq ?_
 refine Qo hI [Ec 0 9 (Qr Qd X),Ec 1 10 (pI (X.length:Int)),Ec 2 11 (Qr Qd X),Ec 3 12 (Ye 1 false (Qd (X.getD 0 []))),Ec 4 13 (Qd (X.getD 0 [])),Ec 5 14 (pI ((X.getD 0 []).length:Int)),Ec 6 15 (pB false)] [0,1,3,7,15,31,63] (.kkkk .z) ?_ (.dkdd (.dddd (.ddk .z))) fun a w hI=>?_
 ·exact⟨Qa (.tp 0 rfl) (.here 4 rfl),Q4 (.tp 4 rfl) (Xb).under (.here 5 rfl),Qa (.tp 0 rfl) (.here 6 rfl),Qw (.tp 6 rfl) (.const _) Xb (.here 7 rfl),Q7 (.tp 7 rfl) X6 ((Y6 _)) (.here 8 rfl),Q4 (.tp 8 rfl) (Xo).under (.here 9 rfl),Qk (v:=.bool (((X.length:Int) != ((X.getD 0 []).length:Int)))) (.tp 5 rfl) (.tp 9 rfl) (fun _=>rfl) (.at_ 10 _ _ rfl (Y7 ((by rw[hS]; exact bne_self_eq_false _)))),trivial⟩
 refine Yk hI 1 rfl ?_
 refine wp_skip ?_
 refine Qf ?_
 refine Qo hI [Ec 0 2 (pI 0)] [0] (.t 0 (.k .z)) ?_ (.ddk .z) fun a w hI=>?_
 ·exact⟨Qc (.const _) (.here 2 rfl),trivial⟩
 refine wp_ret ?_
 exact Zu hI rfl (.tmp 0 rfl)
end Wx
