import Derived.Test.YtpiniclogfefjaaCSylvesterSyl
namespace Wx
set_option maxRecDepth 100000
open Go Go.RowKit Go.Proofs
set_option linter.unusedVariables false

theorem Qdx {A:List (List Rat)} {α δ J:Nat} (hR:Right A) (hA:Rect A.length A) (hs:Sym A.length (ent A)) (hc:ComM α δ A.length (ent A)) (hJ:cA α A.length≤J∧cD α δ A.length≤J∧J≤10000000):∀(M:Nat→Nat→Prop) (w:World) (v0:Value),Mid M w→Box M (fun w=>(Qg 1 false A.length (fun i=>Qd (A.getD i []))) w v0) w→Calls Try.prog 23 #[v0] w (RetB M (Wi (pI ((inr A.length (ent A)).1:Nat)) (pI ((inr A.length (ent A)).2.1:Nat)) (pI ((inr A.length (ent A)).2.2:Nat)) (pI 0)) w):=by
 intro M w0 v0 hM hv0
 have h0:=hR.rows.1
 have hn8:=hR.rows.2
 have hA0:∀i,i<A.length→0<(A.getD i []).length:=fun i hi=>by rw[hA i hi]; exact h0
 have hAm:∀i,i<A.length→(A.getD i []).length≤1000000:=fun i hi=>by rw[hA i hi]; omega
 refine Jz (N:=72) Try.func23 rfl rfl rfl hM (show EntsA M w0 [v0] [⟨none,none,0,Qg 1 false A.length (fun i=>Qd (A.getD i []))⟩]from⟨⟨rfl,_,rfl,hv0⟩,trivial⟩) fun a hI=>?_
 refine Qh hI [] [] [⟨some 0,none,2,pI 0⟩,⟨some 1,none,3,pI 0⟩,⟨some 2,none,4,pI 0⟩,⟨some 3,none,5,pI 0⟩] .z (.k .z) rfl [0,1,3,7] (by kernel_rfl) ?_ .z (.kkkk (.k .z)) fun a w hI=>?_
 ·exact⟨Qc (.const _) (.here 1 rfl),Qc (.const _) (.here 2 rfl),Qc (.const _) (.here 3 rfl),Qc (.const _) (.here 4 rfl),trivial⟩
 refine wp_seq ?_
 refine Qh hI [] [] [⟨some 0,none,11,Qg 1 false A.length (fun i=>Qd (A.getD i []))⟩,⟨some 1,none,12,pI 0⟩,⟨some 2,none,6,pI 0⟩] .z (.kkkk (.k .z)) rfl [0,1,3] (by kernel_rfl) ?_ .z (.kkkk (.kddk .z)) fun a w hI=>?_
 ·exact⟨Qa (.tmp 0 rfl rfl) (.here 5 rfl),Zn (fun _ _=>by kernel_rfl) (.tmp 5 rfl rfl) (.here 6 rfl) (Qch hR (hA 0 h0)),Qc (.tmp 6 rfl rfl) (.here 7 rfl),trivial⟩
 refine Qh hI [] [] [⟨some 0,none,13,pI 0⟩,⟨some 1,none,14,pB false⟩] .z (.kkkk (.kk .z)) rfl [0,1] (by kernel_rfl) ?_ .z (.kkkk (.kkdk .z)) fun a w hI=>?_
 ·exact⟨Qa (.tmp 5 rfl rfl) (.here 6 rfl),Qo (v:=.bool (false)) (.tmp 6 rfl rfl) (.const _) (fun _=>rfl) (.here 7 rfl),trivial⟩
 refine Zt hI 6 rfl ?_
 refine wp_skip ?_
 refine Qi ?_
 refine wp_seq ?_
 refine Qh hI [] [] [⟨some 0,none,16,Qg 1 false A.length (fun i=>Qd (A.getD i []))⟩,⟨some 1,none,17,pI (A.length:Int)⟩,⟨some 2,none,18,pI 0⟩] .z (.kkkk (.kkk .z)) rfl [0,1,3] (by kernel_rfl) ?_ .z (.kkkk (.kddk (.kk .z))) fun a w hI=>?_
 ·exact⟨Qa (.tmp 0 rfl rfl) (.here 7 rfl),Yy (.tmp 7 rfl rfl) (Qx).under (.here 8 rfl),Qa (.const _) (.here 9 rfl),trivial⟩
 refine wp_block ?_
 refine Xn (fun(i:Nat) a w=>(i≤A.length)∧Inv ⟨72,w0,M,fun _=>False⟩ [] [] [⟨none,none,0,Qg 1 false A.length (fun i=>Qd (A.getD i []))⟩,⟨none,none,2,pI 0⟩,⟨none,none,3,pI 0⟩,⟨none,none,4,pI 0⟩,⟨none,none,16,Qg 1 false A.length (fun i=>Qd (A.getD i []))⟩,⟨none,none,17,pI (A.length:Int)⟩,⟨none,none,18,pI (i:Int)⟩] Qf a w) (fun(i:Nat)=>A.length-i) (0) ⟨Nat.zero_le _,(hI.conv trivial ⟨⟨rfl,rfl,0,_,rfl,fun _ _ h=>h⟩,⟨rfl,rfl,1,_,rfl,fun _ _ h=>h⟩,⟨rfl,rfl,2,_,rfl,fun _ _ h=>h⟩,⟨rfl,rfl,3,_,rfl,fun _ _ h=>h⟩,⟨rfl,rfl,5,_,rfl,fun _ _ h=>h⟩,⟨rfl,rfl,6,_,rfl,fun _ _ h=>h⟩,⟨rfl,rfl,7,_,rfl,(Xa (by omega))⟩,trivial⟩)⟩ ?_
 intro i a w hIk
 obtain⟨hi,hI⟩:=hIk
 refine Qh hI [] [] [⟨some 0,none,19,pB (decide ((i:Int)<(A.length:Int)))⟩] .z (.kkkk (.kkk .z)) rfl [0] (by kernel_rfl) ?_ .z (.k8 .z) fun a w hI=>?_
 ·exact⟨Qo (v:=.bool (decide ((i:Int)<(A.length:Int)))) (.tmp 6 rfl rfl) (.tmp 5 rfl rfl) (fun _=>rfl) (.here 7 rfl),trivial⟩
 refine wp_seq ?_
 refine Xd hI 7 rfl (fun ht=>?_) (fun ht=>?_)
 ·have t1:=of_decide_eq_true ht
  refine wp_skip ?_
  refine Qi ?_
  refine wp_seq ?_
  refine wp_block ?_
  refine Qh hI [] [] [⟨some 0,none,20,pI (i:Int)⟩,⟨some 1,none,21,Zc 1 false (Qd (A.getD i []))⟩,⟨some 2,none,22,Qd (A.getD i [])⟩,⟨some 3,none,7,pI (i:Int)⟩,⟨some 4,none,8,Qd (A.getD i [])⟩] .z (.k8 .z) rfl [0,1,3,7,15] (by kernel_rfl) ?_ .z (.kkkk (.kkkd (.dddk (.k .z)))) fun a w hI=>?_
  ·exact⟨Qa (.tmp 6 rfl rfl) (.here 8 rfl),Xi (.tmp 4 rfl rfl) (.tmp 6 rfl rfl) Qx (by omega) (by omega) (by kernel_rfl) (.at_ 9 _ _ rfl (by rw[Int.toNat_natCast]; exact fun _ _ h=>h)),X6 (.tmp 9 rfl rfl) Q1 ((Zf _)) (.here 10 rfl),Qc (.tmp 8 rfl rfl) (.here 11 rfl),Qc (.tmp 10 rfl rfl) (.here 12 rfl),trivial⟩
  refine Qh hI [] [] [⟨some 0,none,23,pI (i:Int)⟩,⟨some 1,none,24,pI 0⟩] .z (.k8 (.k .z)) rfl [0,1] (by kernel_rfl) ?_ .z (.k8 (.kkk .z)) fun a w hI=>?_
  ·exact⟨Qa (.tmp 7 rfl rfl) (.here 9 rfl),Qa (.const _) (.here 10 rfl),trivial⟩
  refine wp_block ?_
  refine Xn (fun(k:Nat) a w=>(k≤i)∧Inv ⟨72,w0,M,fun _=>False⟩ [] [] [⟨none,none,0,Qg 1 false A.length (fun i=>Qd (A.getD i []))⟩,⟨none,none,2,pI 0⟩,⟨none,none,3,pI 0⟩,⟨none,none,4,pI 0⟩,⟨none,none,16,Qg 1 false A.length (fun i=>Qd (A.getD i []))⟩,⟨none,none,17,pI (A.length:Int)⟩,⟨none,none,18,pI (i:Int)⟩,⟨none,none,7,pI (i:Int)⟩,⟨none,none,8,Qd (A.getD i [])⟩,⟨none,none,23,pI (i:Int)⟩,⟨none,none,24,pI (k:Int)⟩] Qf a w) (fun(k:Nat)=>i-k) (0) ⟨Nat.zero_le _,(hI.conv trivial ⟨⟨rfl,rfl,0,_,rfl,fun _ _ h=>h⟩,⟨rfl,rfl,1,_,rfl,fun _ _ h=>h⟩,⟨rfl,rfl,2,_,rfl,fun _ _ h=>h⟩,⟨rfl,rfl,3,_,rfl,fun _ _ h=>h⟩,⟨rfl,rfl,4,_,rfl,fun _ _ h=>h⟩,⟨rfl,rfl,5,_,rfl,fun _ _ h=>h⟩,⟨rfl,rfl,6,_,rfl,fun _ _ h=>h⟩,⟨rfl,rfl,7,_,rfl,fun _ _ h=>h⟩,⟨rfl,rfl,8,_,rfl,fun _ _ h=>h⟩,⟨rfl,rfl,9,_,rfl,fun _ _ h=>h⟩,⟨rfl,rfl,10,_,rfl,(Xa (by omega))⟩,trivial⟩)⟩ ?_
  intro k a w hIk
  obtain⟨hk,hI⟩:=hIk
  refine Qh hI [] [] [⟨some 0,none,25,pB (decide ((k:Int)<(i:Int)))⟩] .z (.k8 (.kkk .z)) rfl [0] (by kernel_rfl) ?_ .z (.k8 (.kkkk .z)) fun a w hI=>?_
  ·exact⟨Qo (v:=.bool (decide ((k:Int)<(i:Int)))) (.tmp 10 rfl rfl) (.tmp 9 rfl rfl) (fun _=>rfl) (.here 11 rfl),trivial⟩
  refine wp_seq ?_
  refine Xd hI 11 rfl (fun ht=>?_) (fun ht=>?_)
  ·have t2:=of_decide_eq_true ht
   refine wp_skip ?_
   refine Qi ?_
   refine wp_seq ?_
   refine wp_block ?_
   refine Qh hI [] [] [⟨some 0,none,26,pI (k:Int)⟩,⟨some 1,none,9,pI (k:Int)⟩] .z (.k8 (.kkkk .z)) rfl [0,1] (by kernel_rfl) ?_ .z (.k8 (.kkkd (.dk .z))) fun a w hI=>?_
   ·exact⟨Qa (.tmp 10 rfl rfl) (.here 12 rfl),Qc (.tmp 12 rfl rfl) (.here 13 rfl),trivial⟩
   have hli:=hA i (by omega)
   have hlk:=hA k (by omega)
   refine seq_D hI [] [] [⟨some 0,none,27,Qd (A.getD i [])⟩,⟨some 1,none,28,pI (k:Int)⟩,⟨some 2,none,29,Zc 3 true (Qk ((A.getD i []).getD k 0))⟩,⟨some 3,none,30,Qk ((A.getD i []).getD k 0)⟩,⟨some 4,none,31,Qg 1 false A.length (fun i=>Qd (A.getD i []))⟩,⟨some 5,none,32,pI (k:Int)⟩,⟨some 6,none,33,Zc 1 false (Qd (A.getD k []))⟩,⟨some 7,none,34,Qd (A.getD k [])⟩,⟨some 8,none,35,pI (i:Int)⟩,⟨some 9,none,36,Zc 3 true (Qk ((A.getD k []).getD i 0))⟩,⟨some 10,none,37,Qk ((A.getD k []).getD i 0)⟩,⟨some 11,none,38,pB true⟩,⟨some 12,none,39,pB false⟩] .z (.k8 (.kkkk .z)) rfl [0,0,3,7,0,0,48,112,0,496,1008,2047,4095] (by kernel_rfl) ?_ .z (.k8 (.kkkd (.d8 (.dddd (.k .z))))) fun a w hI=>?_
   ·exact⟨Qa (.tmp 8 rfl rfl) (.here 12 rfl),Qa (.tmp 11 rfl rfl) (.here 13 rfl),Xi (.tmp 12 rfl rfl) (.tmp 13 rfl rfl) Qy (by omega) (by omega) (by kernel_rfl) (.at_ 14 _ _ rfl (by rw[Int.toNat_natCast]; exact fun _ _ h=>h)),X6 (.tmp 14 rfl rfl) Qr (Xb _) (.here 15 rfl),Qa (.tmp 0 rfl rfl) (.here 16 rfl),Qa (.tmp 11 rfl rfl) (.here 17 rfl),Xi (.tmp 16 rfl rfl) (.tmp 17 rfl rfl) Qx (by omega) (by omega) (by kernel_rfl) (.at_ 18 _ _ rfl (by rw[Int.toNat_natCast]; exact fun _ _ h=>h)),X6 (.tmp 18 rfl rfl) Q1 ((Zf _)) (.here 19 rfl),Qa (.tmp 7 rfl rfl) (.here 20 rfl),Xi (.tmp 19 rfl rfl) (.tmp 20 rfl rfl) Qy (by omega) (by omega) (by kernel_rfl) (.at_ 21 _ _ rfl (by rw[Int.toNat_natCast]; exact fun _ _ h=>h)),X6 (.tmp 21 rfl rfl) Qr (Xb _) (.here 22 rfl),Y6 (fun _ _=>by kernel_rfl) (Xt _) (.tmp 15 rfl rfl) (.tmp 22 rfl rfl) (.here 23 rfl) (c_known (b:=true) (c_same ((A.getD i []).getD k 0) ((A.getD k []).getD i 0)) (decide_eq_true (show _=_ from hs i k (by omega) (by omega)))),Vw (.tmp 23 rfl rfl) (.here 24 rfl),trivial⟩
   refine Zt hI 11 rfl ?_
   refine wp_skip ?_
   refine Xw ?_
   refine Qi ?_
   refine Yx hI [] [] [⟨some 0,none,40,pI ((k:Int)+(1:Int))⟩,⟨some 1,none,24,pI ((k:Int)+(1:Int))⟩] .z (.k8 (.kk (.t 1 (.k .z)))) rfl [0,1] (by kernel_rfl) ?_ .z (.k8 (.kkdd (.dk .z))) fun a w hI=>?_
   ·exact⟨Qo (v:=.int .i64 (IntKind.i64.wrap ((k:Int)+(1:Int)))) (.tmp 10 rfl rfl) (.const _) (fun _=>rfl) (.at_ 12 _ _ rfl (Xe (by omega))),Qa (.tmp 12 rfl rfl) (.here 13 rfl),trivial⟩
   refine Qi ?_
   exact⟨k+1,⟨(show k+1≤i by omega),(hI.conv trivial ⟨⟨rfl,rfl,0,_,rfl,fun _ _ h=>h⟩,⟨rfl,rfl,1,_,rfl,fun _ _ h=>h⟩,⟨rfl,rfl,2,_,rfl,fun _ _ h=>h⟩,⟨rfl,rfl,3,_,rfl,fun _ _ h=>h⟩,⟨rfl,rfl,4,_,rfl,fun _ _ h=>h⟩,⟨rfl,rfl,5,_,rfl,fun _ _ h=>h⟩,⟨rfl,rfl,6,_,rfl,fun _ _ h=>h⟩,⟨rfl,rfl,7,_,rfl,fun _ _ h=>h⟩,⟨rfl,rfl,8,_,rfl,fun _ _ h=>h⟩,⟨rfl,rfl,9,_,rfl,fun _ _ h=>h⟩,⟨rfl,rfl,10,_,rfl,(Xa (by omega))⟩,trivial⟩)⟩,(show i-(k+1)<i-k by omega)⟩
  ·have t3:=of_decide_eq_false ht
   refine wp_exit ?_
   refine Qz ?_
   refine Qz ?_
   refine Xl ?_
   refine Xw ?_
   refine Qi ?_
   refine Yx hI [] [] [⟨some 0,none,41,pI ((i:Int)+(1:Int))⟩,⟨some 1,none,18,pI ((i:Int)+(1:Int))⟩] .z (.kkkk (.kk (.t 1 (.kkkk (.k .z))))) rfl [0,1] (by kernel_rfl) ?_ .z (.kkkk (.kkdd (.dddd (.dk .z)))) fun a w hI=>?_
   ·exact⟨Qo (v:=.int .i64 (IntKind.i64.wrap ((i:Int)+(1:Int)))) (.tmp 6 rfl rfl) (.const _) (fun _=>rfl) (.at_ 12 _ _ rfl (Xe (by omega))),Qa (.tmp 12 rfl rfl) (.here 13 rfl),trivial⟩
   refine Qi ?_
   exact⟨i+1,⟨(show i+1≤A.length by omega),(hI.conv trivial ⟨⟨rfl,rfl,0,_,rfl,fun _ _ h=>h⟩,⟨rfl,rfl,1,_,rfl,fun _ _ h=>h⟩,⟨rfl,rfl,2,_,rfl,fun _ _ h=>h⟩,⟨rfl,rfl,3,_,rfl,fun _ _ h=>h⟩,⟨rfl,rfl,4,_,rfl,fun _ _ h=>h⟩,⟨rfl,rfl,5,_,rfl,fun _ _ h=>h⟩,⟨rfl,rfl,6,_,rfl,(Xa (by omega))⟩,trivial⟩)⟩,(show A.length-(i+1)<A.length-i by omega)⟩
 ·have t4:=of_decide_eq_false ht
  refine wp_exit ?_
  refine Qz ?_
  refine Qz ?_
  refine Xl ?_
  refine Qi ?_
  refine Vx hI [] [] [⟨some 0,none,42,Qg 1 false A.length (fun i=>Qd (A.getD i []))⟩] .z (.k8 .z) rfl [0,1,3] 1 (by kernel_rfl) ?_ .z (.dkkk (.dddd (.k .z))) (fun a w hI=>hI) (⟨_,fun a w hI=>Qe2 43 (fun _ _=>by kernel_rfl) hI (.tmp 3 rfl rfl) (fun M w v hM hv=>r_copied h0 (by omega) hA0 hAm M w v hM hv) (by kernel_rfl) (by kernel_rfl) (by kernel_rfl),
    _,exL fun l hC a w hI=>Jh hI [] [⟨some 0,none,10,Qe (.slice (some ⟨l.g,0,none⟩) A.length l.cap)⟩] (.k .z) (.kkkk (.k .z)) (by kernel_rfl) (Qc (.tmp 0 rfl rfl) (.here 5 rfl)) (.k .z) (.dkkk (.dk .z)),
    rfl⟩) ?_
  ·exact⟨Qa (.tmp 0 rfl rfl) (.here 8 rfl),trivial⟩
  ·rintro a w ⟨m0,hC,hI⟩
   have hC:MatOk m0.g m0.cap m0.R A m0.H:=hC
   refine wp_seq ?_
   refine wp_block ?_
   refine Xn (fun(q:InL) a w=>(InC A α δ q)∧Inv ⟨72,w0,M,fun _=>False⟩ [⟨43,43,none,none,.obj,0,0,false,Zj q.H,[]⟩] [] [⟨none,none,2,pI (q.pc:Int)⟩,⟨none,none,3,pI (q.nc:Int)⟩,⟨none,none,4,pI 0⟩,⟨none,none,10,Qe (.slice q.A (A.length-q.t) q.cap)⟩] Qf a w) (fun(q:InL)=>A.length-q.t) (⟨0,0,0,some ⟨m0.g,0,none⟩,m0.g,m0.cap,m0.R,A,m0.H⟩) ⟨in_start hA hs hc hC,(hI.conv ⟨⟨0,_,_,rfl,⟨rfl,rfl,rfl⟩,rfl,fun _=>(fun _ _ h=>h)⟩,trivial⟩ ⟨⟨rfl,rfl,0,_,rfl,(Xa rfl)⟩,⟨rfl,rfl,1,_,rfl,(Xa rfl)⟩,⟨rfl,rfl,2,_,rfl,fun _ _ h=>h⟩,⟨rfl,rfl,3,_,rfl,(fun _ _ h=>h)⟩,trivial⟩)⟩ ?_
   intro q a w hIk
   obtain⟨hq,hI⟩:=hIk
   refine wp_seq ?_
   refine Qh hI [] [] [⟨some 0,none,44,Qe (.slice q.A (A.length-q.t) q.cap)⟩,⟨some 1,none,45,pI ((A.length-q.t:Nat):Int)⟩,⟨some 2,none,46,pB (decide (((A.length-q.t:Nat):Int)>(0:Int)))⟩] (.k .z) (.kkkk .z) rfl [0,1,3] (by kernel_rfl) ?_ (.k .z) (.kkkk (.ddk .z)) fun a w hI=>?_
   ·exact⟨Qa (.tmp 3 rfl rfl) (.here 4 rfl),Js (.tmp 4 rfl rfl) (Qx).under (.here 5 rfl),Qo (v:=.bool (decide (((A.length-q.t:Nat):Int)>(0:Int)))) (.tmp 5 rfl rfl) (.const _) (fun _=>rfl) (.here 6 rfl),trivial⟩
   refine Xd hI 4 rfl (fun ht=>?_) (fun ht=>?_)
   ·have t5:=of_decide_eq_true ht
    refine wp_skip ?_
    refine Qi ?_
    refine wp_block ?_
    refine wp_seq ?_
    have hlt:0<A.length-q.t:=by omega
    obtain⟨hqA,hM4⟩:=hq.mat hlt
    rw[hqA]at hI
    have hXl:=hq.len
    have hcn:=hq.cnt
    have hcm:=cA_mono (α:=α) (t:=q.t+1) (n:=A.length) (by omega)
    have hdm:=cD_mono (α:=α) (δ:=δ) (t:=q.t+1) (n:=A.length) (by omega)
    have hca:cA α (q.t+1)=2*(cA α q.t+2)+1:=rfl
    have hcd:cD α δ (q.t+1)=cD α δ q.t+(cA α q.t+2):=rfl
    have hJ4:cA α q.t+1≤J∧cD α δ q.t≤J∧J≤10000000:=⟨by omega,by omega,hJ.2.2⟩
    refine Vx hI [] [] [⟨some 0,none,47,Qe (.slice (some ⟨q.g,0,none⟩) (A.length-q.t) q.cap)⟩] (.k .z) (.kkkk (.k .z)) rfl [0,1,3] 1 (by kernel_rfl) ?_ (.k .z) (.kkkk (.dk .z)) (fun a w hI=>hI) (⟨_,fun a w hI=>U1 (fun _ _=>by kernel_rfl) hI (n0:=0) rfl (.tmp 4 rfl rfl) (fun M B w v1 hM hBM hH h1=>r_lead hM4 hq.rect hq.com hq.sym (by omega) (J:=J) hJ4 M B w v1 hM hBM hH (by rw[hXl]; exact h1)) (by kernel_rfl) (by kernel_rfl) (by kernel_rfl) (by kernel_rfl),
      _,exL fun l hC a w hI=>Jh hI [] [⟨some 0,none,49,pB (!l.b)⟩] (.k .z) (.kkkk (.kk .z)) (by kernel_rfl) (Vw (.tmp 0 rfl rfl) (.here 6 rfl)) (.k .z) (.dkkk (.kdk .z)),
      rfl⟩) ?_
    ·exact⟨Qa (.tmp 3 rfl rfl) (.here 5 rfl),trivial⟩
    ·rintro a w ⟨l1,hC,hI⟩
     have hC:LeadC q.t q.g q.cap (cA α q.t+2) (cD α δ q.t) q.X l1:=hC
     refine Xd hI 4 rfl (fun ht=>?_) (fun ht=>?_)
     ·have t6:=ht
      refine Qh hI [] [] [⟨some 0,none,50,pI (q.pc:Int)⟩,⟨some 1,none,51,pI (q.nc:Int)⟩,⟨some 2,none,52,pI 0⟩,⟨some 3,none,53,Qe (.slice (some ⟨q.g,0,none⟩) (A.length-q.t) q.cap)⟩,⟨some 4,none,54,pI ((A.length-q.t:Nat):Int)⟩,⟨some 5,none,55,pI ((0:Int)+((A.length-q.t:Nat):Int))⟩,⟨some 6,none,2,pI (q.pc:Int)⟩,⟨some 7,none,3,pI (q.nc:Int)⟩,⟨some 8,none,4,pI ((0:Int)+((A.length-q.t:Nat):Int))⟩,⟨some 9,none,5,pI 0⟩] (.k .z) (.t 6 (.t 7 (.t 8 (.kk .z)))) rfl [0,1,3,7,15,31,63,127,255,511] (by kernel_rfl) ?_ (.k .z) (.dddk (.dddd (.dddk (.kkk .z)))) fun a w hI=>?_
      ·exact⟨Qa (.tmp 0 rfl rfl) (.here 5 rfl),Qa (.tmp 1 rfl rfl) (.here 6 rfl),Qa (.tmp 2 rfl rfl) (.here 7 rfl),Qa (.tmp 3 rfl rfl) (.here 8 rfl),Js (.tmp 8 rfl rfl) (Qx).under (.here 9 rfl),Qo (v:=.int .i64 (IntKind.i64.wrap ((0:Int)+((A.length-q.t:Nat):Int)))) (.tmp 7 rfl rfl) (.tmp 9 rfl rfl) (fun _=>rfl) (.at_ 10 _ _ rfl (Xe (by omega))),Qc (.tmp 5 rfl rfl) (.here 11 rfl),Qc (.tmp 6 rfl rfl) (.here 12 rfl),Qc (.tmp 10 rfl rfl) (.here 13 rfl),Qc (.const _) (.here 14 rfl),trivial⟩
      refine wp_ret ?_
      refine X7 ?_
      refine Ze ?_
      refine X7 ?_
      refine Ze ?_
      refine X7 ?_
      exact fin4 hI rfl (.imp (.tmp 1 rfl) (Xa (by rw[(in_none hq hs hC (by have:=t6; simpa using this))]))) (.imp (.tmp 2 rfl) (Xa (by rw[(in_none hq hs hC (by have:=t6; simpa using this))]))) (.imp (.tmp 3 rfl) (Xa (by rw[(in_none hq hs hC (by have:=t6; simpa using this))]; first|rfl|(show _=((A.length-q.t:Nat):Int); omega)))) (.tmp 4 rfl)
     ·have t7:=ht
      refine wp_skip ?_
      refine Qi ?_
      refine wp_seq ?_
      have hlb:l1.b=true:=by have:=t7; simpa using this
      have hC1:LeadC q.t q.g q.cap (cA α q.t+2) (cD α δ q.t) q.X l1:=hC
      obtain⟨m,hm⟩:∃m,q.X.length=m+1:=⟨q.X.length-1,by omega⟩
      have hm1:l1.X.length=m+1:=by rw[hC1.len,hm]
      obtain⟨r0,hr0⟩:=hC1.mat.get (i:=0) (by omega)
      have hf0:=hC1.mat.fit _ _ hr0
      have hl0:(l1.X.getD 0 []).length=q.t+q.X.length:=hC1.rect 0 (by omega)
      have hx0:(l1.X.getD 0 []).getD q.t 0≠0:=(hC1.yes hlb).1
      have hJ5:cA α q.t+2≤J∧cD α δ q.t≤J∧J≤10000000:=⟨by omega,by omega,hJ.2.2⟩
      refine Qh hI [] [] [⟨some 0,none,56,Qe (.slice (some ⟨q.g,0,none⟩) (A.length-q.t) q.cap)⟩,⟨some 1,none,57,Qe (.pointer (some ⟨q.g,0+((0:Int)).toNat*1,none⟩))⟩,⟨some 2,none,58,Qe (.slice (some ⟨r0.b,q.t*3,none⟩) (r0.n-q.t) (r0.cap-q.t))⟩,⟨some 3,none,59,Qe (.pointer (some ⟨r0.b,q.t*3+((0:Int)).toNat*3,none⟩))⟩,⟨some 4,none,60,Qk ((l1.X.getD 0 []).getD q.t 0)⟩,⟨some 5,none,61,pI (Yj ((l1.X.getD 0 []).getD q.t 0))⟩,⟨some 6,none,62,pB (decide ((Yj ((l1.X.getD 0 []).getD q.t 0))>(0:Int)))⟩] (.k .z) (.kkkk (.k .z)) rfl [0,1,3,7,15,31,63] (by kernel_rfl) ?_ (.k .z) (.kkkk (.dddd (.dddk .z))) fun a w hI=>?_
      ·exact⟨Qa (.tmp 3 rfl rfl) (.here 5 rfl),Qs (.tmp 5 rfl rfl) (.const _) Qx (by omega) (by omega) (by kernel_rfl) (.here 6 rfl),Q5 (e:=⟨q.g,1,false,Y3 q.t l1.R⟩) (idx:=0) 0 rfl rfl rfl (by kernel_rfl) rfl (.tmp 6 rfl rfl) hC.mat.top rfl (Zz hr0) (show 0+((0:Int)).toNat*1=(0)*1 by omega) Q1 (.here 7 rfl),Qs (.tmp 7 rfl rfl) (.const _) Qy (by omega) (by omega) (by kernel_rfl) (.here 8 rfl),Q5 (e:=⟨r0.b,3,true,Qw (l1.X.getD 0 []) r0.cap⟩) (idx:=q.t) 0 rfl rfl rfl (by kernel_rfl) rfl (.tmp 8 rfl rfl) (hC.mat.rows _ _ hr0) rfl (X5 (by omega)) (show q.t*3+((0:Int)).toNat*3=(q.t)*3 by omega) Qr (.here 9 rfl),Y2 (fun _ _=>by kernel_rfl) (Xt _) (.tmp 9 rfl rfl) (.here 10 rfl) (c_sign _),Qo (v:=.bool (decide ((Yj ((l1.X.getD 0 []).getD q.t 0))>(0:Int)))) (.tmp 10 rfl rfl) (.const _) (fun _=>rfl) (.here 11 rfl),trivial⟩
      refine Xd hI 4 rfl (fun ht=>?_) (fun ht=>?_)
      ·have t8:=of_decide_eq_true ht
       refine Yx hI [] [] [⟨some 0,none,63,pI (q.pc:Int)⟩,⟨some 1,none,64,pI ((q.pc:Int)+(1:Int))⟩,⟨some 2,none,2,pI ((q.pc:Int)+(1:Int))⟩] (.k .z) (.t 2 (.kkkk .z)) rfl [0,1,3] (by kernel_rfl) ?_ (.k .z) (.dkkk (.dddk .z)) fun a w hI=>?_
       ·exact⟨Qa (.tmp 0 rfl rfl) (.here 5 rfl),Qo (v:=.int .i64 (IntKind.i64.wrap ((q.pc:Int)+(1:Int)))) (.tmp 5 rfl rfl) (.const _) (fun _=>rfl) (.at_ 6 _ _ rfl (Xe (by omega))),Qc (.tmp 6 rfl rfl) (.here 7 rfl),trivial⟩
       refine Qi ?_
       refine Qbw hI [] [] [⟨some 0,none,67,Qe (.slice (some ⟨q.g,0,none⟩) (A.length-q.t) q.cap)⟩] (.k .z) (.kkkk .z) rfl [0,1,3] 1 (by kernel_rfl) ?_ (.k .z) (.kkdk (.k .z)) (fun a w hI=>hI) (⟨_,fun a w hI=>U1 (fun _ _=>by kernel_rfl) hI (n0:=0) rfl (.tmp 3 rfl rfl) (fun M B w v1 hM hBM hH h1=>r_rest hC1.mat (by rw[hC1.len]; exact hC1.rect) (by rw[hC1.len]; exact hC1.com) (by rw[hC1.len]; omega) hm1 hx0 (J:=J) hJ5 M B w v1 hM hBM hH (by rw[hC1.len,hXl]; exact h1)) (by kernel_rfl) (by kernel_rfl) (by kernel_rfl) (by kernel_rfl),
         _,exL fun l hC a w hI=>Jh hI [] [⟨some 0,none,10,Qe (.slice l.A m l.cap)⟩] (.k .z) (.kkkk (.k .z)) (by kernel_rfl) (Qc (.tmp 0 rfl rfl) (.here 5 rfl)) (.k .z) (.dkkk (.dk .z)),
         rfl⟩) ?_
       ·exact⟨Qa (.tmp 2 rfl rfl) (.here 4 rfl),trivial⟩
       ·rintro a w ⟨l2,hC,hI⟩
        have hC:RestC q.t m (cA α q.t+2) (cD α δ q.t) l1.X l2:=hC
        refine Xw ?_
        refine Qi ?_
        exact⟨⟨q.t+1,q.pc+1,q.nc,l2.A,l2.g,l2.cap,l2.R,l2.X,l2.H⟩,⟨(in_step hq hC1 hlb hm hC).1 (sgn_pos (decide_eq_true t8)),(hI.conv ⟨⟨0,_,_,rfl,⟨rfl,rfl,rfl⟩,rfl,fun _=>(fun _ _ h=>h)⟩,trivial⟩ ⟨⟨rfl,rfl,2,_,rfl,(Xa (by show((q.pc:Int)+1)=((q.pc+1:Nat):Int); omega))⟩,⟨rfl,rfl,0,_,rfl,(fun _ _ h=>h)⟩,⟨rfl,rfl,1,_,rfl,fun _ _ h=>h⟩,⟨rfl,rfl,3,_,rfl,(fun w v h=>by show Qe (.slice l2.A (A.length-(q.t+1)) l2.cap) w v; rw[show A.length-(q.t+1)=m by omega]; exact h)⟩,trivial⟩)⟩,(show A.length-(q.t+1)<A.length-q.t by omega)⟩
      ·have t9:=of_decide_eq_false ht
       refine Yx hI [] [] [⟨some 0,none,65,pI (q.nc:Int)⟩,⟨some 1,none,66,pI ((q.nc:Int)+(1:Int))⟩,⟨some 2,none,3,pI ((q.nc:Int)+(1:Int))⟩] (.k .z) (.k (.t 2 (.kkk .z))) rfl [0,1,3] (by kernel_rfl) ?_ (.k .z) (.kdkk (.dddk .z)) fun a w hI=>?_
       ·exact⟨Qa (.tmp 1 rfl rfl) (.here 5 rfl),Qo (v:=.int .i64 (IntKind.i64.wrap ((q.nc:Int)+(1:Int)))) (.tmp 5 rfl rfl) (.const _) (fun _=>rfl) (.at_ 6 _ _ rfl (Xe (by omega))),Qc (.tmp 6 rfl rfl) (.here 7 rfl),trivial⟩
       refine Qi ?_
       refine Qbw hI [] [] [⟨some 0,none,67,Qe (.slice (some ⟨q.g,0,none⟩) (A.length-q.t) q.cap)⟩] (.k .z) (.kkkk .z) rfl [0,1,3] 1 (by kernel_rfl) ?_ (.k .z) (.kkdk (.k .z)) (fun a w hI=>hI) (⟨_,fun a w hI=>U1 (fun _ _=>by kernel_rfl) hI (n0:=0) rfl (.tmp 3 rfl rfl) (fun M B w v1 hM hBM hH h1=>r_rest hC1.mat (by rw[hC1.len]; exact hC1.rect) (by rw[hC1.len]; exact hC1.com) (by rw[hC1.len]; omega) hm1 hx0 (J:=J) hJ5 M B w v1 hM hBM hH (by rw[hC1.len,hXl]; exact h1)) (by kernel_rfl) (by kernel_rfl) (by kernel_rfl) (by kernel_rfl),
         _,exL fun l hC a w hI=>Jh hI [] [⟨some 0,none,10,Qe (.slice l.A m l.cap)⟩] (.k .z) (.kkkk (.k .z)) (by kernel_rfl) (Qc (.tmp 0 rfl rfl) (.here 5 rfl)) (.k .z) (.dkkk (.dk .z)),
         rfl⟩) ?_
       ·exact⟨Qa (.tmp 2 rfl rfl) (.here 4 rfl),trivial⟩
       ·rintro a w ⟨l2,hC,hI⟩
        have hC:RestC q.t m (cA α q.t+2) (cD α δ q.t) l1.X l2:=hC
        refine Xw ?_
        refine Qi ?_
        exact⟨⟨q.t+1,q.pc,q.nc+1,l2.A,l2.g,l2.cap,l2.R,l2.X,l2.H⟩,⟨(in_step hq hC1 hlb hm hC).2 (sgn_neg (decide_eq_false t9) hx0),(hI.conv ⟨⟨0,_,_,rfl,⟨rfl,rfl,rfl⟩,rfl,fun _=>(fun _ _ h=>h)⟩,trivial⟩ ⟨⟨rfl,rfl,0,_,rfl,(fun _ _ h=>h)⟩,⟨rfl,rfl,2,_,rfl,(Xa (by show((q.nc:Int)+1)=((q.nc+1:Nat):Int); omega))⟩,⟨rfl,rfl,1,_,rfl,fun _ _ h=>h⟩,⟨rfl,rfl,3,_,rfl,(fun w v h=>by show Qe (.slice l2.A (A.length-(q.t+1)) l2.cap) w v; rw[show A.length-(q.t+1)=m by omega]; exact h)⟩,trivial⟩)⟩,(show A.length-(q.t+1)<A.length-q.t by omega)⟩
   ·have t10:=of_decide_eq_false ht
    refine wp_exit ?_
    refine Qz ?_
    refine Qz ?_
    refine Xl ?_
    refine Qi ?_
    refine Qh hI [] [] [⟨some 0,none,69,pI (q.pc:Int)⟩,⟨some 1,none,70,pI (q.nc:Int)⟩,⟨some 2,none,71,pI 0⟩,⟨some 3,none,2,pI (q.pc:Int)⟩,⟨some 4,none,3,pI (q.nc:Int)⟩,⟨some 5,none,4,pI 0⟩,⟨some 6,none,5,pI 0⟩] (.k .z) (.t 3 (.t 4 (.t 5 (.kk .z)))) rfl [0,1,3,7,15,31,63] (by kernel_rfl) ?_ (.k .z) (.d8 (.kkkk .z)) fun a w hI=>?_
    ·exact⟨Qa (.tmp 0 rfl rfl) (.here 5 rfl),Qa (.tmp 1 rfl rfl) (.here 6 rfl),Qa (.tmp 2 rfl rfl) (.here 7 rfl),Qc (.tmp 5 rfl rfl) (.here 8 rfl),Qc (.tmp 6 rfl rfl) (.here 9 rfl),Qc (.tmp 7 rfl rfl) (.here 10 rfl),Qc (.const _) (.here 11 rfl),trivial⟩
    refine wp_ret ?_
    exact fin4 hI rfl (.imp (.tmp 0 rfl) (Xa (by rw[(in_end hq hs (by omega))]))) (.imp (.tmp 1 rfl) (Xa (by rw[(in_end hq hs (by omega))]))) (.imp (.tmp 2 rfl) (Xa (by rw[(in_end hq hs (by omega))]; first|rfl|(show _=((A.length-q.t:Nat):Int); omega)))) (.tmp 3 rfl)
end Wx
