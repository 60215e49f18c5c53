import Derived.Test.YtpiniclogfefjaaJSylvester34
namespace Wx
set_option maxRecDepth 100000
open Go Go.RowKit Go.Proofs
set_option linter.unusedVariables false

structure BI where
 k:Nat
 R:List RowL
 H:List Bk
theorem c_turned {A:List (List Rat)} {j:Nat} (h0:0<A.length) (hA:A.length≤1000000) (hn:(A.getD 0 []).length≤1000000) (hr:∀i,i<A.length→(A.getD i []).length=(A.getD 0 []).length) (hb:∀i k,BdR j ((A.getD i []).getD k 0)):∀(M:Nat→Nat→Prop) (w:World) (v0:Value),Mid M w→Box M (fun w=>(Qg 1 false A.length (fun i=>Qd (A.getD i []))) w v0) w→Calls Try.prog 33 #[v0] w (RetB M (Qg 1 false (A.getD 0 []).length (fun i=>Qd ((Qp A).getD i []))) w):=by
 intro M w0 v0 hM hv0
 refine Jz (N:=39) Try.func33 rfl rfl rfl hM (show EntsA M w0 [v0] [⟨none,none,0,Qg 1 false A.length (fun i=>Qd (A.getD i []))⟩]from⟨⟨rfl,_,rfl,hv0⟩,trivial⟩) fun a hI=>?_
 refine Qh hI [] [] [⟨some 0,none,2,Qe ((Value.slice none 0 0))⟩] .z (.k .z) rfl [0] (by kernel_rfl) ?_ .z (.kk .z) fun a w hI=>?_
 ·exact⟨Qc (.const _) (.here 1 rfl),trivial⟩
 refine Vx hI [⟨11,11,some 4,none,.obj,0,0,false,pMade 1 false (A.getD 0 []).length (Z2 (.slice none 0 0)),[]⟩] [] [⟨some 0,none,7,Qg 1 false A.length (fun i=>Qd (A.getD i []))⟩,⟨some 1,none,8,Zc 1 false (Qd (A.getD 0 []))⟩,⟨some 2,none,9,Qd (A.getD 0 [])⟩,⟨some 3,none,10,pI ((A.getD 0 []).length:Int)⟩] .z (.kk .z) rfl [0,1,3,7,15,31] 5 (by kernel_rfl) ?_ (.k .z) (.kkdd (.dd .z)) (fun a w hI=>hI.openMade 0 rfl (by kernel_rfl)) (⟨_,exL fun l hC a w hI=>Jh hI [] [⟨some 0,none,3,Qe (.slice (some ⟨l,0,none⟩) ((A.getD 0 []).length) ((A.getD 0 []).length))⟩] (.k .z) (.kkk .z) (by kernel_rfl) (Qc (.tmp 0 rfl rfl) (.here 3 rfl)) (.k .z) (.dkkk .z),
   rfl⟩) ?_
 ·exact⟨Qa (.tmp 0 rfl rfl) (.here 2 rfl),Xi (.tmp 2 rfl rfl) (.const _) Qx (by omega) (by omega) (by kernel_rfl) (.here 3 rfl),X6 (.tmp 3 rfl rfl) Q1 ((Zf _)) (.here 4 rfl),Yy (.tmp 4 rfl rfl) (Qy).under (.here 5 rfl),Qdt (zv:=.slice none 0 0) (z:=[.slice none 0 0]) 0 rfl rfl rfl rfl rfl (by kernel_rfl) (.tmp 5 rfl rfl) (.tmp 5 rfl rfl) (Qx).under (by kernel_rfl) rfl rfl (by omega) (fun u hu=>by rw[List.mem_singleton.1 hu]; exact Kp _ _ _) (fun _=>rfl) (by omega) (.none (by kernel_rfl)),trivial⟩
 ·rintro a w ⟨g,hC,hI⟩
  have hC:True:=hC
  refine wp_seq ?_
  refine Qh hI [] [] [⟨some 0,none,12,Qe (.slice (some ⟨g,0,none⟩) ((A.getD 0 []).length) ((A.getD 0 []).length))⟩,⟨some 1,none,13,pI ((A.getD 0 []).length:Int)⟩,⟨some 2,none,14,pI 0⟩] (.k .z) (.kkk .z) rfl [0,1,3] (by kernel_rfl) ?_ (.k .z) (.kkkd (.kk .z)) fun a w hI=>?_
  ·exact⟨Qa (.tmp 2 rfl rfl) (.here 3 rfl),Js (.tmp 3 rfl rfl) (Qx).under (.here 4 rfl),Qa (.const _) (.here 5 rfl),trivial⟩
  refine wp_block ?_
  refine Xn (fun(q:BI) a w=>(q.k≤(A.getD 0 []).length∧BldOk g (A.getD 0 []).length q.R (Km A (A.getD 0 []).length q.k 0) q.H)∧Inv ⟨39,w0,M,fun _=>False⟩ [⟨11,11,none,none,.obj,0,0,false,Zj q.H,[]⟩] [] [⟨none,none,0,Qg 1 false A.length (fun i=>Qd (A.getD i []))⟩,⟨none,none,2,Qe ((Value.slice none 0 0))⟩,⟨none,none,3,Qe (.slice (some ⟨g,0,none⟩) ((A.getD 0 []).length) ((A.getD 0 []).length))⟩,⟨none,none,13,pI ((A.getD 0 []).length:Int)⟩,⟨none,none,14,pI (q.k:Int)⟩] Qf a w) (fun(q:BI)=>(A.getD 0 []).length-q.k) (⟨0,List.replicate (A.getD 0 []).length ⟨0,0,0⟩,[⟨g,1,false,List.replicate (A.getD 0 []).length (Z2 (.slice none 0 0))⟩]⟩) ⟨⟨Nat.zero_le _,by have h:=bld_nil g (A.getD 0 []).length; rw[← bldX_zero (A:=A)]at h; exact h⟩,(hI.conv ⟨⟨0,_,_,rfl,⟨rfl,rfl,rfl⟩,rfl,fun _=>(fun _ _ h=>h)⟩,trivial⟩ ⟨⟨rfl,rfl,0,_,rfl,fun _ _ h=>h⟩,⟨rfl,rfl,1,_,rfl,fun _ _ h=>h⟩,⟨rfl,rfl,2,_,rfl,fun _ _ h=>h⟩,⟨rfl,rfl,3,_,rfl,fun _ _ h=>h⟩,⟨rfl,rfl,4,_,rfl,(Xa rfl)⟩,trivial⟩)⟩ ?_
  intro q a w hIk
  obtain⟨⟨hk,hB⟩,hI⟩:=hIk
  refine Qh hI [] [] [⟨some 0,none,15,pB (decide ((q.k:Int)<((A.getD 0 []).length:Int)))⟩] (.k .z) (.kkkk (.k .z)) rfl [0] (by kernel_rfl) ?_ (.k .z) (.kkkk (.kk .z)) fun a w hI=>?_
  ·exact⟨Qo (v:=.bool (decide ((q.k:Int)<((A.getD 0 []).length:Int)))) (.tmp 4 rfl rfl) (.tmp 3 rfl rfl) (fun _=>rfl) (.here 5 rfl),trivial⟩
  refine wp_seq ?_
  refine Xd hI 5 rfl (fun ht=>?_) (fun ht=>?_)
  ·have t1:=of_decide_eq_true ht
   refine wp_skip ?_
   refine Qi ?_
   refine wp_seq ?_
   refine wp_block ?_
   refine Qh hI [] [] [⟨some 0,none,16,pI (q.k:Int)⟩,⟨some 1,none,4,pI (q.k:Int)⟩] (.k .z) (.kkkk (.kk .z)) rfl [0,1] (by kernel_rfl) ?_ (.k .z) (.kkkk (.kddk .z)) fun a w hI=>?_
   ·exact⟨Qa (.tmp 4 rfl rfl) (.here 6 rfl),Qc (.tmp 6 rfl rfl) (.here 7 rfl),trivial⟩
   refine Qh hI [] [] [⟨some 0,none,17,Qg 1 false A.length (fun i=>Qd (A.getD i []))⟩,⟨some 1,none,18,pI (A.length:Int)⟩,⟨some 2,none,19,pI 0⟩] (.k .z) (.kkkk (.kk .z)) rfl [0,1,3] (by kernel_rfl) ?_ (.k .z) (.k8 (.k .z)) fun a w hI=>?_
   ·exact⟨Qa (.tmp 0 rfl rfl) (.here 6 rfl),Yy (.tmp 6 rfl rfl) (Qx).under (.here 7 rfl),Qa (.const _) (.here 8 rfl),trivial⟩
   refine wp_block ?_
   refine Xn (fun(q2:BI) a w=>(q2.k≤A.length∧BldOk g (A.getD 0 []).length q2.R (Km A (A.getD 0 []).length q.k q2.k) q2.H)∧Inv ⟨39,w0,M,fun _=>False⟩ [⟨11,11,none,none,.obj,0,0,false,Zj q2.H,[]⟩] [] [⟨none,none,0,Qg 1 false A.length (fun i=>Qd (A.getD i []))⟩,⟨none,none,2,Qe ((Value.slice none 0 0))⟩,⟨none,none,3,Qe (.slice (some ⟨g,0,none⟩) ((A.getD 0 []).length) ((A.getD 0 []).length))⟩,⟨none,none,13,pI ((A.getD 0 []).length:Int)⟩,⟨none,none,14,pI (q.k:Int)⟩,⟨none,none,4,pI (q.k:Int)⟩,⟨none,none,17,Qg 1 false A.length (fun i=>Qd (A.getD i []))⟩,⟨none,none,18,pI (A.length:Int)⟩,⟨none,none,19,pI (q2.k:Int)⟩] Qf a w) (fun(q2:BI)=>A.length-q2.k) (⟨0,q.R,q.H⟩) ⟨⟨Nat.zero_le _,hB⟩,(hI.conv ⟨⟨0,_,_,rfl,⟨rfl,rfl,rfl⟩,rfl,fun _=>(fun _ _ h=>h)⟩,trivial⟩ ⟨⟨rfl,rfl,0,_,rfl,fun _ _ h=>h⟩,⟨rfl,rfl,1,_,rfl,fun _ _ h=>h⟩,⟨rfl,rfl,2,_,rfl,fun _ _ h=>h⟩,⟨rfl,rfl,3,_,rfl,fun _ _ h=>h⟩,⟨rfl,rfl,4,_,rfl,fun _ _ h=>h⟩,⟨rfl,rfl,5,_,rfl,fun _ _ h=>h⟩,⟨rfl,rfl,6,_,rfl,fun _ _ h=>h⟩,⟨rfl,rfl,7,_,rfl,fun _ _ h=>h⟩,⟨rfl,rfl,8,_,rfl,(Xa rfl)⟩,trivial⟩)⟩ ?_
   intro q2 a w hIk
   obtain⟨⟨hk2,hB2⟩,hI⟩:=hIk
   refine Qh hI [] [] [⟨some 0,none,20,pB (decide ((q2.k:Int)<(A.length:Int)))⟩] (.k .z) (.k8 (.k .z)) rfl [0] (by kernel_rfl) ?_ (.k .z) (.k8 (.kk .z)) fun a w hI=>?_
   ·exact⟨Qo (v:=.bool (decide ((q2.k:Int)<(A.length:Int)))) (.tmp 8 rfl rfl) (.tmp 7 rfl rfl) (fun _=>rfl) (.here 9 rfl),trivial⟩
   refine wp_seq ?_
   refine Xd hI 9 rfl (fun ht=>?_) (fun ht=>?_)
   ·have t2:=of_decide_eq_true ht
    refine wp_skip ?_
    refine Qi ?_
    refine wp_seq ?_
    refine wp_block ?_
    refine Qh hI [] [] [⟨some 0,none,21,Zc 1 false (Qd (A.getD q2.k []))⟩,⟨some 1,none,22,Qd (A.getD q2.k [])⟩,⟨some 2,none,6,Qd (A.getD q2.k [])⟩] (.k .z) (.k8 (.kk .z)) rfl [0,1,3] (by kernel_rfl) ?_ (.k .z) (.k8 (.kddd (.k .z))) fun a w hI=>?_
    ·exact⟨Xi (.tmp 6 rfl rfl) (.tmp 8 rfl rfl) Qx (by omega) (by omega) (by kernel_rfl) (.at_ 10 _ _ rfl (by rw[Int.toNat_natCast]; exact fun _ _ h=>h)),X6 (.tmp 10 rfl rfl) Q1 ((Zf _)) (.here 11 rfl),Qc (.tmp 11 rfl rfl) (.here 12 rfl),trivial⟩
    have hl:=hr q2.k (by omega)
    refine sem_SD hI [⟨34,34,some 11,none,.obj,0,0,false,pApp q2.H (Ut (Q0 q2.R q.k)) ((Km A (A.getD 0 []).length q.k q2.k).getD q.k []) [(A.getD q2.k []).getD q.k 0],[]⟩] [] [⟨some 0,none,23,Qe (.slice (some ⟨g,0,none⟩) ((A.getD 0 []).length) ((A.getD 0 []).length))⟩,⟨some 1,none,24,pI (q.k:Int)⟩,⟨some 2,none,25,Qe (.slice (some ⟨g,0,none⟩) ((A.getD 0 []).length) ((A.getD 0 []).length))⟩,⟨some 3,none,26,pI (q.k:Int)⟩,⟨some 4,none,27,Qe (.pointer (some ⟨g,0+((q.k:Int)).toNat*1,none⟩))⟩,⟨some 5,none,28,Qe (Ut (Q0 q2.R q.k))⟩,⟨some 6,none,29,Qd (A.getD q2.k [])⟩,⟨some 7,none,30,pI (q.k:Int)⟩,⟨some 8,none,31,Zc 3 true (Qk ((A.getD q2.k []).getD q.k 0))⟩,⟨some 9,none,32,Qk ((A.getD q2.k []).getD q.k 0)⟩,⟨some 10,none,33,Qd ([(A.getD q2.k []).getD q.k 0])⟩] (.u (some 11) [] .z) (.k8 (.kk .z)) rfl [0,0,0,0,12,28,0,0,192,448,960,2044,4095,8191] 12 (by kernel_rfl) ?_ (.d (.k .z)) (.k8 (.kdkk (.d8 (.d .z)))) (fun a w hI=>hI.openApp 0 rfl (by kernel_rfl)) (⟨_,exL fun l hC a w hI=>Jh hI [] [⟨some 0,none,35,Qe (.pointer (some ⟨g,0+((q.k:Int)).toNat*1,none⟩))⟩] (.k .z) (.k8 (.kkkk .z)) (by kernel_rfl) (Qs (.tmp 10 rfl rfl) (.tmp 11 rfl rfl) Qx (by omega) (by omega) (by kernel_rfl) (.here 12 rfl)) (.k .z) (.k8 (.kkdd (.k .z))),
      _,exL fun l hC a w hI=>Jh hI [] [] (.u none [(0,Zj (Xs (appH q2.H l.b (Qw ((Km A (A.getD 0 []).length q.k q2.k).getD q.k []++[(A.getD q2.k []).getD q.k 0]) l.cap)) g q.k (Z2 l.hdr)))] .z) (.k8 (.kkk .z)) (by kernel_rfl) (Zx (e:=⟨g,1,false,K3 q2.R⟩) (idx:=q.k) (it:=Z2 l.hdr) 0 rfl rfl rfl (by kernel_rfl) 0 rfl (by kernel_rfl) (by kernel_rfl) rfl (.tmp 10 rfl rfl) (Un hB2.top (hB2.off (by omega) hC.2.2.2)) rfl (by rw[Qej]; have:=hB2.len.1; omega) (show 0+((q.k:Int)).toNat*1=q.k*1 by omega) Q1 (.tmp 0 rfl rfl) (J8 _ _ _)) (.s .o .z) (.dkkk (.kkkk (.kkd .z))),
      rfl⟩) ?_
    ·exact⟨Qa (.tmp 2 rfl rfl) (.here 10 rfl),Qa (.tmp 5 rfl rfl) (.here 11 rfl),Qa (.tmp 2 rfl rfl) (.here 12 rfl),Qa (.tmp 5 rfl rfl) (.here 13 rfl),Qs (.tmp 12 rfl rfl) (.tmp 13 rfl rfl) Qx (by omega) (by omega) (by kernel_rfl) (.here 14 rfl),Q5 (e:=⟨g,1,false,K3 q2.R⟩) (idx:=q.k) 0 rfl rfl rfl (by kernel_rfl) rfl (.tmp 14 rfl rfl) hB2.top rfl (Qei (by have:=hB2.len.1; omega)) (show 0+((q.k:Int)).toNat*1=q.k*1 by omega) Q1 (.here 15 rfl),Qa (.tmp 9 rfl rfl) (.here 16 rfl),Qa (.tmp 5 rfl rfl) (.here 17 rfl),Xi (.tmp 16 rfl rfl) (.tmp 17 rfl rfl) Qy (by omega) (by omega) (by kernel_rfl) (.at_ 18 _ _ rfl (by rw[Int.toNat_natCast]; exact fun _ _ h=>h)),X6 (.tmp 18 rfl rfl) Qr (Xb _) (.here 19 rfl),Qa1 (fs:=List.replicate 1 ⟨true,3,Qk 0⟩) (ps:=[(0,Qk ((A.getD q2.k []).getD q.k 0))]) (gs:=[(A.getD q2.k []).getD q.k 0].map fun q=>⟨true,3,Qk q⟩) Qy Jj rfl rfl rfl (fun w=>Yl w) rfl (show U3 _ _ _ _ _ _ from⟨⟨rfl,(.tmp 19 rfl rfl),_,rfl,Xb _⟩,trivial⟩) rfl (fun i=>Qk ([(A.getD q2.k []).getD q.k 0].getD i 0)) (rats_fd _) (.here 20 rfl),op_appendH 0 rfl rfl rfl rfl (by kernel_rfl) rfl 1 rfl rfl rfl rfl rfl (by kernel_rfl) (.tmp 15 rfl rfl) (.tmp 20 rfl rfl) (hB2.case (by omega)) Qcx Nat.one_pos (by rw[bldX_get (by omega),if_neg (Nat.lt_irrefl _),if_pos rfl,List.length_take]; show _+1≤_; omega) (.none (by kernel_rfl)),trivial⟩
    ·rintro a w ⟨l,hC,hI⟩
     have hC:AppOk q2.H (Ut (Q0 q2.R q.k)) ((Km A (A.getD 0 []).length q.k q2.k).getD q.k []) [(A.getD q2.k []).getD q.k 0] l:=hC
     refine Xw ?_
     refine Qi ?_
     refine Yx hI [] [] [⟨some 0,none,36,pI ((q2.k:Int)+(1:Int))⟩,⟨some 1,none,19,pI ((q2.k:Int)+(1:Int))⟩] (.k .z) (.k8 (.t 1 .z)) rfl [0,1] (by kernel_rfl) ?_ (.k .z) (.k8 (.ddk .z)) fun a w hI=>?_
     ·exact⟨Qo (v:=.int .i64 (IntKind.i64.wrap ((q2.k:Int)+(1:Int)))) (.tmp 8 rfl rfl) (.const _) (fun _=>rfl) (.at_ 9 _ _ rfl (Xe (by omega))),Qa (.tmp 9 rfl rfl) (.here 10 rfl),trivial⟩
     refine Qi ?_
     replace hI:=hI.reobj 11 11 (n0:=0) rfl (by kernel_rfl) (by kernel_rfl)
     exact⟨⟨q2.k+1,q2.R.set q.k l,Xs (appH q2.H l.b (Qw ((Km A (A.getD 0 []).length q.k q2.k).getD q.k []++[(A.getD q2.k []).getD q.k 0]) l.cap)) g q.k (Z2 l.hdr)⟩,⟨⟨by show q2.k+1≤A.length; omega,by have h:=hB2.append (l':=[(A.getD q2.k []).getD q.k 0]) (by omega) Nat.one_pos hC; rw[bldX_step (by omega) (by omega)]at h; exact h⟩,(hI.conv ⟨⟨0,_,_,rfl,⟨rfl,rfl,rfl⟩,rfl,fun _=>fun _ _ h=>h⟩,trivial⟩ ⟨⟨rfl,rfl,0,_,rfl,fun _ _ h=>h⟩,⟨rfl,rfl,1,_,rfl,fun _ _ h=>h⟩,⟨rfl,rfl,2,_,rfl,fun _ _ h=>h⟩,⟨rfl,rfl,3,_,rfl,fun _ _ h=>h⟩,⟨rfl,rfl,4,_,rfl,fun _ _ h=>h⟩,⟨rfl,rfl,5,_,rfl,fun _ _ h=>h⟩,⟨rfl,rfl,6,_,rfl,fun _ _ h=>h⟩,⟨rfl,rfl,7,_,rfl,fun _ _ h=>h⟩,⟨rfl,rfl,8,_,rfl,(Xa (by show((q2.k:Int)+1)=((q2.k+1:Nat):Int); omega))⟩,trivial⟩)⟩,(show A.length-(q2.k+1)<A.length-q2.k by omega)⟩
   ·have t3:=of_decide_eq_false ht
    refine wp_exit ?_
    refine Qz ?_
    refine Qz ?_
    refine Xl ?_
    refine Xw ?_
    refine Qi ?_
    refine Yx hI [] [] [⟨some 0,none,37,pI ((q.k:Int)+(1:Int))⟩,⟨some 1,none,14,pI ((q.k:Int)+(1:Int))⟩] (.k .z) (.kkkk (.t 1 (.kkkk (.k .z)))) rfl [0,1] (by kernel_rfl) ?_ (.k .z) (.kkkk (.dddd (.dddk .z))) fun a w hI=>?_
    ·exact⟨Qo (v:=.int .i64 (IntKind.i64.wrap ((q.k:Int)+(1:Int)))) (.tmp 4 rfl rfl) (.const _) (fun _=>rfl) (.at_ 10 _ _ rfl (Xe (by omega))),Qa (.tmp 10 rfl rfl) (.here 11 rfl),trivial⟩
    refine Qi ?_
    exact⟨⟨q.k+1,q2.R,q2.H⟩,⟨⟨by show q.k+1≤(A.getD 0 []).length; omega,by have h:=hB2; rw[show q2.k=A.length by omega,bldX_next]at h; exact h⟩,(hI.conv ⟨⟨0,_,_,rfl,⟨rfl,rfl,rfl⟩,rfl,fun _=>fun _ _ h=>h⟩,trivial⟩ ⟨⟨rfl,rfl,0,_,rfl,fun _ _ h=>h⟩,⟨rfl,rfl,1,_,rfl,fun _ _ h=>h⟩,⟨rfl,rfl,2,_,rfl,fun _ _ h=>h⟩,⟨rfl,rfl,3,_,rfl,fun _ _ h=>h⟩,⟨rfl,rfl,4,_,rfl,(Xa (by show((q.k:Int)+1)=((q.k+1:Nat):Int); omega))⟩,trivial⟩)⟩,(show(A.getD 0 []).length-(q.k+1)<(A.getD 0 []).length-q.k by omega)⟩
  ·have t4:=of_decide_eq_false ht
   refine wp_exit ?_
   refine Qz ?_
   refine Qz ?_
   refine Xl ?_
   refine Qi ?_
   refine Qh hI [] [] [⟨some 0,none,38,Qe (.slice (some ⟨g,0,none⟩) ((A.getD 0 []).length) ((A.getD 0 []).length))⟩,⟨some 1,none,2,Qe (.slice (some ⟨g,0,none⟩) ((A.getD 0 []).length) ((A.getD 0 []).length))⟩] (.k .z) (.k (.t 1 (.kkkk .z))) rfl [0,1] (by kernel_rfl) ?_ (.k .z) (.dddd (.dddk .z)) fun a w hI=>?_
   ·exact⟨Qa (.tmp 2 rfl rfl) (.here 6 rfl),Qc (.tmp 6 rfl rfl) (.here 7 rfl),trivial⟩
   refine wp_ret ?_
   exact finObj1 hI rfl (n0:=0) rfl (.tmp 0 rfl) (fun B w hH=>by have h:=hB.read (cap:=(A.getD 0 []).length) (Nat.le_refl _) (by unfold maxLen; omega) (fun i hi=>by rw[bldX_get hi,if_pos (by omega),W2]; omega) B w hH; rw[show q.k=(A.getD 0 []).length by omega,bldX_end]at h; exact h)
end Wx

namespace Wx
open Go Go.RowKit Go.Proofs
set_option linter.unusedVariables false

end Wx

namespace Wx
set_option maxRecDepth 100000
open Go Go.RowKit Go.Proofs
set_option linter.unusedVariables false

theorem c_inner {L1 L2:List Rat} {j1 j2:Nat} (h0:0<L1.length) (hl:L1.length≤L2.length) (hm:L1.length≤1000000) (hm2:L2.length≤1000000) (q1:∀k,BdR j1 (L1.getD k 0)) (q2:∀k,BdR j2 (L2.getD k 0)) (hj:Y4 (j1+j2) L1.length≤100000000):∀(M:Nat→Nat→Prop) (w:World) (v0 v1:Value),Mid M w→Box M (fun w=>(Qd L1) w v0) w→Box M (fun w=>(Qd L2) w v1) w→Calls Try.prog 52 #[v0,v1] w (RetB M (Qk (Je L1 L2 L1.length)) w):=by
 intro M w0 v0 v1 hM hv0 hv1
 have B1:j1+j2≤100000000:=by have:=Qd1 (j1+j2) (show 1≤L1.length by omega); have:Y4 (j1+j2) 1=1+(j1+j2)+1+(j1+j2)+1:=rfl; omega
 refine Zq (N:=36) Try.func52 rfl rfl rfl hM (show EntsA M w0 [v0,v1] [⟨none,none,0,Qd L1⟩,⟨none,none,1,Qd L2⟩]from⟨⟨rfl,_,rfl,hv0⟩,⟨rfl,_,rfl,hv1⟩,trivial⟩) fun a hI=>?_
 refine Qh hI [⟨4,4,some 0,none,.ptr,32,3,true,pv (Qk 0),[]⟩] [] [] .z (.kk .z) rfl [0] (by kernel_rfl) ?_ (.k .z) (.kk .z) fun a w hI=>?_
 ·exact⟨J4 0 rfl rfl (by kernel_rfl) (by kernel_rfl) rfl rfl rfl Jj rfl rfl (by simp[Yr]) rfl (fun w=>Yl w),trivial⟩
 refine Qh hI [⟨5,5,some 0,none,.ptr,32,3,true,pv (Qk 0),[]⟩] [] [] (.k .z) (.kk .z) rfl [0] (by kernel_rfl) ?_ (.k (.k .z)) (.kk .z) fun a w hI=>?_
 ·exact⟨J4 1 rfl rfl (by kernel_rfl) (by kernel_rfl) rfl rfl rfl Jj rfl rfl (by simp[Yr]) rfl (fun w=>Yl w),trivial⟩
 refine wp_seq ?_
 refine Qh hI [] [] [⟨some 0,none,8,Qd L1⟩,⟨some 1,none,9,pI (L1.length:Int)⟩,⟨some 2,none,10,pI 0⟩] (.k (.k .z)) (.kk .z) rfl [0,1,3] (by kernel_rfl) ?_ (.k (.k .z)) (.dkkk (.k .z)) fun a w hI=>?_
 ·exact⟨Qa (.tmp 0 rfl rfl) (.here 2 rfl),Yy (.tmp 2 rfl rfl) (Qy).under (.here 3 rfl),Qa (.const _) (.here 4 rfl),trivial⟩
 refine wp_block ?_
 refine Xn (fun(k:Nat) a w=>(k≤L1.length)∧Inv ⟨36,w0,M,fun _=>False⟩ [⟨4,4,none,none,.ptr,32,3,true,pv (Qk 0),[]⟩,⟨5,5,none,none,.ptr,32,3,true,pv (Qk (Je L1 L2 k)),[]⟩] [] [⟨none,none,1,Qd L2⟩,⟨none,none,8,Qd L1⟩,⟨none,none,9,pI (L1.length:Int)⟩,⟨none,none,10,pI (k:Int)⟩] Qf a w) (fun(k:Nat)=>L1.length-k) (0) ⟨Nat.zero_le _,(hI.conv ⟨⟨0,_,_,rfl,⟨rfl,rfl,rfl⟩,rfl,fun _=>fun _ _ h=>h⟩,⟨1,_,_,rfl,⟨rfl,rfl,rfl⟩,rfl,fun _=>(fun _ _ h=>h)⟩,trivial⟩ ⟨⟨rfl,rfl,0,_,rfl,fun _ _ h=>h⟩,⟨rfl,rfl,1,_,rfl,fun _ _ h=>h⟩,⟨rfl,rfl,2,_,rfl,fun _ _ h=>h⟩,⟨rfl,rfl,3,_,rfl,(Xa (by omega))⟩,trivial⟩)⟩ ?_
 intro k a w hIk
 obtain⟨hp,hI⟩:=hIk
 refine Qh hI [] [] [⟨some 0,none,11,pB (decide ((k:Int)<(L1.length:Int)))⟩] (.k (.k .z)) (.kkkk .z) rfl [0] (by kernel_rfl) ?_ (.k (.k .z)) (.kkkk (.k .z)) fun a w hI=>?_
 ·exact⟨Qo (v:=.bool (decide ((k:Int)<(L1.length:Int)))) (.tmp 3 rfl rfl) (.tmp 2 rfl rfl) (fun _=>rfl) (.here 4 rfl),trivial⟩
 refine wp_seq ?_
 refine Xd hI 4 rfl (fun ht=>?_) (fun ht=>?_)
 ·have t1:=of_decide_eq_true ht
  refine wp_skip ?_
  refine Qi ?_
  refine wp_seq ?_
  refine wp_block ?_
  refine Qh hI [⟨7,7,some 3,none,.ptr,32,3,true,pv (Qk 0),[(5,pv (Qk (L1.getD k 0)))]⟩] [] [⟨some 0,none,12,pI (k:Int)⟩,⟨some 1,none,13,Zc 3 true (Qk (L1.getD k 0))⟩,⟨some 2,none,14,Qk (L1.getD k 0)⟩,⟨some 4,none,6,pI (k:Int)⟩] (.k (.k .z)) (.kkkk (.k .z)) rfl [0,1,3,7,15,31] (by kernel_rfl) ?_ (.k (.k (.s .o .z))) (.k8 (.k .z)) fun a w hI=>?_
  ·exact⟨Qa (.tmp 3 rfl rfl) (.here 5 rfl),Xi (.tmp 1 rfl rfl) (.tmp 3 rfl rfl) Qy (by omega) (by omega) (by kernel_rfl) (.at_ 6 _ _ rfl (by rw[Int.toNat_natCast]; exact fun _ _ h=>h)),X6 (.tmp 6 rfl rfl) Qr (Xb _) (.here 7 rfl),J4 2 rfl rfl (by kernel_rfl) (by kernel_rfl) rfl rfl rfl Jj rfl rfl (by simp[Yr]) rfl (fun w=>Yl w),Qc (.tmp 5 rfl rfl) (.here 8 rfl),Zo 2 rfl rfl rfl rfl 0 rfl (by kernel_rfl) (by kernel_rfl) Qr (.tmp 7 rfl rfl) (Xb _),trivial⟩
  refine Qh hI [] [] [⟨some 0,none,15,Qk (L1.getD k 0)⟩,⟨some 1,none,16,pB (decide (L1.getD k 0=0))⟩,⟨some 2,none,17,pB (!(decide (L1.getD k 0=0)))⟩,⟨some 3,none,18,pB (!(decide (L1.getD k 0=0)))⟩,⟨some 4,none,19,Yp ((!(decide (L1.getD k 0=0)))=true) (Qd L2)⟩,⟨some 5,none,20,Yp ((!(decide (L1.getD k 0=0)))=true) (pI (k:Int))⟩,⟨some 6,none,21,Yp ((!(decide (L1.getD k 0=0)))=true) (Zc 3 true (Qk (L2.getD k 0)))⟩,⟨some 7,none,22,Yp ((!(decide (L1.getD k 0=0)))=true) (Qk (L2.getD k 0))⟩,⟨some 8,none,23,Yp ((!(decide (L1.getD k 0=0)))=true) (pB (decide (L2.getD k 0=0)))⟩,⟨some 9,none,24,Yp ((!(decide (L1.getD k 0=0)))=true) (pB (!(decide (L2.getD k 0=0))))⟩,⟨some 10,none,25,pB ((!(decide (L1.getD k 0=0)))&&(!(decide (L2.getD k 0=0))))⟩] (.k (.k (.k .z))) (.k8 (.k .z)) rfl [0,1,3,7,15,31,63,127,255,511,1023] (by kernel_rfl) ?_ (.k (.k (.k .z))) (.k8 (.k8 (.kkkk .z))) fun a w hI=>?_
  ·exact⟨Yg 2 rfl rfl rfl rfl (by kernel_rfl) Qr rfl (.here 9 rfl),Y2 (fun _ _=>by kernel_rfl) (Xt _) (.tmp 9 rfl rfl) (.here 10 rfl) (Uo (L1.getD k 0)),Vw (.tmp 10 rfl rfl) (.here 11 rfl),Qa (.tmp 11 rfl rfl) (.here 12 rfl),Yo 12 rfl rfl (fun hc=>Qa (.tmp 0 rfl rfl) (.sel hc 13 rfl)) (by kernel_rfl) (fun _=>.none (by kernel_rfl)) (fun hc=>.sel_no hc 13 rfl),Yo 12 rfl rfl (fun hc=>Qa (.tmp 8 rfl rfl) (.sel hc 14 rfl)) (by kernel_rfl) (fun _=>.none (by kernel_rfl)) (fun hc=>.sel_no hc 14 rfl),Yo 12 rfl rfl (fun hc=>Xi (.sel (.tmp 13 rfl rfl) hc) (.sel (.tmp 14 rfl rfl) hc) Qy (by omega) (by omega) (by kernel_rfl) (.sel hc 15 rfl)) (by kernel_rfl) (fun _=>.none (by kernel_rfl)) (fun hc=>.sel_no hc 15 rfl),Yo 12 rfl rfl (fun hc=>X6 (.sel (.tmp 15 rfl rfl) hc) Qr (Xb _) (.sel hc 16 rfl)) (by kernel_rfl) (fun _=>.none (by kernel_rfl)) (fun hc=>.sel_no hc 16 rfl),Yo 12 rfl rfl (fun hc=>Y2 (fun _ _=>by kernel_rfl) (Xt _) (.sel (.tmp 16 rfl rfl) hc) (.sel hc 17 rfl) (Uo (L2.getD k 0))) (by kernel_rfl) (fun _=>.none (by kernel_rfl)) (fun hc=>.sel_no hc 17 rfl),Yo 12 rfl rfl (fun hc=>Vw (.sel (.tmp 17 rfl rfl) hc) (.sel hc 18 rfl)) (by kernel_rfl) (fun _=>.none (by kernel_rfl)) (fun hc=>.sel_no hc 18 rfl),Yf (.tmp 12 rfl rfl) (fun h=>.imp (.sel (.tmp 18 rfl rfl) (h)) fun _ _ e=>by rw[h]; exact e) (fun h=>.imp (.const _) fun _ _ e=>by rw[h]; exact e) (.here 19 rfl),trivial⟩
  refine Xd hI 19 rfl (fun ht=>?_) (fun ht=>?_)
  ·have t2:=ht
   refine sem_D hI [] [] [⟨some 0,none,26,Qk (Je L1 L2 k)⟩,⟨some 1,none,27,Qk (L1.getD k 0)⟩,⟨some 2,none,28,Qd L2⟩,⟨some 3,none,29,pI (k:Int)⟩,⟨some 4,none,30,Zc 3 true (Qk (L2.getD k 0))⟩,⟨some 5,none,31,Qk (L2.getD k 0)⟩,⟨some 6,none,32,Qk ((L1.getD k 0)*(L2.getD k 0))⟩,⟨some 7,none,33,Qk ((Je L1 L2 k)+((L1.getD k 0)*(L2.getD k 0)))⟩] (.k (.u none [(8,pv (Qk ((Je L1 L2 k)+((L1.getD k 0)*(L2.getD k 0)))))] (.k .z))) (.k8 (.k8 (.kkkk .z))) rfl [0,0,0,0,12,28,62,127,255] (by kernel_rfl) ?_ (.k (.s .o (.k .z))) (.k8 (.k8 (.k8 (.kkkk .z)))) fun a w hI=>?_
   ·exact⟨Yg 1 rfl rfl rfl rfl (by kernel_rfl) Qr rfl (.here 20 rfl),Yg 2 rfl rfl rfl rfl (by kernel_rfl) Qr rfl (.here 21 rfl),Qa (.tmp 0 rfl rfl) (.here 22 rfl),Qa (.tmp 8 rfl rfl) (.here 23 rfl),Xi (.tmp 22 rfl rfl) (.tmp 23 rfl rfl) Qy (by omega) (by omega) (by kernel_rfl) (.at_ 24 _ _ rfl (by rw[Int.toNat_natCast]; exact fun _ _ h=>h)),X6 (.tmp 24 rfl rfl) Qr (Xb _) (.here 25 rfl),Y6 (fun _ _=>by kernel_rfl) (Xr _) (.tmp 21 rfl rfl) (.tmp 25 rfl rfl) (.here 26 rfl) (c_mul (q1 k) (q2 k) (by omega)),Y6 (fun _ _=>by kernel_rfl) (Xr _) (.tmp 20 rfl rfl) (.tmp 26 rfl rfl) (.here 27 rfl) (c_add (j:=Y4 (j1+j2) k) (k:=j1+j2) (bd_dot q1 q2 k) ((((q1 k)).mul (q2 k))) (by have:=Qd1 (j1+j2) (show k+1≤L1.length by omega); have:Y4 (j1+j2) (k+1)=Y4 (j1+j2) k+(j1+j2)+Y4 (j1+j2) k+(j1+j2)+1:=rfl; omega)),Zo 1 rfl rfl rfl rfl 0 rfl (by kernel_rfl) (by kernel_rfl) Qr (.tmp 27 rfl rfl) (Xb _),trivial⟩
   refine Xw ?_
   refine Qi ?_
   refine Yx hI [] [] [⟨some 0,none,34,pI ((k:Int)+(1:Int))⟩,⟨some 1,none,10,pI ((k:Int)+(1:Int))⟩] (.k (.k (.k .z))) (.kkk (.t 1 (.k8 (.k8 (.k8 .z))))) rfl [0,1] (by kernel_rfl) ?_ (.k (.k (.k .z))) (.kkkd (.k8 (.k8 (.k8 (.kk .z))))) fun a w hI=>?_
   ·exact⟨Qo (v:=.int .i64 (IntKind.i64.wrap ((k:Int)+(1:Int)))) (.tmp 3 rfl rfl) (.const _) (fun _=>rfl) (.at_ 28 _ _ rfl (Xe (by omega))),Qa (.tmp 28 rfl rfl) (.here 29 rfl),trivial⟩
   refine Qi ?_
   exact⟨k+1,⟨(show k+1≤L1.length by omega),(hI.conv ⟨⟨0,_,_,rfl,⟨rfl,rfl,rfl⟩,rfl,fun _=>fun _ _ h=>h⟩,⟨1,_,_,rfl,⟨rfl,rfl,rfl⟩,rfl,fun _=>(fun _ _ h=>h)⟩,trivial⟩ ⟨⟨rfl,rfl,0,_,rfl,fun _ _ h=>h⟩,⟨rfl,rfl,1,_,rfl,fun _ _ h=>h⟩,⟨rfl,rfl,2,_,rfl,fun _ _ h=>h⟩,⟨rfl,rfl,28,_,rfl,(Xa (by omega))⟩,trivial⟩)⟩,(show L1.length-(k+1)<L1.length-k by omega)⟩
  ·have t3:=ht
   refine wp_skip ?_
   refine Xw ?_
   refine Qi ?_
   refine Yx hI [] [] [⟨some 0,none,34,pI ((k:Int)+(1:Int))⟩,⟨some 1,none,10,pI ((k:Int)+(1:Int))⟩] (.k (.k (.k .z))) (.kkk (.t 1 (.k8 (.k8 .z)))) rfl [0,1] (by kernel_rfl) ?_ (.k (.k (.k .z))) (.kkkd (.k8 (.k8 (.kk .z)))) fun a w hI=>?_
   ·exact⟨Qo (v:=.int .i64 (IntKind.i64.wrap ((k:Int)+(1:Int)))) (.tmp 3 rfl rfl) (.const _) (fun _=>rfl) (.at_ 20 _ _ rfl (Xe (by omega))),Qa (.tmp 20 rfl rfl) (.here 21 rfl),trivial⟩
   refine Qi ?_
   exact⟨k+1,⟨(show k+1≤L1.length by omega),(hI.conv ⟨⟨0,_,_,rfl,⟨rfl,rfl,rfl⟩,rfl,fun _=>fun _ _ h=>h⟩,⟨1,_,_,rfl,⟨rfl,rfl,rfl⟩,rfl,fun _=>(fun w v h=>by rw[dot_skip t3]; exact h)⟩,trivial⟩ ⟨⟨rfl,rfl,0,_,rfl,fun _ _ h=>h⟩,⟨rfl,rfl,1,_,rfl,fun _ _ h=>h⟩,⟨rfl,rfl,2,_,rfl,fun _ _ h=>h⟩,⟨rfl,rfl,20,_,rfl,(Xa (by omega))⟩,trivial⟩)⟩,(show L1.length-(k+1)<L1.length-k by omega)⟩
 ·have t4:=of_decide_eq_false ht
  refine wp_exit ?_
  refine Qz ?_
  refine Qz ?_
  refine Xl ?_
  refine Qi ?_
  refine Qh hI [] [] [⟨some 0,none,35,Qk (Je L1 L2 k)⟩] (.u none [(1,pv (Qk (Je L1 L2 k)))] (.k .z)) (.kkkk (.k .z)) rfl [0,1] (by kernel_rfl) ?_ (.s .o (.k .z)) (.dddd (.dd .z)) fun a w hI=>?_
  ·exact⟨Yg 1 rfl rfl rfl rfl (by kernel_rfl) Qr rfl (.here 5 rfl),Zo 0 rfl rfl rfl rfl 0 rfl (by kernel_rfl) (by kernel_rfl) Qr (.tmp 5 rfl rfl) (Xb _),trivial⟩
  refine wp_ret ?_
  exact W5 hI rfl (.imp (.cell 0 rfl rfl rfl rfl Qr rfl) (fun w v h=>by rw[show L1.length=k by omega]; exact h))
end Wx
