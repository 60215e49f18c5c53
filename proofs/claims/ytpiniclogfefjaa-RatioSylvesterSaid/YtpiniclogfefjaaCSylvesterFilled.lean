import Derived.Test.YtpiniclogfefjaaJSylvester43
import Derived.Test.YtpiniclogfefjaaJSylvester39
namespace Wx
set_option maxRecDepth 100000
open Go Go.RowKit Go.Proofs
set_option linter.unusedVariables false

theorem r_filled {L:List Int} {n f:Nat} (h0:0<n) (hn:n≤8) (hf:f≤8) (hL:L.length≤1000000) (h8:∀i,-128≤L.getD i 0∧L.getD i 0≤127):∀(M:Nat→Nat→Prop) (w:World) (v0 v1 v2:Value),Mid M w→Box M (fun w=>(Qg 1 false L.length (fun i=>Qe (.int .i8 (L.getD i 0)))) w v0) w→Box M (fun w=>(pI (n:Int)) w v1) w→Box M (fun w=>(pI (f:Int)) w v2) w→Calls Try.prog 15 #[v0,v1,v2] w (RetO (MatC (Ky L n f)) (MatL.hd n) (fun l=>l.H) w):=by
 intro M w0 v0 v1 v2 hM hv0 hv1 hv2
 refine Jz (N:=55) Try.func15 rfl rfl rfl hM (show EntsA M w0 [v0,v1,v2] [⟨none,none,0,Qg 1 false L.length (fun i=>Qe (.int .i8 (L.getD i 0)))⟩,⟨none,none,1,pI (n:Int)⟩,⟨none,none,2,pI (f:Int)⟩]from⟨⟨rfl,_,rfl,hv0⟩,⟨rfl,_,rfl,hv1⟩,⟨rfl,_,rfl,hv2⟩,trivial⟩) fun a hI=>?_
 refine Qh hI [] [] [⟨some 0,none,6,Qe ((Value.slice none 0 0))⟩] .z (.kkk .z) rfl [0] (by kernel_rfl) ?_ .z (.kkkk .z) fun a w hI=>?_
 ·exact⟨Qc (.const _) (.here 3 rfl),trivial⟩
 refine Vx hI [⟨12,12,some 1,none,.obj,0,0,false,pMade 1 false n (Z2 (.slice none 0 0)),[]⟩] [] [⟨some 0,none,11,pI (n:Int)⟩] .z (.kkkk .z) rfl [0,1,3] 2 (by kernel_rfl) ?_ (.k .z) (.kkkk (.d .z)) (fun a w hI=>hI.openMade 0 rfl (by kernel_rfl)) (⟨_,exL fun l hC a w hI=>Jh hI [] [⟨some 0,none,7,Qe (.slice (some ⟨l,0,none⟩) n n)⟩] (.k .z) (.kkkk (.k .z)) (by kernel_rfl) (Qc (.tmp 0 rfl rfl) (.here 5 rfl)) (.k .z) (.dkkk (.kk .z)),
   rfl⟩) ?_
 ·exact⟨Qa (.tmp 1 rfl rfl) (.here 4 rfl),Qdt (zv:=.slice none 0 0) (z:=[.slice none 0 0]) 0 rfl rfl rfl rfl rfl (by kernel_rfl) (.tmp 4 rfl rfl) (.tmp 4 rfl rfl) (Qx).under (by kernel_rfl) rfl rfl (by omega) (fun u hu=>by rw[List.mem_singleton.1 hu]; exact Kp _ _ _) (fun _=>rfl) (by omega) (.none (by kernel_rfl)),trivial⟩
 ·rintro a w ⟨g,hC,hI⟩
  have hC:True:=hC
  refine wp_seq ?_
  refine Qh hI [] [] [⟨some 0,none,13,pI (n:Int)⟩,⟨some 1,none,14,pI 0⟩] (.k .z) (.kkkk (.k .z)) rfl [0,1] (by kernel_rfl) ?_ (.k .z) (.kkkk (.kkk .z)) fun a w hI=>?_
  ·exact⟨Qa (.tmp 1 rfl rfl) (.here 5 rfl),Qa (.const _) (.here 6 rfl),trivial⟩
  refine wp_block ?_
  refine Xn (fun(q:BI) a w=>(q.k≤n∧BldOk g n q.R (filB L n f q.k) q.H)∧Inv ⟨55,w0,M,fun _=>False⟩ [⟨12,12,none,none,.obj,0,0,false,Zj q.H,[]⟩] [] [⟨none,none,0,Qg 1 false L.length (fun i=>Qe (.int .i8 (L.getD i 0)))⟩,⟨none,none,1,pI (n:Int)⟩,⟨none,none,2,pI (f:Int)⟩,⟨none,none,6,Qe ((Value.slice none 0 0))⟩,⟨none,none,7,Qe (.slice (some ⟨g,0,none⟩) n n)⟩,⟨none,none,13,pI (n:Int)⟩,⟨none,none,14,pI (q.k:Int)⟩] Qf a w) (fun(q:BI)=>n-q.k) (⟨0,List.replicate n ⟨0,0,0⟩,[⟨g,1,false,List.replicate n (Z2 (.slice none 0 0))⟩]⟩) ⟨⟨Nat.zero_le _,by have h:=bld_nil g n; rw[← filB_zero (L:=L) (f:=f)]at h; exact h⟩,(hI.conv ⟨⟨0,_,_,rfl,⟨rfl,rfl,rfl⟩,rfl,fun _=>(fun _ _ h=>h)⟩,trivial⟩ ⟨⟨rfl,rfl,0,_,rfl,fun _ _ h=>h⟩,⟨rfl,rfl,1,_,rfl,fun _ _ h=>h⟩,⟨rfl,rfl,2,_,rfl,fun _ _ h=>h⟩,⟨rfl,rfl,3,_,rfl,fun _ _ h=>h⟩,⟨rfl,rfl,4,_,rfl,fun _ _ h=>h⟩,⟨rfl,rfl,5,_,rfl,fun _ _ h=>h⟩,⟨rfl,rfl,6,_,rfl,(Xa rfl)⟩,trivial⟩)⟩ ?_
  intro q a w hIk
  obtain⟨⟨hk,hB⟩,hI⟩:=hIk
  refine Qh hI [] [] [⟨some 0,none,15,pB (decide ((q.k:Int)<(n:Int)))⟩] (.k .z) (.kkkk (.kkk .z)) rfl [0] (by kernel_rfl) ?_ (.k .z) (.k8 .z) fun a w hI=>?_
  ·exact⟨Qo (v:=.bool (decide ((q.k:Int)<(n:Int)))) (.tmp 6 rfl rfl) (.tmp 5 rfl rfl) (fun _=>rfl) (.here 7 rfl),trivial⟩
  refine wp_seq ?_
  refine Xd hI 7 rfl (fun ht=>?_) (fun ht=>?_)
  ·have t1:=of_decide_eq_true ht
   refine wp_skip ?_
   refine Qi ?_
   refine wp_seq ?_
   refine wp_block ?_
   refine Qh hI [] [] [⟨some 0,none,16,pI (q.k:Int)⟩,⟨some 1,none,8,pI (q.k:Int)⟩] (.k .z) (.k8 .z) rfl [0,1] (by kernel_rfl) ?_ (.k .z) (.kkkk (.kkkd (.dk .z))) fun a w hI=>?_
   ·exact⟨Qa (.tmp 6 rfl rfl) (.here 8 rfl),Qc (.tmp 8 rfl rfl) (.here 9 rfl),trivial⟩
   have hoff:∀r:RowL,(∀e,e∈q.H→e.b≠r.b)→g≠r.b:=fun r h=>h _ hB.top
   refine Vx hI [⟨20,20,some 3,none,.obj,0,0,false,pApp q.H (.slice none 0 0) [] (List.replicate n 0),[]⟩] [] [⟨some 0,none,17,Qe (.slice (some ⟨g,0,none⟩) n n)⟩,⟨some 1,none,18,pI (q.k:Int)⟩,⟨some 2,none,19,pI (n:Int)⟩] (.u (some 3) [] .z) (.k8 .z) rfl [0,1,3,7,15,31] 4 (by kernel_rfl) ?_ (.d (.k .z)) (.k8 (.kkd .z)) (fun a w hI=>hI.openApp 0 rfl (by kernel_rfl)) (⟨_,exL fun l hC a w hI=>Jh hI [] [⟨some 0,none,21,Qe (.pointer (some ⟨g,0+((q.k:Int)).toNat*1,none⟩))⟩] (.k .z) (.k8 (.kkk .z)) (by kernel_rfl) (Qs (.tmp 9 rfl rfl) (.tmp 10 rfl rfl) Qx (by omega) (by omega) (by kernel_rfl) (.here 11 rfl)) (.k .z) (.k8 (.kddk .z)),
     _,exL fun l hC a w hI=>Jh hI [] [] (.u none [(0,Zj (Xs (appH q.H l.b (Qw (List.replicate n 0) l.cap)) g q.k (Z2 l.hdr)))] .z) (.k8 (.kk .z)) (by kernel_rfl) (Zx (e:=⟨g,1,false,K3 q.R⟩) (idx:=q.k) (it:=Z2 l.hdr) 0 rfl rfl rfl (by kernel_rfl) 0 rfl (by kernel_rfl) (by kernel_rfl) rfl (.tmp 9 rfl rfl) (Un hB.top (hoff l (Qdw hC).2)) rfl (by rw[Qej]; have:=hB.len.1; omega) (show 0+((q.k:Int)).toNat*1=q.k*1 by omega) Q1 (.tmp 0 rfl rfl) (J8 _ _ _)) (.s .o .z) (.dkkk (.kkkk (.kd .z))),
     rfl⟩) ?_
   ·exact⟨Qa (.tmp 4 rfl rfl) (.here 8 rfl),Qa (.tmp 7 rfl rfl) (.here 9 rfl),Qa (.tmp 1 rfl rfl) (.here 10 rfl),op_makeSliceH (n:=n) (zv:=.agg #[.bool false,.slice none 0 0,.slice none 0 0]) (z:=[.bool false,.slice none 0 0,.slice none 0 0]) 0 rfl rfl rfl rfl (by kernel_rfl) rfl 1 rfl rfl rfl rfl rfl (by kernel_rfl) (.tmp 10 rfl rfl) (.tmp 10 rfl rfl) (Qy).under (by kernel_rfl) rfl rfl (by simp[Yr]) (fun w=>Yl w) (by omega) (.none (by kernel_rfl)),trivial⟩
   ·rintro a w ⟨l,hC,hI⟩
    have hC:AppOk q.H (.slice none 0 0) [] (List.replicate n 0) l:=hC
    refine Qh hI [] [] [⟨some 0,none,22,pI (n:Int)⟩,⟨some 1,none,23,pI 0⟩] (.k .z) (.k8 .z) rfl [0,1] (by kernel_rfl) ?_ (.k .z) (.k8 (.kk .z)) fun a w hI=>?_
    ·exact⟨Qa (.tmp 1 rfl rfl) (.here 8 rfl),Qa (.const _) (.here 9 rfl),trivial⟩
    refine wp_block ?_
    refine Xn (fun(q2:BI) a w=>(q2.k≤n∧BldOk g n q2.R (filC L n f q.k q2.k) q2.H)∧Inv ⟨55,w0,M,fun _=>False⟩ [⟨20,20,none,none,.obj,0,0,false,Zj q2.H,[]⟩] [] [⟨none,none,0,Qg 1 false L.length (fun i=>Qe (.int .i8 (L.getD i 0)))⟩,⟨none,none,1,pI (n:Int)⟩,⟨none,none,2,pI (f:Int)⟩,⟨none,none,6,Qe ((Value.slice none 0 0))⟩,⟨none,none,7,Qe (.slice (some ⟨g,0,none⟩) n n)⟩,⟨none,none,13,pI (n:Int)⟩,⟨none,none,14,pI (q.k:Int)⟩,⟨none,none,8,pI (q.k:Int)⟩,⟨none,none,22,pI (n:Int)⟩,⟨none,none,23,pI (q2.k:Int)⟩] Qf a w) (fun(q2:BI)=>n-q2.k) (⟨0,q.R.set q.k l,Xs (appH q.H l.b (Qw (List.replicate n 0) l.cap)) g q.k (Z2 l.hdr)⟩) ⟨⟨Nat.zero_le _,by have h:=hB.put (i:=q.k) (l:=List.replicate n 0) (r':=l) (by omega) (by rw[List.length_replicate]; omega) (Qdw hC).1 hC.2.1 hC.2.2.1 (.inr (Qdw hC).2); rw[filB_start (by omega)]at h; exact h⟩,(hI.conv ⟨⟨0,_,_,rfl,⟨rfl,rfl,rfl⟩,rfl,fun _=>(fun _ _ h=>h)⟩,trivial⟩ ⟨⟨rfl,rfl,0,_,rfl,fun _ _ h=>h⟩,⟨rfl,rfl,1,_,rfl,fun _ _ h=>h⟩,⟨rfl,rfl,2,_,rfl,fun _ _ h=>h⟩,⟨rfl,rfl,3,_,rfl,fun _ _ h=>h⟩,⟨rfl,rfl,4,_,rfl,fun _ _ h=>h⟩,⟨rfl,rfl,5,_,rfl,fun _ _ h=>h⟩,⟨rfl,rfl,6,_,rfl,fun _ _ h=>h⟩,⟨rfl,rfl,7,_,rfl,fun _ _ h=>h⟩,⟨rfl,rfl,8,_,rfl,fun _ _ h=>h⟩,⟨rfl,rfl,9,_,rfl,(Xa rfl)⟩,trivial⟩)⟩ ?_
    intro q2 a w hIk
    obtain⟨⟨hk2,hB2⟩,hI⟩:=hIk
    refine Qh hI [] [] [⟨some 0,none,24,pB (decide ((q2.k:Int)<(n:Int)))⟩] (.k .z) (.k8 (.kk .z)) rfl [0] (by kernel_rfl) ?_ (.k .z) (.k8 (.kkk .z)) fun a w hI=>?_
    ·exact⟨Qo (v:=.bool (decide ((q2.k:Int)<(n:Int)))) (.tmp 9 rfl rfl) (.tmp 8 rfl rfl) (fun _=>rfl) (.here 10 rfl),trivial⟩
    refine wp_seq ?_
    refine Xd hI 10 rfl (fun ht=>?_) (fun ht=>?_)
    ·have t2:=of_decide_eq_true ht
     refine wp_skip ?_
     refine Qi ?_
     refine wp_seq ?_
     refine wp_block ?_
     refine Qh hI [] [] [⟨some 0,none,25,pI (q2.k:Int)⟩,⟨some 1,none,9,pI (q2.k:Int)⟩] (.k .z) (.k8 (.kkk .z)) rfl [0,1] (by kernel_rfl) ?_ (.k .z) (.k8 (.kkdd (.k .z))) fun a w hI=>?_
     ·exact⟨Qa (.tmp 9 rfl rfl) (.here 11 rfl),Qc (.tmp 11 rfl rfl) (.here 12 rfl),trivial⟩
     refine Qh hI [] [] [⟨some 0,none,10,pI 0⟩] (.k .z) (.k8 (.kkk .z)) rfl [0] (by kernel_rfl) ?_ (.k .z) (.k8 (.kkkk .z)) fun a w hI=>?_
     ·exact⟨Qc (.const _) (.here 11 rfl),trivial⟩
     refine wp_seq ?_
     refine Qh hI [] [] [⟨some 0,none,26,Qg 1 false L.length (fun i=>Qe (.int .i8 (L.getD i 0)))⟩,⟨some 1,none,27,pI (L.length:Int)⟩,⟨some 2,none,28,pB (decide ((L.length:Int)>(0:Int)))⟩] (.k .z) (.k8 (.kkkk .z)) rfl [0,1,3] (by kernel_rfl) ?_ (.k .z) (.k8 (.kkkk (.ddk .z))) fun a w hI=>?_
     ·exact⟨Qa (.tmp 0 rfl rfl) (.here 12 rfl),Yy (.tmp 12 rfl rfl) (U0).under (.here 13 rfl),Qo (v:=.bool (decide ((L.length:Int)>(0:Int)))) (.tmp 13 rfl rfl) (.const _) (fun _=>rfl) (.here 14 rfl),trivial⟩
     refine wp_joinT (fun a w=>Inv ⟨55,w0,M,fun _=>False⟩ [⟨20,20,none,none,.obj,0,0,false,Zj q2.H,[]⟩] [] [⟨none,none,0,Qg 1 false L.length (fun i=>Qe (.int .i8 (L.getD i 0)))⟩,⟨none,none,1,pI (n:Int)⟩,⟨none,none,2,pI (f:Int)⟩,⟨none,none,6,Qe ((Value.slice none 0 0))⟩,⟨none,none,7,Qe (.slice (some ⟨g,0,none⟩) n n)⟩,⟨none,none,13,pI (n:Int)⟩,⟨none,none,14,pI (q.k:Int)⟩,⟨none,none,8,pI (q.k:Int)⟩,⟨none,none,22,pI (n:Int)⟩,⟨none,none,23,pI (q2.k:Int)⟩,⟨none,none,9,pI (q2.k:Int)⟩,⟨none,none,10,pI (fillZ L (f+n*q.k+q2.k))⟩] Qf a w) ?_ ?_
     ·
      refine Xd hI 12 rfl (fun ht=>?_) (fun ht=>?_)
      ·have t3:=of_decide_eq_true ht
       have hnk:n*q.k≤64:=Nat.le_trans (Nat.mul_le_mul hn (show q.k≤8 by omega)) (by decide)
       have hnk2:((n*q.k:Nat):Int)=(n:Int)*(q.k:Int):=Int.natCast_mul ..
       have hpz:((f:Int)+(n:Int)*(q.k:Int)+(q2.k:Int))=((f+n*q.k+q2.k:Nat):Int):=by rw[Int.natCast_add,Int.natCast_add,hnk2]
       have hmod:=Nat.mod_lt (f+n*q.k+q2.k) (show 0<L.length by have:=t3; omega)
       have hv8:=h8 ((f+n*q.k+q2.k)%L.length)
       refine Yx hI [] [] [⟨some 0,none,29,Qg 1 false L.length (fun i=>Qe (.int .i8 (L.getD i 0)))⟩,⟨some 1,none,30,pI (f:Int)⟩,⟨some 2,none,31,pI (n:Int)⟩,⟨some 3,none,32,pI (q.k:Int)⟩,⟨some 4,none,33,pI ((n:Int)*(q.k:Int))⟩,⟨some 5,none,34,pI ((f:Int)+((n:Int)*(q.k:Int)))⟩,⟨some 6,none,35,pI (q2.k:Int)⟩,⟨some 7,none,36,pI (((f:Int)+((n:Int)*(q.k:Int)))+(q2.k:Int))⟩,⟨some 8,none,37,Qg 1 false L.length (fun i=>Qe (.int .i8 (L.getD i 0)))⟩,⟨some 9,none,38,pI (L.length:Int)⟩,⟨some 10,none,39,pI (((f+n*q.k+q2.k)%L.length:Nat):Int)⟩,⟨some 11,none,40,Zc 1 false (Qe (.int .i8 (L.getD ((f+n*q.k+q2.k)%L.length) 0)))⟩,⟨some 12,none,41,Qe (.int .i8 (L.getD ((f+n*q.k+q2.k)%L.length) 0))⟩,⟨some 13,none,42,pI (L.getD ((f+n*q.k+q2.k)%L.length) 0)⟩,⟨some 14,none,43,pI (((L.getD ((f+n*q.k+q2.k)%L.length) 0)).tmod 10)⟩,⟨some 15,none,10,pI (((L.getD ((f+n*q.k+q2.k)%L.length) 0)).tmod 10)⟩] (.k .z) (.k8 (.kkk (.t 15 (.k .z)))) rfl [0,1,3,7,15,31,63,127,255,511,1023,2047,4095,8191,16383,32767] (by kernel_rfl) ?_ (.k .z) (.k8 (.kkkd (.d8 (.d8 (.k .z))))) fun a w hI=>?_
       ·exact⟨Qa (.tmp 0 rfl rfl) (.here 13 rfl),Qa (.tmp 2 rfl rfl) (.here 14 rfl),Qa (.tmp 1 rfl rfl) (.here 15 rfl),Qa (.tmp 7 rfl rfl) (.here 16 rfl),Qo (v:=.int .i64 (IntKind.i64.wrap ((n:Int)*(q.k:Int)))) (.tmp 15 rfl rfl) (.tmp 16 rfl rfl) (fun _=>rfl) (.at_ 17 _ _ rfl (Xe (by omega))),Qo (v:=.int .i64 (IntKind.i64.wrap ((f:Int)+((n:Int)*(q.k:Int))))) (.tmp 14 rfl rfl) (.tmp 17 rfl rfl) (fun _=>rfl) (.at_ 18 _ _ rfl (Xe (by omega))),Qa (.tmp 10 rfl rfl) (.here 19 rfl),Qo (v:=.int .i64 (IntKind.i64.wrap (((f:Int)+((n:Int)*(q.k:Int)))+(q2.k:Int)))) (.tmp 18 rfl rfl) (.tmp 19 rfl rfl) (fun _=>rfl) (.at_ 20 _ _ rfl (Xe (by omega))),Qa (.tmp 0 rfl rfl) (.here 21 rfl),Yy (.tmp 21 rfl rfl) (U0).under (.here 22 rfl),Qo (.tmp 20 rfl rfl) (.tmp 22 rfl rfl) (bin_rem (by omega)) (.at_ 23 _ _ rfl (Xa (by rw[hpz]; exact(Int.ofNat_tmod _ _).symm))),Xi (.tmp 13 rfl rfl) (.tmp 23 rfl rfl) U0 (by omega) (by omega) (by kernel_rfl) (.at_ 24 _ _ rfl (by rw[Int.toNat_natCast]; exact fun _ _ h=>h)),X6 (.tmp 24 rfl rfl) ty_int8 (fits_i8 _) (.here 25 rfl),op_conv (.tmp 25 rfl rfl) (fun _=>by kernel_rfl) (.at_ 26 _ _ rfl (Xe (by omega))),Qo (.tmp 26 rfl rfl) (.const _) (bin_rem (by decide)) (.here 27 rfl),Qc (.tmp 27 rfl rfl) (.here 28 rfl),trivial⟩
       refine Qi ?_
       exact(hI.conv ⟨⟨0,_,_,rfl,⟨rfl,rfl,rfl⟩,rfl,fun _=>fun _ _ h=>h⟩,trivial⟩ ⟨⟨rfl,rfl,0,_,rfl,fun _ _ h=>h⟩,⟨rfl,rfl,1,_,rfl,fun _ _ h=>h⟩,⟨rfl,rfl,2,_,rfl,fun _ _ h=>h⟩,⟨rfl,rfl,3,_,rfl,fun _ _ h=>h⟩,⟨rfl,rfl,4,_,rfl,fun _ _ h=>h⟩,⟨rfl,rfl,5,_,rfl,fun _ _ h=>h⟩,⟨rfl,rfl,6,_,rfl,fun _ _ h=>h⟩,⟨rfl,rfl,7,_,rfl,fun _ _ h=>h⟩,⟨rfl,rfl,8,_,rfl,fun _ _ h=>h⟩,⟨rfl,rfl,9,_,rfl,fun _ _ h=>h⟩,⟨rfl,rfl,10,_,rfl,fun _ _ h=>h⟩,⟨rfl,rfl,11,_,rfl,(Xa (if_pos (by have:=t3; omega)).symm)⟩,trivial⟩)
      ·have t4:=of_decide_eq_false ht
       refine wp_skip ?_
       refine Qi ?_
       exact(hI.conv ⟨⟨0,_,_,rfl,⟨rfl,rfl,rfl⟩,rfl,fun _=>fun _ _ h=>h⟩,trivial⟩ ⟨⟨rfl,rfl,0,_,rfl,fun _ _ h=>h⟩,⟨rfl,rfl,1,_,rfl,fun _ _ h=>h⟩,⟨rfl,rfl,2,_,rfl,fun _ _ h=>h⟩,⟨rfl,rfl,3,_,rfl,fun _ _ h=>h⟩,⟨rfl,rfl,4,_,rfl,fun _ _ h=>h⟩,⟨rfl,rfl,5,_,rfl,fun _ _ h=>h⟩,⟨rfl,rfl,6,_,rfl,fun _ _ h=>h⟩,⟨rfl,rfl,7,_,rfl,fun _ _ h=>h⟩,⟨rfl,rfl,8,_,rfl,fun _ _ h=>h⟩,⟨rfl,rfl,9,_,rfl,fun _ _ h=>h⟩,⟨rfl,rfl,10,_,rfl,fun _ _ h=>h⟩,⟨rfl,rfl,11,_,rfl,(Xa (if_neg (by have:=t4; omega)).symm)⟩,trivial⟩)
     ·
      intro a w hI
      have hl2:=hB2.len.1
      have hfb:=Qc3 L (f+n*q.k+q2.k)
      have hrn:=hB2.num q.k (by omega)
      rw[filC_at (by omega),J0]at hrn
      have hr0:(Q0 q2.R q.k).n≠0:=by omega
      obtain⟨hc1,hc2,hmem,_⟩:=hB2.rows q.k (by omega) hr0
      rw[filC_at (by omega)]at hmem
      refine sem_D hI [] [] [⟨some 0,none,44,Qe (.slice (some ⟨g,0,none⟩) n n)⟩,⟨some 1,none,45,pI (q.k:Int)⟩,⟨some 2,none,46,Qe (.pointer (some ⟨g,0+((q.k:Int)).toNat*1,none⟩))⟩,⟨some 3,none,47,Qe (.slice (some ⟨(Q0 q2.R q.k).b,0,none⟩) ((Q0 q2.R q.k).n) ((Q0 q2.R q.k).cap))⟩,⟨some 4,none,48,pI (q2.k:Int)⟩,⟨some 5,none,49,pI (fillZ L (f+n*q.k+q2.k))⟩,⟨some 6,none,50,Qk (Kj L n f q.k q2.k)⟩,⟨some 7,none,51,Qe (.pointer (some ⟨(Q0 q2.R q.k).b,0+((q2.k:Int)).toNat*3,none⟩))⟩] (.u none [(8,Zj (Xs q2.H (Q0 q2.R q.k).b q2.k (Zl (Kj L n f q.k q2.k))))] .z) (.k8 (.kkkk .z)) rfl [0,0,3,7,0,0,32,127,255] (by kernel_rfl) ?_ (.s .o .z) (.k8 (.kkdd (.d8 .z))) fun a w hI=>?_
      ·exact⟨Qa (.tmp 4 rfl rfl) (.here 12 rfl),Qa (.tmp 7 rfl rfl) (.here 13 rfl),Qs (.tmp 12 rfl rfl) (.tmp 13 rfl rfl) Qx (by omega) (by omega) (by kernel_rfl) (.here 14 rfl),Q5 (e:=⟨g,1,false,K3 q2.R⟩) (idx:=q.k) 0 rfl rfl rfl (by kernel_rfl) rfl (.tmp 14 rfl rfl) hB2.top rfl (tops0_hdr (by have:=hB2.len.1; omega) hr0) (show 0+((q.k:Int)).toNat*1=q.k*1 by omega) Q1 (.here 15 rfl),Qa (.tmp 10 rfl rfl) (.here 16 rfl),Qa (.tmp 11 rfl rfl) (.here 17 rfl),Y2 (fun _ _=>by kernel_rfl) (Xr _) (.tmp 17 rfl rfl) (.here 18 rfl) (c_int (fillZ L (f+n*q.k+q2.k)) (by omega) (by omega)),Qs (.tmp 15 rfl rfl) (.tmp 16 rfl rfl) Qy (by omega) (by omega) (by kernel_rfl) (.here 19 rfl),Zx (e:=⟨(Q0 q2.R q.k).b,3,true,Qw (Vo L n f q.k q2.k) (Q0 q2.R q.k).cap⟩) (idx:=q2.k) (it:=Zl (Kj L n f q.k q2.k)) 0 rfl rfl rfl (by kernel_rfl) 0 rfl (by kernel_rfl) (by kernel_rfl) rfl (.tmp 19 rfl rfl) hmem rfl (Vd (by rw[J0]; omega)) (show 0+((q2.k:Int)).toNat*3=q2.k*3 by omega) Qr (.tmp 18 rfl rfl) (Xb _),trivial⟩
      refine Xw ?_
      refine Qi ?_
      refine Yx hI [] [] [⟨some 0,none,52,pI ((q2.k:Int)+(1:Int))⟩,⟨some 1,none,23,pI ((q2.k:Int)+(1:Int))⟩] (.k .z) (.k8 (.k (.t 1 .z))) rfl [0,1] (by kernel_rfl) ?_ (.k .z) (.k8 (.kddk .z)) fun a w hI=>?_
      ·exact⟨Qo (v:=.int .i64 (IntKind.i64.wrap ((q2.k:Int)+(1:Int)))) (.tmp 9 rfl rfl) (.const _) (fun _=>rfl) (.at_ 10 _ _ rfl (Xe (by omega))),Qa (.tmp 10 rfl rfl) (.here 11 rfl),trivial⟩
      refine Qi ?_
      exact⟨⟨q2.k+1,q2.R,Xs q2.H (Q0 q2.R q.k).b q2.k (Zl (Kj L n f q.k q2.k))⟩,⟨⟨by show q2.k+1≤n; omega,by have h:=hB2.setItem (i:=q.k) (k:=q2.k) (q:=Kj L n f q.k q2.k) (by omega) (by rw[filC_at (by omega),J0]; omega); rw[filC_step (by omega) (by omega)]at h; exact h⟩,(hI.conv ⟨⟨0,_,_,rfl,⟨rfl,rfl,rfl⟩,rfl,fun _=>fun _ _ h=>h⟩,trivial⟩ ⟨⟨rfl,rfl,0,_,rfl,fun _ _ h=>h⟩,⟨rfl,rfl,1,_,rfl,fun _ _ h=>h⟩,⟨rfl,rfl,2,_,rfl,fun _ _ h=>h⟩,⟨rfl,rfl,3,_,rfl,fun _ _ h=>h⟩,⟨rfl,rfl,4,_,rfl,fun _ _ h=>h⟩,⟨rfl,rfl,5,_,rfl,fun _ _ h=>h⟩,⟨rfl,rfl,6,_,rfl,fun _ _ h=>h⟩,⟨rfl,rfl,7,_,rfl,fun _ _ h=>h⟩,⟨rfl,rfl,8,_,rfl,fun _ _ h=>h⟩,⟨rfl,rfl,9,_,rfl,(Xa (by show((q2.k:Int)+1)=((q2.k+1:Nat):Int); omega))⟩,trivial⟩)⟩,(show n-(q2.k+1)<n-q2.k by omega)⟩
    ·have t5:=of_decide_eq_false ht
     refine wp_exit ?_
     refine Qz ?_
     refine Qz ?_
     refine Xl ?_
     refine Xw ?_
     refine Qi ?_
     refine Yx hI [] [] [⟨some 0,none,53,pI ((q.k:Int)+(1:Int))⟩,⟨some 1,none,14,pI ((q.k:Int)+(1:Int))⟩] (.k .z) (.kkkk (.kk (.t 1 (.kkkk .z)))) rfl [0,1] (by kernel_rfl) ?_ (.k .z) (.kkkk (.kkdd (.dddd (.k .z)))) fun a w hI=>?_
     ·exact⟨Qo (v:=.int .i64 (IntKind.i64.wrap ((q.k:Int)+(1:Int)))) (.tmp 6 rfl rfl) (.const _) (fun _=>rfl) (.at_ 11 _ _ rfl (Xe (by omega))),Qa (.tmp 11 rfl rfl) (.here 12 rfl),trivial⟩
     refine Qi ?_
     replace hI:=hI.reobj 12 12 (n0:=0) rfl (by kernel_rfl) (by kernel_rfl)
     exact⟨⟨q.k+1,q2.R,q2.H⟩,⟨⟨by show q.k+1≤n; omega,by have h:=hB2; rw[show q2.k=n by omega,filC_end]at h; exact h⟩,(hI.conv ⟨⟨0,_,_,rfl,⟨rfl,rfl,rfl⟩,rfl,fun _=>fun _ _ h=>h⟩,trivial⟩ ⟨⟨rfl,rfl,0,_,rfl,fun _ _ h=>h⟩,⟨rfl,rfl,1,_,rfl,fun _ _ h=>h⟩,⟨rfl,rfl,2,_,rfl,fun _ _ h=>h⟩,⟨rfl,rfl,3,_,rfl,fun _ _ h=>h⟩,⟨rfl,rfl,4,_,rfl,fun _ _ h=>h⟩,⟨rfl,rfl,5,_,rfl,fun _ _ h=>h⟩,⟨rfl,rfl,6,_,rfl,(Xa (by show((q.k:Int)+1)=((q.k+1:Nat):Int); omega))⟩,trivial⟩)⟩,(show n-(q.k+1)<n-q.k by omega)⟩
  ·have t6:=of_decide_eq_false ht
   refine wp_exit ?_
   refine Qz ?_
   refine Qz ?_
   refine Xl ?_
   refine Qi ?_
   refine Qh hI [] [] [⟨some 0,none,54,Qe (.slice (some ⟨g,0,none⟩) n n)⟩,⟨some 1,none,6,Qe (.slice (some ⟨g,0,none⟩) n n)⟩] (.k .z) (.kkk (.t 1 (.kkkk .z))) rfl [0,1] (by kernel_rfl) ?_ (.k .z) (.d8 (.dk .z)) fun a w hI=>?_
   ·exact⟨Qa (.tmp 4 rfl rfl) (.here 8 rfl),Qc (.tmp 8 rfl rfl) (.here 9 rfl),trivial⟩
   refine wp_ret ?_
   exact finO1 (⟨g,n,q.R,q.H⟩:MatL) (by have h:=hB.mat (cap:=n) (Nat.le_refl _) (by unfold maxLen; omega) (fun i hi=>by rw[Qbm hi,if_pos (by omega),Qb4]; omega); rw[show q.k=n by omega,filB_end]at h; exact h) hI rfl (n0:=0) rfl (.tmp 0 rfl)
theorem c_filled {L:List Int} {n f:Nat} (h0:0<n) (hn:n≤8) (hf:f≤8) (hL:L.length≤1000000) (h8:∀i,-128≤L.getD i 0∧L.getD i 0≤127):∀(M:Nat→Nat→Prop) (w:World) (v0 v1 v2:Value),Mid M w→Box M (fun w=>(Qg 1 false L.length (fun i=>Qe (.int .i8 (L.getD i 0)))) w v0) w→Box M (fun w=>(pI (n:Int)) w v1) w→Box M (fun w=>(pI (f:Int)) w v2) w→Calls Try.prog 15 #[v0,v1,v2] w (RetB M (Qg 1 false n (fun i=>Qd ((Ky L n f).getD i []))) w):=by
 intro M w v0 v1 v2 hM h1 h2 h3
 exact ret_read hM (r_filled h0 hn hf hL h8 M w v0 v1 v2 hM h1 h2 h3) fun l hC B w hH=>by have h:=Qb5 hH hC (Nat.zero_le _); rw[Qat,Nat.sub_zero]at h; exact Ug rfl (fun i hi w v h=>by rw[Nat.zero_add]at h; exact h) w _ h
end Wx
