import Derived.Test.YtpiniclogfefjaaGreatJMatrices38
import Derived.Test.YtpiniclogfefjaaGreatJMatrices27
import Derived.Test.YtpiniclogfefjaaGreatCMatricesMatrix
namespace Wx
open Go Go.RowKit Go.Proofs

end Wx

namespace Wx
open Go Go.RowKit Go.Proofs

end Wx

namespace Wx
open Go Go.RowKit Go.Proofs

end Wx

namespace Wx
open Go Go.RowKit Go.Proofs

theorem cn_add {x y:Rat} {j k:Nat} (hx:BdR j x) (hy:BdR k y) (h:j+k+j+k+1≤10000000):∀w v1 v2,Qz x w v1→Qz y w v2→Calls Tryz.prog 51 #[v1,v2] w (Kj (Qz (x+y)) w):=
 fun w v1 v2 h1 h2=>nadd_num w v1 v2 x y h1 h2 hx hy h
theorem cn_mul {x y:Rat} {j k:Nat} (hx:BdR j x) (hy:BdR k y) (h:j+k≤10000000):∀w v1 v2,Qz x w v1→Qz y w v2→Calls Tryz.prog 52 #[v1,v2] w (Kj (Qz (x*y)) w):=
 fun w v1 v2 h1 h2=>nmul_num w v1 v2 x y h1 h2 hx hy h
theorem cn_neg (x:Rat):∀w v1,Qz x w v1→Calls Tryz.prog 83 #[v1] w (Kj (Qz (-x)) w):=fun w v1 h1=>nneg_num w v1 x h1
theorem Qcf (n:Int) (h1:-9223372036854775808≤n) (h2:n≤9223372036854775807):∀w v1,pI n w v1→Calls Tryz.prog 60 #[v1] w (Kj (Qz (n:Rat)) w):=fun w v1 h=>by
 have h:v1=.int .i64 n:=h
 rw[h]
 exact nint_num w n h1 h2
theorem c_is {x y:Rat} {j:Nat} (hx:BdR j x) (hj:j≤100000000) (h:x=y):∀w v1 v2,Qq x w v1→Qz y w v2→Calls Tryz.prog 23 #[v1,v2] w (Kj (pB true) w):=fun w v1 v2 h1 h2=>by
 subst h
 exact(is_yes w v1 v2 x h1 h2 hx hj).mono fun _ _=>ret_is
end Wx

namespace Wx
set_option maxRecDepth 100000
open Go Go.RowKit Go.Proofs
set_option linter.unusedVariables false

structure BI where
 k:Nat
 R:List RowL
 H:List Bk
theorem c_turned {A:List (List Rat)} {j:Nat} (h0:0<A.length) (hA:A.length≤1000000) (hn:(A.getD 0 []).length≤1000000) (hr:∀i,i<A.length→(A.getD i []).length=(A.getD 0 []).length) (hb:∀i k,BdR j ((A.getD i []).getD k 0)):∀(M:Nat→Nat→Prop) (w:World) (v0:Value),Mid M w→Box M (fun w=>(Qr Qd A) w v0) w→Calls Tryz.prog 53 #[v0] w (RetB M (Qj 1 false (A.getD 0 []).length (fun i=>Qd ((Xu A).getD i []))) w):=by
 intro M w0 v0 hM hv0
 refine J1 (N:=39) Tryz.func53 rfl rfl rfl hM (show EntsA M w0 [v0] [Ez 0 (Qr Qd A)]from⟨⟨rfl,_,rfl,hv0⟩,trivial⟩) fun a hI=>?_
 refine Qo hI [Ec 0 2 (Qs ((Value.slice none 0 0)))] [0] (.k .z) ?_ (.kk .z) fun a w hI=>?_
 ·exact⟨Qc (.const _) (.here 1 rfl),trivial⟩
 refine Qc7 hI [⟨11,11,some 4,none,.obj,0,0,false,pMade 1 false (A.getD 0 []).length (Kp (.slice none 0 0)),[]⟩] [] [Ec 0 7 (Qr Qd A),Ec 1 8 (Ye 1 false (Qd (A.getD 0 []))),Ec 2 9 (Qd (A.getD 0 [])),Ec 3 10 (pI ((A.getD 0 []).length:Int))] .z (.kk .z) rfl [0,1,3,7,15,31] 5 (by kernel_rfl) ?_ (.k .z) (.kkdd (.dd .z)) (fun a w hI=>hI.openMade 0 rfl (by kernel_rfl)) (⟨_,exL fun l hC a w hI=>Vj hI [] [Ec 0 3 (Qs (.slice (some ⟨l,0,none⟩) ((A.getD 0 []).length) ((A.getD 0 []).length)))] (.k .z) (.kkk .z) (by kernel_rfl) (Qc (.tp 0 rfl) (.here 3 rfl)) (.k .z) (.dkkk .z),
   rfl⟩) ?_
 ·exact⟨Qa (.tp 0 rfl) (.here 2 rfl),Qw (.tp 2 rfl) (.const _) Xb (.here 3 rfl),Q7 (.tp 3 rfl) X6 ((Y6 _)) (.here 4 rfl),Q4 (.tp 4 rfl) (Xo).under (.here 5 rfl),Qez (zv:=.slice none 0 0) (z:=[.slice none 0 0]) 0 rfl rfl rfl rfl rfl (by kernel_rfl) (.tp 5 rfl) (.tp 5 rfl) (Xb).under (by kernel_rfl) rfl rfl (by omega) (fun u hu=>by rw[List.mem_singleton.1 hu]; exact J7 _ _ _) (fun _=>rfl) (by omega) (.none (by kernel_rfl)),trivial⟩
 ·rintro a w ⟨g,hC,hI⟩
  have hC:True:=hC
  refine wp_seq ?_
  refine Ql hI [] [Ec 0 12 (Qs (.slice (some ⟨g,0,none⟩) ((A.getD 0 []).length) ((A.getD 0 []).length))),Ec 1 13 (pI ((A.getD 0 []).length:Int)),Ec 2 14 (pI 0)] [0,1,3] (.k .z) (.kkk .z) ?_ (.k .z) (.kkkd (.kk .z)) fun a w hI=>?_
  ·exact⟨Qa (.tp 2 rfl) (.here 3 rfl),Qep (.tp 3 rfl) (Xb).under (.here 4 rfl),Qa (.const _) (.here 5 rfl),trivial⟩
  refine wp_block ?_
  refine Xz (fun(q:BI) a w=>(q.k≤(A.getD 0 []).length∧BldOk g (A.getD 0 []).length q.R (Wk A (A.getD 0 []).length q.k 0) q.H)∧Inv ⟨39,w0,M,fun _=>False⟩ [⟨11,11,none,none,.obj,0,0,false,Kl q.H,[]⟩] [] [Ez 0 (Qr Qd A),Ez 2 (Qs ((Value.slice none 0 0))),Ez 3 (Qs (.slice (some ⟨g,0,none⟩) ((A.getD 0 []).length) ((A.getD 0 []).length))),Ez 13 (pI ((A.getD 0 []).length:Int)),Ez 14 (pI (q.k:Int))] Qi a w) (fun(q:BI)=>(A.getD 0 []).length-q.k) (⟨0,List.replicate (A.getD 0 []).length ⟨0,0,0⟩,[⟨g,1,false,List.replicate (A.getD 0 []).length (Kp (.slice none 0 0))⟩]⟩) ⟨⟨Nat.zero_le _,by have h:=bld_nil g (A.getD 0 []).length; rw[← bldX_zero (A:=A)]at h; exact h⟩,(hI.conv ⟨⟨0,_,_,rfl,⟨rfl,rfl,rfl⟩,rfl,fun _=>(fun _ _ h=>h)⟩,trivial⟩ ⟨Qp 0 rfl,Qp 1 rfl,Qp 2 rfl,Qp 3 rfl,⟨rfl,rfl,4,_,rfl,(Xc rfl)⟩,trivial⟩)⟩ ?_
  intro q a w hIk
  obtain⟨⟨hk,hB⟩,hI⟩:=hIk
  refine Ql hI [] [Ec 0 15 (pB (decide ((q.k:Int)<((A.getD 0 []).length:Int))))] [0] (.k .z) (.kkkk (.k .z)) ?_ (.k .z) (.kkkk (.kk .z)) fun a w hI=>?_
  ·exact⟨Qk (v:=.bool (decide ((q.k:Int)<((A.getD 0 []).length:Int)))) (.tp 4 rfl) (.tp 3 rfl) (fun _=>rfl) (.here 5 rfl),trivial⟩
  refine wp_seq ?_
  refine Xm hI 5 rfl (fun ht=>?_) (fun ht=>?_)
  ·have t1:=of_decide_eq_true ht
   refine wp_skip ?_
   refine Qf ?_
   refine wp_seq ?_
   refine wp_block ?_
   refine Ql hI [] [Ec 0 16 (pI (q.k:Int)),Ec 1 4 (pI (q.k:Int))] [0,1] (.k .z) (.kkkk (.kk .z)) ?_ (.k .z) (.kkkk (.kddk .z)) fun a w hI=>?_
   ·exact⟨Qa (.tp 4 rfl) (.here 6 rfl),Qc (.tp 6 rfl) (.here 7 rfl),trivial⟩
   refine Ql hI [] [Ec 0 17 (Qr Qd A),Ec 1 18 (pI (A.length:Int)),Ec 2 19 (pI 0)] [0,1,3] (.k .z) (.kkkk (.kk .z)) ?_ (.k .z) (.k8 (.k .z)) fun a w hI=>?_
   ·exact⟨Qa (.tp 0 rfl) (.here 6 rfl),Q4 (.tp 6 rfl) (Xb).under (.here 7 rfl),Qa (.const _) (.here 8 rfl),trivial⟩
   refine wp_block ?_
   refine Xz (fun(q2:BI) a w=>(q2.k≤A.length∧BldOk g (A.getD 0 []).length q2.R (Wk A (A.getD 0 []).length q.k q2.k) q2.H)∧Inv ⟨39,w0,M,fun _=>False⟩ [⟨11,11,none,none,.obj,0,0,false,Kl q2.H,[]⟩] [] [Ez 0 (Qr Qd A),Ez 2 (Qs ((Value.slice none 0 0))),Ez 3 (Qs (.slice (some ⟨g,0,none⟩) ((A.getD 0 []).length) ((A.getD 0 []).length))),Ez 13 (pI ((A.getD 0 []).length:Int)),Ez 14 (pI (q.k:Int)),Ez 4 (pI (q.k:Int)),Ez 17 (Qr Qd A),Ez 18 (pI (A.length:Int)),Ez 19 (pI (q2.k:Int))] Qi a w) (fun(q2:BI)=>A.length-q2.k) (⟨0,q.R,q.H⟩) ⟨⟨Nat.zero_le _,hB⟩,(hI.conv ⟨⟨0,_,_,rfl,⟨rfl,rfl,rfl⟩,rfl,fun _=>(fun _ _ h=>h)⟩,trivial⟩ ⟨Qp 0 rfl,Qp 1 rfl,Qp 2 rfl,Qp 3 rfl,Qp 4 rfl,Qp 5 rfl,Qp 6 rfl,Qp 7 rfl,⟨rfl,rfl,8,_,rfl,(Xc rfl)⟩,trivial⟩)⟩ ?_
   intro q2 a w hIk
   obtain⟨⟨hk2,hB2⟩,hI⟩:=hIk
   refine Ql hI [] [Ec 0 20 (pB (decide ((q2.k:Int)<(A.length:Int))))] [0] (.k .z) (.k8 (.k .z)) ?_ (.k .z) (.k8 (.kk .z)) fun a w hI=>?_
   ·exact⟨Qk (v:=.bool (decide ((q2.k:Int)<(A.length:Int)))) (.tp 8 rfl) (.tp 7 rfl) (fun _=>rfl) (.here 9 rfl),trivial⟩
   refine wp_seq ?_
   refine Xm hI 9 rfl (fun ht=>?_) (fun ht=>?_)
   ·have t2:=of_decide_eq_true ht
    refine wp_skip ?_
    refine Qf ?_
    refine wp_seq ?_
    refine wp_block ?_
    refine Ql hI [] [Ec 0 21 (Ye 1 false (Qd (A.getD q2.k []))),Ec 1 22 (Qd (A.getD q2.k [])),Ec 2 6 (Qd (A.getD q2.k []))] [0,1,3] (.k .z) (.k8 (.kk .z)) ?_ (.k .z) (.k8 (.kddd (.k .z))) fun a w hI=>?_
    ·exact⟨Qw (.tp 6 rfl) (.tp 8 rfl) Xb (.at_ 10 _ _ rfl (by rw[Int.toNat_natCast]; exact fun _ _ h=>h)),Q7 (.tp 10 rfl) X6 ((Y6 _)) (.here 11 rfl),Qc (.tp 11 rfl) (.here 12 rfl),trivial⟩
    have hl:=hr q2.k (by omega)
    refine sem_SD hI [⟨34,34,some 11,none,.obj,0,0,false,pApp q2.H (hdr0 (Xs q2.R q.k)) ((Wk A (A.getD 0 []).length q.k q2.k).getD q.k []) [(A.getD q2.k []).getD q.k 0],[]⟩] [] [Ec 0 23 (Qs (.slice (some ⟨g,0,none⟩) ((A.getD 0 []).length) ((A.getD 0 []).length))),Ec 1 24 (pI (q.k:Int)),Ec 2 25 (Qs (.slice (some ⟨g,0,none⟩) ((A.getD 0 []).length) ((A.getD 0 []).length))),Ec 3 26 (pI (q.k:Int)),Ec 4 27 (Qs (.pointer (some ⟨g,0+((q.k:Int)).toNat*1,none⟩))),Ec 5 28 (Qs (hdr0 (Xs q2.R q.k))),Ec 6 29 (Qd (A.getD q2.k [])),Ec 7 30 (pI (q.k:Int)),Ec 8 31 (Ye 3 true (Qq ((A.getD q2.k []).getD q.k 0))),Ec 9 32 (Qq ((A.getD q2.k []).getD q.k 0)),Ec 10 33 (Qd ([(A.getD q2.k []).getD q.k 0]))] (.u (some 11) [] .z) (.k8 (.kk .z)) rfl [0,0,0,0,12,28,0,0,192,448,960,2044,4095,8191] 12 (by kernel_rfl) ?_ (.d (.k .z)) (.k8 (.kdkk (.d8 (.d .z)))) (fun a w hI=>hI.openApp 0 rfl (by kernel_rfl)) (⟨_,exL fun l hC a w hI=>Vj hI [] [Ec 0 35 (Qs (.pointer (some ⟨g,0+((q.k:Int)).toNat*1,none⟩)))] (.k .z) (.k8 (.kkkk .z)) (by kernel_rfl) (Xk (.tp 10 rfl) (.tp 11 rfl) Xb (.here 12 rfl)) (.k .z) (.k8 (.kkdd (.k .z))),
      _,exL fun l hC a w hI=>Vj hI [] [] (.u none [(0,Kl (Zz (appH q2.H l.b (Yj ((Wk A (A.getD 0 []).length q.k q2.k).getD q.k []++[(A.getD q2.k []).getD q.k 0]) l.cap)) g q.k (Kp l.hdr)))] .z) (.k8 (.kkk .z)) (by kernel_rfl) (Vc (e:=⟨g,1,false,Qat q2.R⟩) (idx:=q.k) (it:=Kp l.hdr) 0 rfl rfl rfl (by kernel_rfl) 0 rfl (by kernel_rfl) (by kernel_rfl) rfl (.tp 10 rfl) (Qbv hB2.top (hB2.off (by omega) hC.2.2.2)) rfl (by rw[tops0_len]; have:=hB2.len.1; omega) (show 0+((q.k:Int)).toNat*1=q.k*1 by omega) X6 (.tp 0 rfl) (Qb0 _ _ _)) (.s .o .z) (.dkkk (.kkkk (.kkd .z))),
      rfl⟩) ?_
    ·exact⟨Qa (.tp 2 rfl) (.here 10 rfl),Qa (.tp 5 rfl) (.here 11 rfl),Qa (.tp 2 rfl) (.here 12 rfl),Qa (.tp 5 rfl) (.here 13 rfl),Xk (.tp 12 rfl) (.tp 13 rfl) Xb (.here 14 rfl),Z0 (e:=⟨g,1,false,Qat q2.R⟩) (idx:=q.k) 0 rfl rfl rfl (by kernel_rfl) rfl (.tp 14 rfl) hB2.top rfl (tops0_get (by have:=hB2.len.1; omega)) (show 0+((q.k:Int)).toNat*1=q.k*1 by omega) X6 (.here 15 rfl),Qa (.tp 9 rfl) (.here 16 rfl),Qa (.tp 5 rfl) (.here 17 rfl),Qw (.tp 16 rfl) (.tp 17 rfl) Xo (.at_ 18 _ _ rfl (by rw[Int.toNat_natCast]; exact fun _ _ h=>h)),Q7 (.tp 18 rfl) Q8 (Yb _) (.here 19 rfl),Qbs (fs:=List.replicate 1 ⟨true,3,Qq 0⟩) (ps:=[(0,Qq ((A.getD q2.k []).getD q.k 0))]) (gs:=[(A.getD q2.k []).getD q.k 0].map fun q=>⟨true,3,Qq q⟩) Xo Jd rfl rfl rfl (fun w=>Yy w) rfl (show Qau _ _ _ _ _ _ from⟨⟨rfl,(.tp 19 rfl),_,rfl,Yb _⟩,trivial⟩) rfl (fun i=>Qq ([(A.getD q2.k []).getD q.k 0].getD i 0)) (rats_fd _) (.here 20 rfl),op_appendH 0 rfl rfl rfl rfl (by kernel_rfl) rfl 1 rfl rfl rfl rfl rfl (by kernel_rfl) (.tp 15 rfl) (.tp 20 rfl) (hB2.case (by omega)) Qd8 Nat.one_pos (by rw[bldX_get (by omega),if_neg (Nat.lt_irrefl _),if_pos rfl,List.length_take]; show _+1≤_; omega) (.none (by kernel_rfl)),trivial⟩
    ·rintro a w ⟨l,hC,hI⟩
     have hC:AppOk q2.H (hdr0 (Xs q2.R q.k)) ((Wk A (A.getD 0 []).length q.k q2.k).getD q.k []) [(A.getD q2.k []).getD q.k 0] l:=hC
     refine Yf ?_
     refine Qf ?_
     refine Y4 hI [] [Ec 0 36 (pI ((q2.k:Int)+(1:Int))),Ec 1 19 (pI ((q2.k:Int)+(1:Int)))] [0,1] (.k .z) (.k8 (.t 1 .z)) ?_ (.k .z) (.k8 (.ddk .z)) fun a w hI=>?_
     ·exact⟨Qk (v:=.int .i64 (IntKind.i64.wrap ((q2.k:Int)+(1:Int)))) (.tp 8 rfl) (.const _) (fun _=>rfl) (.at_ 9 _ _ rfl (X8 (by omega))),Qa (.tp 9 rfl) (.here 10 rfl),trivial⟩
     refine Qf ?_
     replace hI:=hI.reobj 11 11 (n0:=0) rfl (by kernel_rfl) (by kernel_rfl)
     exact⟨⟨q2.k+1,q2.R.set q.k l,Zz (appH q2.H l.b (Yj ((Wk A (A.getD 0 []).length q.k q2.k).getD q.k []++[(A.getD q2.k []).getD q.k 0]) l.cap)) g q.k (Kp l.hdr)⟩,⟨⟨by show q2.k+1≤A.length; omega,by have h:=hB2.append (l':=[(A.getD q2.k []).getD q.k 0]) (by omega) Nat.one_pos hC; rw[bldX_step (by omega) (by omega)]at h; exact h⟩,(hI.conv ⟨⟨0,_,_,rfl,⟨rfl,rfl,rfl⟩,rfl,fun _=>fun _ _ h=>h⟩,trivial⟩ ⟨Qp 0 rfl,Qp 1 rfl,Qp 2 rfl,Qp 3 rfl,Qp 4 rfl,Qp 5 rfl,Qp 6 rfl,Qp 7 rfl,⟨rfl,rfl,8,_,rfl,(Xc (by show((q2.k:Int)+1)=((q2.k+1:Nat):Int); omega))⟩,trivial⟩)⟩,(show A.length-(q2.k+1)<A.length-q2.k by omega)⟩
   ·have t3:=of_decide_eq_false ht
    refine wp_exit ?_
    refine Qy ?_
    refine Qy ?_
    refine Xv ?_
    refine Yf ?_
    refine Qf ?_
    refine Y4 hI [] [Ec 0 37 (pI ((q.k:Int)+(1:Int))),Ec 1 14 (pI ((q.k:Int)+(1:Int)))] [0,1] (.k .z) (.kkkk (.t 1 (.kkkk (.k .z)))) ?_ (.k .z) (.kkkk (.dddd (.dddk .z))) fun a w hI=>?_
    ·exact⟨Qk (v:=.int .i64 (IntKind.i64.wrap ((q.k:Int)+(1:Int)))) (.tp 4 rfl) (.const _) (fun _=>rfl) (.at_ 10 _ _ rfl (X8 (by omega))),Qa (.tp 10 rfl) (.here 11 rfl),trivial⟩
    refine Qf ?_
    exact⟨⟨q.k+1,q2.R,q2.H⟩,⟨⟨by show q.k+1≤(A.getD 0 []).length; omega,by have h:=hB2; rw[show q2.k=A.length by omega,bldX_next]at h; exact h⟩,(hI.conv ⟨⟨0,_,_,rfl,⟨rfl,rfl,rfl⟩,rfl,fun _=>fun _ _ h=>h⟩,trivial⟩ ⟨Qp 0 rfl,Qp 1 rfl,Qp 2 rfl,Qp 3 rfl,⟨rfl,rfl,4,_,rfl,(Xc (by show((q.k:Int)+1)=((q.k+1:Nat):Int); omega))⟩,trivial⟩)⟩,(show(A.getD 0 []).length-(q.k+1)<(A.getD 0 []).length-q.k by omega)⟩
  ·have t4:=of_decide_eq_false ht
   refine wp_exit ?_
   refine Qy ?_
   refine Qy ?_
   refine Xv ?_
   refine Qf ?_
   refine Ql hI [] [Ec 0 38 (Qs (.slice (some ⟨g,0,none⟩) ((A.getD 0 []).length) ((A.getD 0 []).length))),Ec 1 2 (Qs (.slice (some ⟨g,0,none⟩) ((A.getD 0 []).length) ((A.getD 0 []).length)))] [0,1] (.k .z) (.k (.t 1 (.kkkk .z))) ?_ (.k .z) (.dddd (.dddk .z)) fun a w hI=>?_
   ·exact⟨Qa (.tp 2 rfl) (.here 6 rfl),Qc (.tp 6 rfl) (.here 7 rfl),trivial⟩
   refine wp_ret ?_
   exact finObj1 hI rfl (n0:=0) rfl (.tmp 0 rfl) (fun B w hH=>by have h:=hB.read (cap:=(A.getD 0 []).length) (Nat.le_refl _) (by unfold maxLen; omega) (fun i hi=>by rw[bldX_get hi,if_pos (by omega),Va]; omega) B w hH; rw[show q.k=(A.getD 0 []).length by omega,bldX_end]at h; exact h)
end Wx
