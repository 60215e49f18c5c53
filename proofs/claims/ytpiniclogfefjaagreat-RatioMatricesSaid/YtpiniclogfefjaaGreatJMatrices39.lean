import Derived.Test.YtpiniclogfefjaaGreatJMatrices38
import Derived.Test.YtpiniclogfefjaaGreatCMatricesMatrix
namespace Wx
open Go Go.RowKit Go.Proofs

end Wx

namespace Wx
open Go Go.RowKit Go.Proofs

end Wx

namespace Wx
open Go Go.RowKit Go.Proofs

end Wx

namespace Wx
open Go Go.RowKit Go.Proofs

theorem cn_add {x y:Rat} {j k:Nat} (hx:BdR j x) (hy:BdR k y) (h:j+k+j+k+1≤10000000):∀w v1 v2,Qw x w v1→Qw y w v2→Calls Tryz.prog 51 #[v1,v2] w (Kh (Qw (x+y)) w):=
  fun w v1 v2 h1 h2=>nadd_num w v1 v2 x y h1 h2 hx hy h
theorem cn_mul {x y:Rat} {j k:Nat} (hx:BdR j x) (hy:BdR k y) (h:j+k≤10000000):∀w v1 v2,Qw x w v1→Qw y w v2→Calls Tryz.prog 52 #[v1,v2] w (Kh (Qw (x*y)) w):=
  fun w v1 v2 h1 h2=>nmul_num w v1 v2 x y h1 h2 hx hy h
theorem cn_neg (x:Rat):∀w v1,Qw x w v1→Calls Tryz.prog 83 #[v1] w (Kh (Qw (-x)) w):=fun w v1 h1=>nneg_num w v1 x h1
theorem Qc4 (n:Int) (h1:-9223372036854775808≤n) (h2:n≤9223372036854775807):∀w v1,pI n w v1→Calls Tryz.prog 60 #[v1] w (Kh (Qw (n:Rat)) w):=fun w v1 h=>by
  have h:v1=.int .i64 n:=h
  rw[h]
  exact nint_num w n h1 h2
theorem c_is {x y:Rat} {j:Nat} (hx:BdR j x) (hj:j≤100000000) (h:x=y):∀w v1 v2,Qo x w v1→Qw y w v2→Calls Tryz.prog 23 #[v1,v2] w (Kh (pB true) w):=fun w v1 v2 h1 h2=>by
  subst h
  exact(is_yes w v1 v2 x h1 h2 hx hj).mono fun _ _=>ret_is
end Wx

namespace Wx
set_option maxRecDepth 100000
open Go Go.RowKit Go.Proofs
set_option linter.unusedVariables false

structure BI where
  k:Nat
  R:List RowL
  H:List Bk
theorem c_turned {A:List (List Rat)} {j:Nat} (h0:0<A.length) (hA:A.length≤1000000) (hn:(A.getD 0 []).length≤1000000) (hr:∀i,i<A.length→(A.getD i []).length=(A.getD 0 []).length) (hb:∀i k,BdR j ((A.getD i []).getD k 0)):∀(M:Nat→Nat→Prop) (w:World) (v0:Value),Mid M w→Box M (fun w=>(Qd 1 false A.length (fun i=>Qf (A.getD i []))) w v0) w→Calls Tryz.prog 53 #[v0] w (RetB M (Qd 1 false (A.getD 0 []).length (fun i=>Qf ((Xr A).getD i []))) w):=by
  intro M w0 v0 hM hv0
  refine Jx (N:=39) Tryz.func53 rfl rfl rfl hM (show EntsA M w0 [v0] [⟨none,none,0,Qd 1 false A.length (fun i=>Qf (A.getD i []))⟩]from⟨⟨rfl,_,rfl,hv0⟩,trivial⟩) fun a hI=>?_
  refine Qe hI [] [] [⟨some 0,none,2,Qp ((Value.slice none 0 0))⟩] .z (.k .z) rfl [0] (by kernel_rfl) ?_ .z (.kk .z) fun a w hI=>?_
  · exact⟨Qc (.const _) (.here 1 rfl),trivial⟩
  refine Qcp hI [⟨11,11,some 4,none,.obj,0,0,false,pMade 1 false (A.getD 0 []).length (Km (.slice none 0 0)),[]⟩] [] [⟨some 0,none,7,Qd 1 false A.length (fun i=>Qf (A.getD i []))⟩,⟨some 1,none,8,Yb 1 false (Qf (A.getD 0 []))⟩,⟨some 2,none,9,Qf (A.getD 0 [])⟩,⟨some 3,none,10,pI ((A.getD 0 []).length:Int)⟩] .z (.kk .z) rfl [0,1,3,7,15,31] 5 (by kernel_rfl) ?_ (.k .z) (.kkdd (.dd .z)) (fun a w hI=>hI.openMade 0 rfl (by kernel_rfl)) (⟨_,exL fun l hC a w hI=>Vg hI [] [⟨some 0,none,3,Qp (.slice (some ⟨l,0,none⟩) ((A.getD 0 []).length) ((A.getD 0 []).length))⟩] (.k .z) (.kkk .z) (by kernel_rfl) (Qc (.tmp 0 rfl rfl) (.here 3 rfl)) (.k .z) (.dkkk .z),
      rfl⟩) ?_
  · exact⟨Qa (.tmp 0 rfl rfl) (.here 2 rfl),Qt (.tmp 2 rfl rfl) (.const _) Q8 (by omega) (by omega) (by kernel_rfl) (.here 3 rfl),Q5 (.tmp 3 rfl rfl) X0 ((Y3 _)) (.here 4 rfl),Qz (.tmp 4 rfl rfl) (Xk).under (.here 5 rfl),Qeu (zv:=.slice none 0 0) (z:=[.slice none 0 0]) 0 rfl rfl rfl rfl rfl (by kernel_rfl) (.tmp 5 rfl rfl) (.tmp 5 rfl rfl) (Q8).under (by kernel_rfl) rfl rfl (by omega) (fun u hu=>by rw[List.mem_singleton.1 hu]; exact J3 _ _ _) (fun _=>rfl) (by omega) (.none (by kernel_rfl)),trivial⟩
  · rintro a w ⟨g,hC,hI⟩
    have hC:True:=hC
    refine wp_seq ?_
    refine Qe hI [] [] [⟨some 0,none,12,Qp (.slice (some ⟨g,0,none⟩) ((A.getD 0 []).length) ((A.getD 0 []).length))⟩,⟨some 1,none,13,pI ((A.getD 0 []).length:Int)⟩,⟨some 2,none,14,pI 0⟩] (.k .z) (.kkk .z) rfl [0,1,3] (by kernel_rfl) ?_ (.k .z) (.kkkd (.kk .z)) fun a w hI=>?_
    · exact⟨Qa (.tmp 2 rfl rfl) (.here 3 rfl),Qd7 (.tmp 3 rfl rfl) (Q8).under (.here 4 rfl),Qa (.const _) (.here 5 rfl),trivial⟩
    refine wp_block ?_
    refine Xw (fun(q:BI) a w=>(q.k≤(A.getD 0 []).length∧BldOk g (A.getD 0 []).length q.R (Wh A (A.getD 0 []).length q.k 0) q.H)∧Inv ⟨39,w0,M,fun _=>False⟩ [⟨11,11,none,none,.obj,0,0,false,Kj q.H,[]⟩] [] [⟨none,none,0,Qd 1 false A.length (fun i=>Qf (A.getD i []))⟩,⟨none,none,2,Qp ((Value.slice none 0 0))⟩,⟨none,none,3,Qp (.slice (some ⟨g,0,none⟩) ((A.getD 0 []).length) ((A.getD 0 []).length))⟩,⟨none,none,13,pI ((A.getD 0 []).length:Int)⟩,⟨none,none,14,pI (q.k:Int)⟩] Ql a w) (fun(q:BI)=>(A.getD 0 []).length-q.k) (⟨0,List.replicate (A.getD 0 []).length ⟨0,0,0⟩,[⟨g,1,false,List.replicate (A.getD 0 []).length (Km (.slice none 0 0))⟩]⟩) ⟨⟨Nat.zero_le _,by have h:=bld_nil g (A.getD 0 []).length; rw[← bldX_zero (A:=A)]at h; exact h⟩,(hI.conv ⟨⟨0,_,_,rfl,⟨rfl,rfl,rfl⟩,rfl,fun _=>(fun _ _ h=>h)⟩,trivial⟩ ⟨⟨rfl,rfl,0,_,rfl,fun _ _ h=>h⟩,⟨rfl,rfl,1,_,rfl,fun _ _ h=>h⟩,⟨rfl,rfl,2,_,rfl,fun _ _ h=>h⟩,⟨rfl,rfl,3,_,rfl,fun _ _ h=>h⟩,⟨rfl,rfl,4,_,rfl,(Q9 rfl)⟩,trivial⟩)⟩ ?_
    intro q a w hIk
    obtain⟨⟨hk,hB⟩,hI⟩:=hIk
    refine Qe hI [] [] [⟨some 0,none,15,pB (decide ((q.k:Int)<((A.getD 0 []).length:Int)))⟩] (.k .z) (.kkkk (.k .z)) rfl [0] (by kernel_rfl) ?_ (.k .z) (.kkkk (.kk .z)) fun a w hI=>?_
    · exact⟨Qk (v:=.bool (decide ((q.k:Int)<((A.getD 0 []).length:Int)))) (.tmp 4 rfl rfl) (.tmp 3 rfl rfl) (fun _=>rfl) (.here 5 rfl),trivial⟩
    refine wp_seq ?_
    refine Xi hI 5 rfl (fun ht=>?_) (fun ht=>?_)
    · have t1:=of_decide_eq_true ht
      refine wp_skip ?_
      refine Qh ?_
      refine wp_seq ?_
      refine wp_block ?_
      refine Qe hI [] [] [⟨some 0,none,16,pI (q.k:Int)⟩,⟨some 1,none,4,pI (q.k:Int)⟩] (.k .z) (.kkkk (.kk .z)) rfl [0,1] (by kernel_rfl) ?_ (.k .z) (.kkkk (.kddk .z)) fun a w hI=>?_
      · exact⟨Qa (.tmp 4 rfl rfl) (.here 6 rfl),Qc (.tmp 6 rfl rfl) (.here 7 rfl),trivial⟩
      refine Qe hI [] [] [⟨some 0,none,17,Qd 1 false A.length (fun i=>Qf (A.getD i []))⟩,⟨some 1,none,18,pI (A.length:Int)⟩,⟨some 2,none,19,pI 0⟩] (.k .z) (.kkkk (.kk .z)) rfl [0,1,3] (by kernel_rfl) ?_ (.k .z) (.k8 (.k .z)) fun a w hI=>?_
      · exact⟨Qa (.tmp 0 rfl rfl) (.here 6 rfl),Qz (.tmp 6 rfl rfl) (Q8).under (.here 7 rfl),Qa (.const _) (.here 8 rfl),trivial⟩
      refine wp_block ?_
      refine Xw (fun(q2:BI) a w=>(q2.k≤A.length∧BldOk g (A.getD 0 []).length q2.R (Wh A (A.getD 0 []).length q.k q2.k) q2.H)∧Inv ⟨39,w0,M,fun _=>False⟩ [⟨11,11,none,none,.obj,0,0,false,Kj q2.H,[]⟩] [] [⟨none,none,0,Qd 1 false A.length (fun i=>Qf (A.getD i []))⟩,⟨none,none,2,Qp ((Value.slice none 0 0))⟩,⟨none,none,3,Qp (.slice (some ⟨g,0,none⟩) ((A.getD 0 []).length) ((A.getD 0 []).length))⟩,⟨none,none,13,pI ((A.getD 0 []).length:Int)⟩,⟨none,none,14,pI (q.k:Int)⟩,⟨none,none,4,pI (q.k:Int)⟩,⟨none,none,17,Qd 1 false A.length (fun i=>Qf (A.getD i []))⟩,⟨none,none,18,pI (A.length:Int)⟩,⟨none,none,19,pI (q2.k:Int)⟩] Ql a w) (fun(q2:BI)=>A.length-q2.k) (⟨0,q.R,q.H⟩) ⟨⟨Nat.zero_le _,hB⟩,(hI.conv ⟨⟨0,_,_,rfl,⟨rfl,rfl,rfl⟩,rfl,fun _=>(fun _ _ h=>h)⟩,trivial⟩ ⟨⟨rfl,rfl,0,_,rfl,fun _ _ h=>h⟩,⟨rfl,rfl,1,_,rfl,fun _ _ h=>h⟩,⟨rfl,rfl,2,_,rfl,fun _ _ h=>h⟩,⟨rfl,rfl,3,_,rfl,fun _ _ h=>h⟩,⟨rfl,rfl,4,_,rfl,fun _ _ h=>h⟩,⟨rfl,rfl,5,_,rfl,fun _ _ h=>h⟩,⟨rfl,rfl,6,_,rfl,fun _ _ h=>h⟩,⟨rfl,rfl,7,_,rfl,fun _ _ h=>h⟩,⟨rfl,rfl,8,_,rfl,(Q9 rfl)⟩,trivial⟩)⟩ ?_
      intro q2 a w hIk
      obtain⟨⟨hk2,hB2⟩,hI⟩:=hIk
      refine Qe hI [] [] [⟨some 0,none,20,pB (decide ((q2.k:Int)<(A.length:Int)))⟩] (.k .z) (.k8 (.k .z)) rfl [0] (by kernel_rfl) ?_ (.k .z) (.k8 (.kk .z)) fun a w hI=>?_
      · exact⟨Qk (v:=.bool (decide ((q2.k:Int)<(A.length:Int)))) (.tmp 8 rfl rfl) (.tmp 7 rfl rfl) (fun _=>rfl) (.here 9 rfl),trivial⟩
      refine wp_seq ?_
      refine Xi hI 9 rfl (fun ht=>?_) (fun ht=>?_)
      · have t2:=of_decide_eq_true ht
        refine wp_skip ?_
        refine Qh ?_
        refine wp_seq ?_
        refine wp_block ?_
        refine Qe hI [] [] [⟨some 0,none,21,Yb 1 false (Qf (A.getD q2.k []))⟩,⟨some 1,none,22,Qf (A.getD q2.k [])⟩,⟨some 2,none,6,Qf (A.getD q2.k [])⟩] (.k .z) (.k8 (.kk .z)) rfl [0,1,3] (by kernel_rfl) ?_ (.k .z) (.k8 (.kddd (.k .z))) fun a w hI=>?_
        · exact⟨Qt (.tmp 6 rfl rfl) (.tmp 8 rfl rfl) Q8 (by omega) (by omega) (by kernel_rfl) (.at_ 10 _ _ rfl (by rw[Int.toNat_natCast]; exact fun _ _ h=>h)),Q5 (.tmp 10 rfl rfl) X0 ((Y3 _)) (.here 11 rfl),Qc (.tmp 11 rfl rfl) (.here 12 rfl),trivial⟩
        have hl:=hr q2.k (by omega)
        refine sem_SD hI [⟨34,34,some 11,none,.obj,0,0,false,pApp q2.H (hdr0 (Xp q2.R q.k)) ((Wh A (A.getD 0 []).length q.k q2.k).getD q.k []) [(A.getD q2.k []).getD q.k 0],[]⟩] [] [⟨some 0,none,23,Qp (.slice (some ⟨g,0,none⟩) ((A.getD 0 []).length) ((A.getD 0 []).length))⟩,⟨some 1,none,24,pI (q.k:Int)⟩,⟨some 2,none,25,Qp (.slice (some ⟨g,0,none⟩) ((A.getD 0 []).length) ((A.getD 0 []).length))⟩,⟨some 3,none,26,pI (q.k:Int)⟩,⟨some 4,none,27,Qp (.pointer (some ⟨g,0+((q.k:Int)).toNat*1,none⟩))⟩,⟨some 5,none,28,Qp (hdr0 (Xp q2.R q.k))⟩,⟨some 6,none,29,Qf (A.getD q2.k [])⟩,⟨some 7,none,30,pI (q.k:Int)⟩,⟨some 8,none,31,Yb 3 true (Qo ((A.getD q2.k []).getD q.k 0))⟩,⟨some 9,none,32,Qo ((A.getD q2.k []).getD q.k 0)⟩,⟨some 10,none,33,Qf ([(A.getD q2.k []).getD q.k 0])⟩] (.u (some 11) [] .z) (.k8 (.kk .z)) rfl [0,0,0,0,12,28,0,0,192,448,960,2044,4095,8191] 12 (by kernel_rfl) ?_ (.d (.k .z)) (.k8 (.kdkk (.d8 (.d .z)))) (fun a w hI=>hI.openApp 0 rfl (by kernel_rfl)) (⟨_,exL fun l hC a w hI=>Vg hI [] [⟨some 0,none,35,Qp (.pointer (some ⟨g,0+((q.k:Int)).toNat*1,none⟩))⟩] (.k .z) (.k8 (.kkkk .z)) (by kernel_rfl) (Xn (.tmp 10 rfl rfl) (.tmp 11 rfl rfl) Q8 (by omega) (by omega) (by kernel_rfl) (.here 12 rfl)) (.k .z) (.k8 (.kkdd (.k .z))),
            _,exL fun l hC a w hI=>Vg hI [] [] (.u none [(0,Kj (Zw (appH q2.H l.b (Yg ((Wh A (A.getD 0 []).length q.k q2.k).getD q.k []++[(A.getD q2.k []).getD q.k 0]) l.cap)) g q.k (Km l.hdr)))] .z) (.k8 (.kkk .z)) (by kernel_rfl) (W7 (e:=⟨g,1,false,Qaf q2.R⟩) (idx:=q.k) (it:=Km l.hdr) 0 rfl rfl rfl (by kernel_rfl) 0 rfl (by kernel_rfl) (by kernel_rfl) rfl (.tmp 10 rfl rfl) (Qbu hB2.top (hB2.off (by omega) hC.2.2.2)) rfl (by rw[tops0_len]; have:=hB2.len.1; omega) (show 0+((q.k:Int)).toNat*1=q.k*1 by omega) X0 (.tmp 0 rfl rfl) (Qbz _ _ _)) (.s .o .z) (.dkkk (.kkkk (.kkd .z))),
            rfl⟩) ?_
        · exact⟨Qa (.tmp 2 rfl rfl) (.here 10 rfl),Qa (.tmp 5 rfl rfl) (.here 11 rfl),Qa (.tmp 2 rfl rfl) (.here 12 rfl),Qa (.tmp 5 rfl rfl) (.here 13 rfl),Xn (.tmp 12 rfl rfl) (.tmp 13 rfl rfl) Q8 (by omega) (by omega) (by kernel_rfl) (.here 14 rfl),Zx (e:=⟨g,1,false,Qaf q2.R⟩) (idx:=q.k) 0 rfl rfl rfl (by kernel_rfl) rfl (.tmp 14 rfl rfl) hB2.top rfl (tops0_get (by have:=hB2.len.1; omega)) (show 0+((q.k:Int)).toNat*1=q.k*1 by omega) X0 (.here 15 rfl),Qa (.tmp 9 rfl rfl) (.here 16 rfl),Qa (.tmp 5 rfl rfl) (.here 17 rfl),Qt (.tmp 16 rfl rfl) (.tmp 17 rfl rfl) Xk (by omega) (by omega) (by kernel_rfl) (.at_ 18 _ _ rfl (by rw[Int.toNat_natCast]; exact fun _ _ h=>h)),Q5 (.tmp 18 rfl rfl) Q4 (X8 _) (.here 19 rfl),Qbn (fs:=List.replicate 1 ⟨true,3,Qo 0⟩) (ps:=[(0,Qo ((A.getD q2.k []).getD q.k 0))]) (gs:=[(A.getD q2.k []).getD q.k 0].map fun q=>⟨true,3,Qo q⟩) Xk Ja rfl rfl rfl (fun w=>Yv w) rfl (show Qa4 _ _ _ _ _ _ from⟨⟨rfl,(.tmp 19 rfl rfl),_,rfl,X8 _⟩,trivial⟩) rfl (fun i=>Qo ([(A.getD q2.k []).getD q.k 0].getD i 0)) (rats_fd _) (.here 20 rfl),op_appendH 0 rfl rfl rfl rfl (by kernel_rfl) rfl 1 rfl rfl rfl rfl rfl (by kernel_rfl) (.tmp 15 rfl rfl) (.tmp 20 rfl rfl) (hB2.case (by omega)) Qel Nat.one_pos (by rw[bldX_get (by omega),if_neg (Nat.lt_irrefl _),if_pos rfl,List.length_take]; show _+1≤_; omega) (.none (by kernel_rfl)),trivial⟩
        · rintro a w ⟨l,hC,hI⟩
          have hC:AppOk q2.H (hdr0 (Xp q2.R q.k)) ((Wh A (A.getD 0 []).length q.k q2.k).getD q.k []) [(A.getD q2.k []).getD q.k 0] l:=hC
          refine Yd ?_
          refine Qh ?_
          refine Y0 hI [] [] [⟨some 0,none,36,pI ((q2.k:Int)+(1:Int))⟩,⟨some 1,none,19,pI ((q2.k:Int)+(1:Int))⟩] (.k .z) (.k8 (.t 1 .z)) rfl [0,1] (by kernel_rfl) ?_ (.k .z) (.k8 (.ddk .z)) fun a w hI=>?_
          · exact⟨Qk (v:=.int .i64 (IntKind.i64.wrap ((q2.k:Int)+(1:Int)))) (.tmp 8 rfl rfl) (.const _) (fun _=>rfl) (.at_ 9 _ _ rfl (X3 (by omega))),Qa (.tmp 9 rfl rfl) (.here 10 rfl),trivial⟩
          refine Qh ?_
          replace hI:=hI.reobj 11 11 (n0:=0) rfl (by kernel_rfl) (by kernel_rfl)
          exact⟨⟨q2.k+1,q2.R.set q.k l,Zw (appH q2.H l.b (Yg ((Wh A (A.getD 0 []).length q.k q2.k).getD q.k []++[(A.getD q2.k []).getD q.k 0]) l.cap)) g q.k (Km l.hdr)⟩,⟨⟨by show q2.k+1≤A.length; omega,by have h:=hB2.append (l':=[(A.getD q2.k []).getD q.k 0]) (by omega) Nat.one_pos hC; rw[bldX_step (by omega) (by omega)]at h; exact h⟩,(hI.conv ⟨⟨0,_,_,rfl,⟨rfl,rfl,rfl⟩,rfl,fun _=>fun _ _ h=>h⟩,trivial⟩ ⟨⟨rfl,rfl,0,_,rfl,fun _ _ h=>h⟩,⟨rfl,rfl,1,_,rfl,fun _ _ h=>h⟩,⟨rfl,rfl,2,_,rfl,fun _ _ h=>h⟩,⟨rfl,rfl,3,_,rfl,fun _ _ h=>h⟩,⟨rfl,rfl,4,_,rfl,fun _ _ h=>h⟩,⟨rfl,rfl,5,_,rfl,fun _ _ h=>h⟩,⟨rfl,rfl,6,_,rfl,fun _ _ h=>h⟩,⟨rfl,rfl,7,_,rfl,fun _ _ h=>h⟩,⟨rfl,rfl,8,_,rfl,(Q9 (by show((q2.k:Int)+1)=((q2.k+1:Nat):Int); omega))⟩,trivial⟩)⟩,(show A.length-(q2.k+1)<A.length-q2.k by omega)⟩
      · have t3:=of_decide_eq_false ht
        refine wp_exit ?_
        refine Qv ?_
        refine Qv ?_
        refine Xt ?_
        refine Yd ?_
        refine Qh ?_
        refine Y0 hI [] [] [⟨some 0,none,37,pI ((q.k:Int)+(1:Int))⟩,⟨some 1,none,14,pI ((q.k:Int)+(1:Int))⟩] (.k .z) (.kkkk (.t 1 (.kkkk (.k .z)))) rfl [0,1] (by kernel_rfl) ?_ (.k .z) (.kkkk (.dddd (.dddk .z))) fun a w hI=>?_
        · exact⟨Qk (v:=.int .i64 (IntKind.i64.wrap ((q.k:Int)+(1:Int)))) (.tmp 4 rfl rfl) (.const _) (fun _=>rfl) (.at_ 10 _ _ rfl (X3 (by omega))),Qa (.tmp 10 rfl rfl) (.here 11 rfl),trivial⟩
        refine Qh ?_
        exact⟨⟨q.k+1,q2.R,q2.H⟩,⟨⟨by show q.k+1≤(A.getD 0 []).length; omega,by have h:=hB2; rw[show q2.k=A.length by omega,bldX_next]at h; exact h⟩,(hI.conv ⟨⟨0,_,_,rfl,⟨rfl,rfl,rfl⟩,rfl,fun _=>fun _ _ h=>h⟩,trivial⟩ ⟨⟨rfl,rfl,0,_,rfl,fun _ _ h=>h⟩,⟨rfl,rfl,1,_,rfl,fun _ _ h=>h⟩,⟨rfl,rfl,2,_,rfl,fun _ _ h=>h⟩,⟨rfl,rfl,3,_,rfl,fun _ _ h=>h⟩,⟨rfl,rfl,4,_,rfl,(Q9 (by show((q.k:Int)+1)=((q.k+1:Nat):Int); omega))⟩,trivial⟩)⟩,(show(A.getD 0 []).length-(q.k+1)<(A.getD 0 []).length-q.k by omega)⟩
    · have t4:=of_decide_eq_false ht
      refine wp_exit ?_
      refine Qv ?_
      refine Qv ?_
      refine Xt ?_
      refine Qh ?_
      refine Qe hI [] [] [⟨some 0,none,38,Qp (.slice (some ⟨g,0,none⟩) ((A.getD 0 []).length) ((A.getD 0 []).length))⟩,⟨some 1,none,2,Qp (.slice (some ⟨g,0,none⟩) ((A.getD 0 []).length) ((A.getD 0 []).length))⟩] (.k .z) (.k (.t 1 (.kkkk .z))) rfl [0,1] (by kernel_rfl) ?_ (.k .z) (.dddd (.dddk .z)) fun a w hI=>?_
      · exact⟨Qa (.tmp 2 rfl rfl) (.here 6 rfl),Qc (.tmp 6 rfl rfl) (.here 7 rfl),trivial⟩
      refine wp_ret ?_
      exact finObj1 hI rfl (n0:=0) rfl (.tmp 0 rfl) (fun B w hH=>by have h:=hB.read (cap:=(A.getD 0 []).length) (Nat.le_refl _) (by unfold maxLen; omega) (fun i hi=>by rw[bldX_get hi,if_pos (by omega),W6]; omega) B w hH; rw[show q.k=(A.getD 0 []).length by omega,bldX_end]at h; exact h)
end Wx
