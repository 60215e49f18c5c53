import Derived.Test.YtpiniclogfefjaaGreatJMatrices43
namespace Wx
set_option maxRecDepth 100000
open Go Go.RowKit Go.Proofs
set_option linter.unusedVariables false

theorem c_Det {A:List (List Rat)} {j:Nat} (hR:Right A) (hA:Rect A.length A) (hAb:BdX j A) (h1:1≤j) (hj:V0 j A.length≤100000000) (hd:dJ j A.length≤100000000):∀(M:Nat→Nat→Prop) (w:World) (v0:Value),Mid M w→Box M (fun w=>(Qr Qd A) w v0) w→Calls Tryz.prog 19 #[v0] w (RetB M (Xn (Qq (detG A)) (pI 0)) w):=by
 intro M w0 v0 hM hv0
 have h0:=hR.rows.1
 have hn:=hR.rows.2
 have hA0:∀i,i<A.length→0<(A.getD i []).length:=fun i hi=>by rw[hA i hi]; exact h0
 have hAm:∀i,i<A.length→(A.getD i []).length≤1000000:=fun i hi=>by rw[hA i hi]; omega
 refine J1 (N:=80) Tryz.func19 rfl rfl rfl hM (show EntsA M w0 [v0] [Ez 0 (Qr Qd A)]from⟨⟨rfl,_,rfl,hv0⟩,trivial⟩) fun a hI=>?_
 refine Ql hI [⟨2,2,some 0,none,.ptr,38,3,true,pv (Qq 0),[]⟩] [Ec 1 3 (pI 0)] [0,1] .z (.k .z) ?_ (.k .z) (.kk .z) fun a w hI=>?_
 ·exact⟨Yx 0 rfl rfl (by kernel_rfl) (by kernel_rfl) rfl rfl rfl Jd rfl rfl (by simp[Yu]) rfl (fun w=>Yy w),Qc (.const _) (.here 1 rfl),trivial⟩
 refine wp_seq ?_
 refine Ql hI [] [Ec 0 11 (Qr Qd A),Ec 1 12 (pI 0),Ec 2 4 (pI 0)] [0,1,3] (.k .z) (.kk .z) ?_ (.k .z) (.kkdd (.k .z)) fun a w hI=>?_
 ·exact⟨Qa (.tp 0 rfl) (.here 2 rfl),Q6 (fun _ _=>by kernel_rfl) (.tp 2 rfl) (.here 3 rfl) (Qdt hR (hA 0 h0)),Qc (.tp 3 rfl) (.here 4 rfl),trivial⟩
 refine Ql hI [] [Ec 0 13 (pI 0),Ec 1 14 (pB false)] [0,1] (.k .z) (.kkk .z) ?_ (.k .z) (.kkkd (.k .z)) fun a w hI=>?_
 ·exact⟨Qa (.tp 2 rfl) (.here 3 rfl),Qk (v:=.bool (false)) (.tp 3 rfl) (.const _) (fun _=>rfl) (.here 4 rfl),trivial⟩
 refine Yk hI 3 rfl ?_
 refine wp_skip ?_
 refine Qf ?_
 refine Qc7 hI [] [] [Ec 0 17 (Qr Qd A)] (.k .z) (.kkkk .z) rfl [0,1,3] 1 (by kernel_rfl) ?_ (.k .z) (.dkdd (.k .z)) (fun a w hI=>hI) (⟨_,fun a w hI=>step_callO1 18 (fun _ _=>by kernel_rfl) hI (.tp 1 rfl) (fun M w v hM hv=>r_copied h0 (by omega) hA0 hAm M w v hM hv) (by kernel_rfl) (by kernel_rfl) (by kernel_rfl),
   _,exL fun l hC a w hI=>Vj hI [] [Ec 0 5 (Qs (.slice (some ⟨l.g,0,none⟩) A.length l.cap))] (.k (.k .z)) (.kkk .z) (by kernel_rfl) (Qc (.tp 0 rfl) (.here 3 rfl)) (.k (.k .z)) (.dkdk .z),
   rfl⟩) ?_
 ·exact⟨Qa (.tp 0 rfl) (.here 4 rfl),trivial⟩
 ·rintro a w ⟨m0,hC,hI⟩
  have hC:MatOk m0.g m0.cap m0.R A m0.H:=hC
  refine Ql hI [⟨6,6,some 1,none,.ptr,38,3,true,pv (Qq 0),[(2,pv (Qq ((1:Int):Rat)))]⟩] [Ec 0 19 (Qq ((1:Int):Rat))] [0,1,3] (.k (.k .z)) (.kk .z) ?_ (.k (.k (.s .o .z))) (.kkd .z) fun a w hI=>?_
  ·exact⟨Zf (fun _ _=>by kernel_rfl) (Y5 _) (.const _) (.here 2 rfl) (c_int 1 (by omega) (by omega)),Yx 2 rfl rfl (by kernel_rfl) (by kernel_rfl) rfl rfl rfl Jd rfl rfl (by simp[Yu]) rfl (fun w=>Yy w),X0 2 rfl rfl rfl rfl 0 rfl (by kernel_rfl) (by kernel_rfl) Q8 (.tp 2 rfl) (Yb _),trivial⟩
  refine wp_seq ?_
  have hXr0:Rect A.length A:=hA
  refine Ql hI [] [Ec 0 20 (Qs (.slice (some ⟨m0.g,0,none⟩) A.length m0.cap)),Ec 1 21 (pI (A.length:Int)),Ec 2 22 (pI 0)] [0,1,3] (.k (.k (.k .z))) (.kk .z) ?_ (.k (.k (.k .z))) (.kkdk (.k .z)) fun a w hI=>?_
  ·exact⟨Qa (.tp 1 rfl) (.here 2 rfl),Qep (.tp 2 rfl) (Xb).under (.here 3 rfl),Qa (.const _) (.here 4 rfl),trivial⟩
  refine wp_block ?_
  refine Xz (fun(q1:BI) a w=>(q1.k≤A.length∧MatOk m0.g m0.cap q1.R (dX A q1.k) q1.H∧∀c,c<q1.k→0≤X5 (dX A c) c)∧Inv ⟨80,w0,M,fun _=>False⟩ [⟨18,18,none,none,.obj,0,0,false,Kl q1.H,[]⟩,⟨2,2,none,none,.ptr,38,3,true,pv (Qq 0),[]⟩,⟨6,6,none,none,.ptr,38,3,true,pv (Qq (dD A q1.k)),[]⟩] [] [Ez 5 (Qs (.slice (some ⟨m0.g,0,none⟩) A.length m0.cap)),Ez 21 (pI (A.length:Int)),Ez 22 (pI (q1.k:Int))] Qi a w) (fun(q1:BI)=>A.length-q1.k) (⟨0,m0.R,m0.H⟩) ⟨⟨Nat.zero_le _,hC,fun c hc=>absurd hc (Nat.not_lt_zero _)⟩,(hI.conv ⟨⟨0,_,_,rfl,⟨rfl,rfl,rfl⟩,rfl,fun _=>(fun _ _ h=>h)⟩,⟨1,_,_,rfl,⟨rfl,rfl,rfl⟩,rfl,fun _=>fun _ _ h=>h⟩,⟨2,_,_,rfl,⟨rfl,rfl,rfl⟩,rfl,fun _=>(fun w v h=>by rw[show((1:Int):Rat)=1 from rfl]at h; exact h)⟩,trivial⟩ ⟨Qp 1 rfl,Qp 2 rfl,⟨rfl,rfl,3,_,rfl,(Xc rfl)⟩,trivial⟩)⟩ ?_
  intro q1 a w hIk
  obtain⟨⟨hk1,hM,hns⟩,hI⟩:=hIk
  refine Ql hI [] [Ec 0 23 (pB (decide ((q1.k:Int)<(A.length:Int))))] [0] (.k (.k (.k .z))) (.kkk .z) ?_ (.k (.k (.k .z))) (.kkkk .z) fun a w hI=>?_
  ·exact⟨Qk (v:=.bool (decide ((q1.k:Int)<(A.length:Int)))) (.tp 2 rfl) (.tp 1 rfl) (fun _=>rfl) (.here 3 rfl),trivial⟩
  refine wp_seq ?_
  refine Xm hI 3 rfl (fun ht=>?_) (fun ht=>?_)
  ·have t1:=of_decide_eq_true ht
   refine wp_skip ?_
   refine Qf ?_
   refine wp_seq ?_
   refine wp_block ?_
   refine Ql hI [] [Ec 0 24 (pI (q1.k:Int)),Ec 1 7 (pI (q1.k:Int))] [0,1] (.k (.k (.k .z))) (.kkkk .z) ?_ (.k (.k (.k .z))) (.kkkd (.dk .z)) fun a w hI=>?_
   ·exact⟨Qa (.tp 2 rfl) (.here 4 rfl),Qc (.tp 4 rfl) (.here 5 rfl),trivial⟩
   obtain⟨X,eX⟩:∃X,X=dX A q1.k:=⟨_,rfl⟩
   have hM1:=hM
   rw[← eX]at hM1
   have hXl:X.length=A.length:=by rw[eX,Qci]
   have hXr:Rect A.length X:=by rw[eX]; exact hA.dX _ (by omega)
   have hXb:BdX (V0 j q1.k) X:=by rw[eX]; exact hAb.dX h1 _ (by omega)
   have hcol:∀i,i<X.length→q1.k<(X.getD i []).length:=fun i hi=>by rw[hXr i hi]; omega
   have hun:=hI.uniq 0 rfl
   have hjj:8*V0 j q1.k+1≤100000000:=Nat.le_trans (gjJ_mono (j:=j) (show q1.k+1≤A.length by omega)) hj
   refine Qc7 hI [] [] [Ec 0 26 (Qs (.slice (some ⟨m0.g,0,none⟩) A.length m0.cap)),Ec 1 27 (pI (q1.k:Int))] (.k (.k (.k .z))) (.kkkk .z) rfl [0,1,3,7,15,31,63,127] 2 (by kernel_rfl) ?_ (.k (.k (.k .z))) (.kkkk (.kk .z)) (fun a w hI=>hI) (⟨_,fun a w hI=>step_callL2 (fun _ _=>by kernel_rfl) hI (n0:=0) rfl (numlike_tup2 (Zc _) (Zc _)) (.tp 4 rfl) (.tp 5 rfl) (fun M B w v1 v2 hM hBM hH h1 h2=>r_pivot hM1 (by omega) (by omega) hcol (fun i hi=>bd_mem (hXb i)) M B w v1 v2 hM hBM hH (by rw[hXl]; exact h1) h2) (by kernel_rfl) (by kernel_rfl) (by kernel_rfl) (by kernel_rfl),
     _,fun a w hI=>Vj hI [] [Ec 0 25 (Xn (pB (decide (0≤X5 X q1.k))) (pB (decide (X5 X q1.k>0))))] (.k (.k (.k .z))) (.kkkk (.kkk .z)) (by kernel_rfl) (Qa (.tp 0 rfl) (.here 7 rfl)) (.k (.k (.k .z))) (.dkkk (.kddk .z)),
     _,fun a w hI=>Vj hI [] [Ec 0 29 (pB (decide (0≤X5 X q1.k)))] (.k (.k (.k .z))) (.kkkk (.k .z)) (by kernel_rfl) (Yh (.tp 4 rfl) Ue (.here 5 rfl)) (.k (.k (.k .z))) (.kkkk (.kk .z)),
     _,fun a w hI=>Vj hI [] [Ec 0 30 (pB (decide (X5 X q1.k>0)))] (.k (.k (.k .z))) (.kkkk (.kk .z)) (by kernel_rfl) (Yh (.tp 4 rfl) Uf (.here 6 rfl)) (.k (.k (.k .z))) (.kkkk (.dkk .z)),
     _,fun a w hI=>Vj hI [] [Ec 0 8 (pB (decide (0≤X5 X q1.k)))] (.k (.k (.k .z))) (.kkkk (.kk .z)) (by kernel_rfl) (Qc (.tp 4 rfl) (.here 6 rfl)) (.k (.k (.k .z))) (.kkkk (.dkk .z)),
     _,fun a w hI=>Vj hI [] [Ec 0 9 (pB (decide (X5 X q1.k>0)))] (.k (.k (.k .z))) (.kkkk (.kk .z)) (by kernel_rfl) (Qc (.tp 4 rfl) (.here 6 rfl)) (.k (.k (.k .z))) (.kkkk (.dkk .z)),
     rfl⟩) ?_
   ·exact⟨Qa (.tp 0 rfl) (.here 4 rfl),Qa (.tp 3 rfl) (.here 5 rfl),trivial⟩
   ·intro a w hI
    refine wp_seq ?_
    refine Ql hI [] [Ec 0 31 (pB (decide (0≤X5 X q1.k))),Ec 1 32 (pB (!(decide (0≤X5 X q1.k))))] [0,1] (.k (.k (.k .z))) (.kkkk (.kk .z)) ?_ (.k (.k (.k .z))) (.kkkk (.dkdk .z)) fun a w hI=>?_
    ·exact⟨Qa (.tp 4 rfl) (.here 6 rfl),K9 (.tp 6 rfl) (.here 7 rfl),trivial⟩
    refine Xm hI 5 rfl (fun ht=>?_) (fun ht=>?_)
    ·have t2:=ht
     refine Ql hI [] [Ec 0 33 (Qq 0),Ec 2 3 (pI 0)] [0,1,3] (.k (.u none [(1,pv (Qq 0))] (.k .z))) (.kkkk (.kk .z)) ?_ (.k (.s .o (.k .z))) (.kkkk (.kddk .z)) fun a w hI=>?_
     ·exact⟨op_zero Qea (fun w=>Yy w) (.here 6 rfl),X0 1 rfl rfl rfl rfl 0 rfl (by kernel_rfl) (by kernel_rfl) Q8 (.tp 6 rfl) (Yb _),Qc (.const _) (.here 7 rfl),trivial⟩
     refine wp_ret ?_
     refine Xh ?_
     refine Je ?_
     refine Xh ?_
     refine Xh ?_
     refine Je ?_
     refine Xh ?_
     exact K7 hI rfl (.imp (.cell 1 rfl rfl rfl rfl Q8 rfl) fun w v h=>by rw[detG_sing (show dSing A A.length from⟨q1.k,by omega,by rw[← eX]; have:=t2; simp at this; omega⟩)]; exact h) (.tmp 5 rfl)
    ·have t3:=ht
     refine wp_skip ?_
     refine Qf ?_
     refine wp_seq ?_
     have hp0:0≤X5 X q1.k:=by simpa using t3
     obtain⟨R1,eR1⟩:∃R1,R1=Zg X q1.R q1.k:=⟨_,rfl⟩
     obtain⟨X1,eX1⟩:∃X1,X1=Zg X X q1.k:=⟨_,rfl⟩
     obtain⟨H1,eH1⟩:∃H1,H1=Vx q1.H m0.g (Js (Zg X q1.R q1.k)):=⟨_,rfl⟩
     have hMp:MatOk m0.g m0.cap R1 X1 H1:=by rw[eR1,eX1,eH1]; exact hM1.pivot (by omega) fun e he hb=>hun e _ he hM1.top hb
     have hpne:(X1.getD q1.k []).getD q1.k 0≠0:=by rw[eX1]; exact piv_ne (by omega) hp0
     have hX1b:BdX (V0 j q1.k) X1:=by rw[eX1]; exact hXb.piv (by omega) (gjJ_pos h1 _)
     have hX1l:X1.length=A.length:=by rw[eX1,Qc1]; exact hXl
     have hX1r:Rect A.length X1:=by rw[eX1]; exact hXr.piv (by omega)
     rw[← eH1]at hI
     obtain⟨rc,hrc⟩:=hMp.get (i:=q1.k) (by omega)
     have hfc:=hMp.fit _ _ hrc
     have hrl:=hX1r q1.k (by omega)
     have bd0:=bd_dD hAb h1 q1.k (by omega)
     have bdn:BdR (dJ j q1.k) (if X5 X q1.k>0 then -(dD A q1.k)else dD A q1.k):=by split; exact bd0.neg; exact bd0
     have hdj:dJ j q1.k+V0 j q1.k≤100000000:=Nat.le_trans (dJ_mono (j:=j) (show q1.k+1≤A.length by omega)) hd
     refine Ql hI [] [Ec 0 34 (pB (decide (X5 X q1.k>0)))] [0] (.k (.k (.k .z))) (.kkkk (.kk .z)) ?_ (.k (.k (.k .z))) (.kkkk (.ddk .z)) fun a w hI=>?_
     ·exact⟨Qa (.tp 4 rfl) (.here 6 rfl),trivial⟩
     refine wp_joinT (fun a w=>Inv ⟨80,w0,M,fun _=>False⟩ [⟨18,18,none,none,.obj,0,0,false,Kl H1,[]⟩,⟨2,2,none,none,.ptr,38,3,true,pv (Qq 0),[]⟩,⟨6,6,none,none,.ptr,38,3,true,pv (Qq (if X5 X q1.k>0 then -(dD A q1.k)else dD A q1.k)),[]⟩] [] [Ez 5 (Qs (.slice (some ⟨m0.g,0,none⟩) A.length m0.cap)),Ez 21 (pI (A.length:Int)),Ez 22 (pI (q1.k:Int)),Ez 7 (pI (q1.k:Int))] Qi a w) ?_ ?_
     ·
      refine Xm hI 4 rfl (fun ht=>?_) (fun ht=>?_)
      ·have t4:=of_decide_eq_true ht
       refine Y4 hI [] [Ec 0 35 (Qq (dD A q1.k)),Ec 1 36 (Qq (-(dD A q1.k)))] [0,1,3] (.k (.k (.u none [(2,pv (Qq (-(dD A q1.k))))] .z))) (.kkkk (.k .z)) ?_ (.k (.k (.s .o .z))) (.kkkk (.ddd .z)) fun a w hI=>?_
       ·exact⟨Xp 2 rfl rfl rfl rfl (by kernel_rfl) Q8 rfl (.here 5 rfl),Zf (fun _ _=>by kernel_rfl) (Y5 _) (.tp 5 rfl) (.here 6 rfl) (c_neg _),X0 2 rfl rfl rfl rfl 0 rfl (by kernel_rfl) (by kernel_rfl) Q8 (.tp 6 rfl) (Yb _),trivial⟩
       refine Qf ?_
       exact(hI.conv ⟨⟨0,_,_,rfl,⟨rfl,rfl,rfl⟩,rfl,fun _=>fun _ _ h=>h⟩,⟨1,_,_,rfl,⟨rfl,rfl,rfl⟩,rfl,fun _=>fun _ _ h=>h⟩,⟨2,_,_,rfl,⟨rfl,rfl,rfl⟩,rfl,fun _=>(fun w v h=>by rw[if_pos t4]; exact h)⟩,trivial⟩ ⟨Qp 0 rfl,Qp 1 rfl,Qp 2 rfl,Qp 3 rfl,trivial⟩)
      ·have t5:=of_decide_eq_false ht
       refine wp_skip ?_
       refine Qf ?_
       exact(hI.conv ⟨⟨0,_,_,rfl,⟨rfl,rfl,rfl⟩,rfl,fun _=>fun _ _ h=>h⟩,⟨1,_,_,rfl,⟨rfl,rfl,rfl⟩,rfl,fun _=>fun _ _ h=>h⟩,⟨2,_,_,rfl,⟨rfl,rfl,rfl⟩,rfl,fun _=>(fun w v h=>by rw[if_neg t5]; exact h)⟩,trivial⟩ ⟨Qp 0 rfl,Qp 1 rfl,Qp 2 rfl,Qp 3 rfl,trivial⟩)
     ·
      intro a w hI
      refine seq_D1 hI [] [Ec 0 37 (Qq (if X5 X q1.k>0 then -(dD A q1.k)else dD A q1.k)),Ec 1 38 (Qs (.slice (some ⟨m0.g,0,none⟩) A.length m0.cap)),Ec 2 39 (pI (q1.k:Int)),Ec 3 40 (Qs (.pointer (some ⟨m0.g,0+((q1.k:Int)).toNat*1,none⟩))),Ec 4 41 (Qs (.slice (some ⟨rc.b,0,none⟩) rc.n rc.cap)),Ec 5 42 (pI (q1.k:Int)),Ec 6 43 (Qs (.pointer (some ⟨rc.b,0+((q1.k:Int)).toNat*3,none⟩))),Ec 7 44 (Qq ((X1.getD q1.k []).getD q1.k 0)),Ec 8 45 (Qq ((if X5 X q1.k>0 then -(dD A q1.k)else dD A q1.k)*(X1.getD q1.k []).getD q1.k 0))] [0,0,0,6,14,0,62,126,255,511] (.k (.k (.u none [(9,pv (Qq ((if X5 X q1.k>0 then -(dD A q1.k)else dD A q1.k)*(X1.getD q1.k []).getD q1.k 0)))] .z))) (.kkkk .z) ?_ (.k (.k (.s .o .z))) (.kkkk (.d8 (.d .z))) fun a w hI=>?_
      ·exact⟨Xp 2 rfl rfl rfl rfl (by kernel_rfl) Q8 rfl (.here 4 rfl),Qa (.tp 0 rfl) (.here 5 rfl),Qa (.tp 3 rfl) (.here 6 rfl),Xk (.tp 5 rfl) (.tp 6 rfl) Xb (.here 7 rfl),Z0 (e:=⟨m0.g,1,false,Js R1⟩) (idx:=q1.k) 0 rfl rfl rfl (by kernel_rfl) rfl (.tp 7 rfl) hMp.top rfl (Vl hrc) (show 0+((q1.k:Int)).toNat*1=(q1.k)*1 by omega) X6 (.here 8 rfl),Qa (.tp 3 rfl) (.here 9 rfl),Xk (.tp 8 rfl) (.tp 9 rfl) Xo (.here 10 rfl),Z0 (e:=⟨rc.b,3,true,Yj (X1.getD q1.k []) rc.cap⟩) (idx:=q1.k) 0 rfl rfl rfl (by kernel_rfl) rfl (.tp 10 rfl) (hMp.rows _ _ hrc) rfl (K3 (by omega)) (show 0+((q1.k:Int)).toNat*3=(q1.k)*3 by omega) Q8 (.here 11 rfl),Yi (fun _ _=>by kernel_rfl) (Y5 _) (.tp 4 rfl) (.tp 11 rfl) (.here 12 rfl) (c_mul (j:=dJ j q1.k) (k:=V0 j q1.k) bdn (hX1b _ _) (by omega)),X0 2 rfl rfl rfl rfl 0 rfl (by kernel_rfl) (by kernel_rfl) Q8 (.tp 12 rfl) (Yb _),trivial⟩
      refine Ql hI [] [Ec 0 46 (pI (q1.k:Int)),Ec 1 47 (pI ((q1.k:Int)+(1:Int))),Ec 2 10 (pI ((q1.k:Int)+(1:Int)))] [0,1,3] (.k (.k (.k .z))) (.kkkk .z) ?_ (.k (.k (.k .z))) (.kkkk (.ddk .z)) fun a w hI=>?_
      ·exact⟨Qa (.tp 3 rfl) (.here 4 rfl),Qk (v:=.int .i64 (IntKind.i64.wrap ((q1.k:Int)+(1:Int)))) (.tp 4 rfl) (.const _) (fun _=>rfl) (.at_ 5 _ _ rfl (X8 (by omega))),Qc (.tp 5 rfl) (.here 6 rfl),trivial⟩
      refine wp_block ?_
      refine Xz (fun(q3:BI) a w=>((q1.k+1≤q3.k∧q3.k≤A.length)∧MatOk m0.g m0.cap R1 (elimD X1 q1.k q3.k) q3.H)∧Inv ⟨80,w0,M,fun _=>False⟩ [⟨18,18,none,none,.obj,0,0,false,Kl q3.H,[]⟩,⟨2,2,none,none,.ptr,38,3,true,pv (Qq 0),[]⟩,⟨6,6,none,none,.ptr,38,3,true,pv (Qq ((if X5 X q1.k>0 then -(dD A q1.k)else dD A q1.k)*(X1.getD q1.k []).getD q1.k 0)),[]⟩] [] [Ez 5 (Qs (.slice (some ⟨m0.g,0,none⟩) A.length m0.cap)),Ez 21 (pI (A.length:Int)),Ez 22 (pI (q1.k:Int)),Ez 7 (pI (q1.k:Int)),Ez 10 (pI (q3.k:Int))] Qi a w) (fun(q3:BI)=>A.length-q3.k) (⟨q1.k+1,R1,H1⟩) ⟨⟨⟨Nat.le_refl _,by show q1.k+1≤A.length; omega⟩,by show MatOk m0.g m0.cap R1 (elimD X1 q1.k (q1.k+1)) _; rw[Qft]; exact hMp⟩,(hI.conv ⟨⟨0,_,_,rfl,⟨rfl,rfl,rfl⟩,rfl,fun _=>(fun _ _ h=>h)⟩,⟨1,_,_,rfl,⟨rfl,rfl,rfl⟩,rfl,fun _=>fun _ _ h=>h⟩,⟨2,_,_,rfl,⟨rfl,rfl,rfl⟩,rfl,fun _=>fun _ _ h=>h⟩,trivial⟩ ⟨Qp 0 rfl,Qp 1 rfl,Qp 2 rfl,Qp 3 rfl,⟨rfl,rfl,4,_,rfl,(Xc (by show((q1.k:Int)+1)=((q1.k+1:Nat):Int); omega))⟩,trivial⟩)⟩ ?_
      intro q3 a w hIk
      obtain⟨⟨⟨hk3,hk3'⟩,hM3⟩,hI⟩:=hIk
      refine wp_seq ?_
      refine Ql hI [] [Ec 0 48 (pI (q3.k:Int)),Ec 1 49 (Qs (.slice (some ⟨m0.g,0,none⟩) A.length m0.cap)),Ec 2 50 (pI (A.length:Int)),Ec 3 51 (pB (decide ((q3.k:Int)<(A.length:Int))))] [0,1,3,7] (.k (.k (.k .z))) (.kkkk (.k .z)) ?_ (.k (.k (.k .z))) (.kkkk (.kddd (.k .z))) fun a w hI=>?_
      ·exact⟨Qa (.tp 4 rfl) (.here 5 rfl),Qa (.tp 0 rfl) (.here 6 rfl),Qep (.tp 6 rfl) (Xb).under (.here 7 rfl),Qk (v:=.bool (decide ((q3.k:Int)<(A.length:Int)))) (.tp 5 rfl) (.tp 7 rfl) (fun _=>rfl) (.here 8 rfl),trivial⟩
      refine Xm hI 5 rfl (fun ht=>?_) (fun ht=>?_)
      ·have t6:=of_decide_eq_true ht
       refine wp_skip ?_
       refine Qf ?_
       refine wp_seq ?_
       refine wp_block ?_
       obtain⟨ri,hri⟩:=hM3.get (i:=q3.k) (by rw[Kw]; omega)
       have hfi:=hM3.fit _ _ hri
       have hfc3:=hM3.fit _ _ hrc
       have eL1:(elimD X1 q1.k q3.k).getD q3.k []=X1.getD q3.k []:=elimD_at (by omega) (Nat.le_refl _)
       have eL2:(elimD X1 q1.k q3.k).getD q1.k []=X1.getD q1.k []:=elimD_own (by omega)
       rw[eL1]at hfi
       rw[eL2]at hfc3
       have m1:(⟨ri.b,3,true,Yj (X1.getD q3.k []) ri.cap⟩:Bk)∈q3.H:=by have h:=hM3.rows _ _ hri; rw[eL1]at h; exact h
       have m2:(⟨rc.b,3,true,Yj (X1.getD q1.k []) rc.cap⟩:Bk)∈q3.H:=by have h:=hM3.rows _ _ hrc; rw[eL2]at h; exact h
       have hne:rc.b≠ri.b:=hM3.apart _ _ _ _ hrc hri (by omega)
       have hl1:=hX1r q3.k (by omega)
       have hl2:=hX1r q1.k (by omega)
       have b1:=bd_mem (hX1b q3.k)
       have b2:=bd_mem (hX1b q1.k)
       have b3:=(hX1b q3.k q1.k).quo (hX1b q1.k q1.k)
       refine sem_SD hI [] [] [Ec 0 54 (Qs (.slice (some ⟨m0.g,0,none⟩) A.length m0.cap)),Ec 1 55 (pI (q3.k:Int)),Ec 2 56 (Qs (.pointer (some ⟨m0.g,0+((q3.k:Int)).toNat*1,none⟩))),Ec 3 57 (Qs (.slice (some ⟨ri.b,0,none⟩) ri.n ri.cap)),Ec 4 58 (Qs (.slice (some ⟨m0.g,0,none⟩) A.length m0.cap)),Ec 5 59 (pI (q1.k:Int)),Ec 6 60 (Qs (.pointer (some ⟨m0.g,0+((q1.k:Int)).toNat*1,none⟩))),Ec 7 61 (Qs (.slice (some ⟨rc.b,0,none⟩) rc.n rc.cap)),Ec 8 62 (Qs (.slice (some ⟨m0.g,0,none⟩) A.length m0.cap)),Ec 9 63 (pI (q3.k:Int)),Ec 10 64 (Qs (.pointer (some ⟨m0.g,0+((q3.k:Int)).toNat*1,none⟩))),Ec 11 65 (Qs (.slice (some ⟨ri.b,0,none⟩) ri.n ri.cap)),Ec 12 66 (pI (q1.k:Int)),Ec 13 67 (Qs (.pointer (some ⟨ri.b,0+((q1.k:Int)).toNat*3,none⟩))),Ec 14 68 (Qq ((X1.getD q3.k []).getD q1.k 0)),Ec 15 69 (Qs (.slice (some ⟨m0.g,0,none⟩) A.length m0.cap)),Ec 16 70 (pI (q1.k:Int)),Ec 17 71 (Qs (.pointer (some ⟨m0.g,0+((q1.k:Int)).toNat*1,none⟩))),Ec 18 72 (Qs (.slice (some ⟨rc.b,0,none⟩) rc.n rc.cap)),Ec 19 73 (pI (q1.k:Int)),Ec 20 74 (Qs (.pointer (some ⟨rc.b,0+((q1.k:Int)).toNat*3,none⟩))),Ec 21 75 (Qq ((X1.getD q1.k []).getD q1.k 0)),Ec 22 76 (Qq ((X1.getD q3.k []).getD q1.k 0/(X1.getD q1.k []).getD q1.k 0))] (.k (.k (.k .z))) (.kkkk (.kk .z)) rfl [0,0,3,7,0,0,48,112,0,0,768,1792,0,7936,16128,0,0,98304,229376,0,1015808,2064384,4194048,8388607] 23 (by kernel_rfl) ?_ (.k (.k (.k .z))) (.kkkk (.kddd (.dkdd (.dkdd (.d8 (.dddd (.k .z))))))) (fun a w hI=>hI) (⟨_,fun a w hI=>step_callL3 (fun _ _=>by kernel_rfl) hI (n0:=0) rfl (Zc _) (.tp 5 rfl) (.tp 6 rfl) (.tp 7 rfl) (fun M B w v1 v2 v3 hM hBM hH h1 h2 h3=>r_reduce (s1:=0) (s2:=0) (n1:=ri.n) (n2:=rc.n) (c1:=ri.cap) (c2:=rc.cap) (j:=V0 j q1.k) (j2:=V0 j q1.k) (jf:=V0 j q1.k+V0 j q1.k) m1 m2 hne (by omega) (by omega) (by omega) (by omega) b1 b2 b3 (by omega) M B w v1 v2 v3 hM hBM hH h1 h2 h3) (by kernel_rfl) (by kernel_rfl) (by kernel_rfl) (by kernel_rfl),
         rfl⟩) ?_
       ·exact⟨Qa (.tp 0 rfl) (.here 6 rfl),Qa (.tp 4 rfl) (.here 7 rfl),Xk (.tp 6 rfl) (.tp 7 rfl) Xb (.here 8 rfl),Z0 (e:=⟨m0.g,1,false,Js R1⟩) (idx:=q3.k) 0 rfl rfl rfl (by kernel_rfl) rfl (.tp 8 rfl) hM3.top rfl (Vl hri) (show 0+((q3.k:Int)).toNat*1=(q3.k)*1 by omega) X6 (.here 9 rfl),Qa (.tp 0 rfl) (.here 10 rfl),Qa (.tp 3 rfl) (.here 11 rfl),Xk (.tp 10 rfl) (.tp 11 rfl) Xb (.here 12 rfl),Z0 (e:=⟨m0.g,1,false,Js R1⟩) (idx:=q1.k) 0 rfl rfl rfl (by kernel_rfl) rfl (.tp 12 rfl) hM3.top rfl (Vl hrc) (show 0+((q1.k:Int)).toNat*1=(q1.k)*1 by omega) X6 (.here 13 rfl),Qa (.tp 0 rfl) (.here 14 rfl),Qa (.tp 4 rfl) (.here 15 rfl),Xk (.tp 14 rfl) (.tp 15 rfl) Xb (.here 16 rfl),Z0 (e:=⟨m0.g,1,false,Js R1⟩) (idx:=q3.k) 0 rfl rfl rfl (by kernel_rfl) rfl (.tp 16 rfl) hM3.top rfl (Vl hri) (show 0+((q3.k:Int)).toNat*1=(q3.k)*1 by omega) X6 (.here 17 rfl),Qa (.tp 3 rfl) (.here 18 rfl),Xk (.tp 17 rfl) (.tp 18 rfl) Xo (.here 19 rfl),Z0 (e:=⟨ri.b,3,true,Yj (X1.getD q3.k []) ri.cap⟩) (idx:=q1.k) 0 rfl rfl rfl (by kernel_rfl) rfl (.tp 19 rfl) m1 rfl (K3 (by omega)) (show 0+((q1.k:Int)).toNat*3=(q1.k)*3 by omega) Q8 (.here 20 rfl),Qa (.tp 0 rfl) (.here 21 rfl),Qa (.tp 3 rfl) (.here 22 rfl),Xk (.tp 21 rfl) (.tp 22 rfl) Xb (.here 23 rfl),Z0 (e:=⟨m0.g,1,false,Js R1⟩) (idx:=q1.k) 0 rfl rfl rfl (by kernel_rfl) rfl (.tp 23 rfl) hM3.top rfl (Vl hrc) (show 0+((q1.k:Int)).toNat*1=(q1.k)*1 by omega) X6 (.here 24 rfl),Qa (.tp 3 rfl) (.here 25 rfl),Xk (.tp 24 rfl) (.tp 25 rfl) Xo (.here 26 rfl),Z0 (e:=⟨rc.b,3,true,Yj (X1.getD q1.k []) rc.cap⟩) (idx:=q1.k) 0 rfl rfl rfl (by kernel_rfl) rfl (.tp 26 rfl) m2 rfl (K3 (by omega)) (show 0+((q1.k:Int)).toNat*3=(q1.k)*3 by omega) Q8 (.here 27 rfl),Yi (fun _ _=>by kernel_rfl) (Y5 _) (.tp 20 rfl) (.tp 27 rfl) (.here 28 rfl) (c_by (j:=V0 j q1.k) (k:=V0 j q1.k) (hX1b _ _) (hX1b _ _) (by omega) hpne),trivial⟩
       ·intro a w hI
        refine Yf ?_
        refine Qf ?_
        refine Y4 hI [] [Ec 0 52 (pI (q3.k:Int)),Ec 1 53 (pI ((q3.k:Int)+(1:Int))),Ec 2 10 (pI ((q3.k:Int)+(1:Int)))] [0,1,3] (.k (.k (.k .z))) (.kkkk (.k (.t 2 (.kkk .z)))) ?_ (.k (.k (.k .z))) (.dkkk (.kddd (.dddk .z))) fun a w hI=>?_
        ·exact⟨Qa (.tp 5 rfl) (.here 9 rfl),Qk (v:=.int .i64 (IntKind.i64.wrap ((q3.k:Int)+(1:Int)))) (.tp 9 rfl) (.const _) (fun _=>rfl) (.at_ 10 _ _ rfl (X8 (by omega))),Qc (.tp 10 rfl) (.here 11 rfl),trivial⟩
        refine Qf ?_
        exact⟨⟨q3.k+1,R1,Vx q3.H ri.b (Yj (if(X1.getD q3.k []).getD q1.k 0/(X1.getD q1.k []).getD q1.k 0=0 then X1.getD q3.k []else Jx (X1.getD q3.k []) 0 (X1.getD q1.k []) 0 ((X1.getD q3.k []).getD q1.k 0/(X1.getD q1.k []).getD q1.k 0) rc.n) ri.cap)⟩,⟨⟨⟨by show q1.k+1≤q3.k+1; omega,by show q3.k+1≤A.length; omega⟩,by have h:=hM3.setRow hri (l:=redD (X1.getD q3.k []) (X1.getD q1.k []) q1.k) (by rw[redD_len,eL1]); rw[elimD_step (by omega) (by omega)]at h; show MatOk m0.g m0.cap R1 (elimD X1 q1.k (q3.k+1)) _; rw[show rc.n=(X1.getD q1.k []).length by omega]; exact h⟩,(hI.conv ⟨⟨0,_,_,rfl,⟨rfl,rfl,rfl⟩,rfl,fun _=>(fun _ _ h=>h)⟩,⟨1,_,_,rfl,⟨rfl,rfl,rfl⟩,rfl,fun _=>fun _ _ h=>h⟩,⟨2,_,_,rfl,⟨rfl,rfl,rfl⟩,rfl,fun _=>fun _ _ h=>h⟩,trivial⟩ ⟨Qp 0 rfl,Qp 1 rfl,Qp 2 rfl,Qp 3 rfl,⟨rfl,rfl,4,_,rfl,(Xc (by show((q3.k:Int)+1)=((q3.k+1:Nat):Int); omega))⟩,trivial⟩)⟩,(show A.length-(q3.k+1)<A.length-q3.k by omega)⟩
      ·have t7:=of_decide_eq_false ht
       refine wp_exit ?_
       refine Qy ?_
       refine Qy ?_
       refine Xv ?_
       refine Yf ?_
       refine Qf ?_
       refine Y4 hI [] [Ec 0 78 (pI ((q1.k:Int)+(1:Int))),Ec 1 22 (pI ((q1.k:Int)+(1:Int)))] [0,1] (.k (.k (.k .z))) (.kk (.t 1 (.kkk .z))) ?_ (.k (.k (.k .z))) (.kkdd (.dddk .z)) fun a w hI=>?_
       ·exact⟨Qk (v:=.int .i64 (IntKind.i64.wrap ((q1.k:Int)+(1:Int)))) (.tp 2 rfl) (.const _) (fun _=>rfl) (.at_ 6 _ _ rfl (X8 (by omega))),Qa (.tp 6 rfl) (.here 7 rfl),trivial⟩
       refine Qf ?_
       exact⟨⟨q1.k+1,R1,q3.H⟩,⟨⟨by show q1.k+1≤A.length; omega,by have h:=hM3; rw[show q3.k=A.length by omega]at h; show MatOk m0.g m0.cap R1 (elimD (Zg (dX A q1.k) (dX A q1.k) q1.k) q1.k A.length) q3.H; rw[← eX,← eX1]; exact h,fun c hc=>by rcases Nat.lt_or_ge c q1.k with h|h; exact hns c h; rw[show c=q1.k by have:c<q1.k+1:=hc; omega,← eX]; exact hp0⟩,(hI.conv ⟨⟨0,_,_,rfl,⟨rfl,rfl,rfl⟩,rfl,fun _=>fun _ _ h=>h⟩,⟨1,_,_,rfl,⟨rfl,rfl,rfl⟩,rfl,fun _=>fun _ _ h=>h⟩,⟨2,_,_,rfl,⟨rfl,rfl,rfl⟩,rfl,fun _=>(fun w v h=>by show Qq ((if X5 (dX A q1.k) q1.k>0 then -(dD A q1.k)else dD A q1.k)*((Zg (dX A q1.k) (dX A q1.k) q1.k).getD q1.k []).getD q1.k 0) w v; rw[← eX,← eX1]; exact h)⟩,trivial⟩ ⟨Qp 0 rfl,Qp 1 rfl,⟨rfl,rfl,2,_,rfl,(Xc (by show((q1.k:Int)+1)=((q1.k+1:Nat):Int); omega))⟩,trivial⟩)⟩,(show A.length-(q1.k+1)<A.length-q1.k by omega)⟩
  ·have t8:=of_decide_eq_false ht
   refine wp_exit ?_
   refine Qy ?_
   refine Qy ?_
   refine Xv ?_
   refine Qf ?_
   refine Ql hI [] [Ec 0 79 (Qq (dD A q1.k)),Ec 2 3 (pI 0)] [0,1,3] (.k (.u none [(1,pv (Qq (dD A q1.k)))] (.k .z))) (.kkkk .z) ?_ (.k (.s .o (.k .z))) (.dddd (.dk .z)) fun a w hI=>?_
   ·exact⟨Xp 2 rfl rfl rfl rfl (by kernel_rfl) Q8 rfl (.here 4 rfl),X0 1 rfl rfl rfl rfl 0 rfl (by kernel_rfl) (by kernel_rfl) Q8 (.tp 4 rfl) (Yb _),Qc (.const _) (.here 5 rfl),trivial⟩
   refine wp_ret ?_
   exact K7 hI rfl (.imp (.cell 1 rfl rfl rfl rfl Q8 rfl) fun w v h=>by rw[detG_reg (fun⟨c,hc1,hc2⟩=>absurd (hns c (by omega)) (by omega)),show A.length=q1.k by omega]; exact h) (.tmp 0 rfl)
end Wx

namespace Wx
set_option maxRecDepth 100000
open Go Go.RowKit Go.Proofs
set_option linter.unusedVariables false

theorem c_Product_ok {A B:List (List Rat)} {j1 j2:Nat} (hR:Right A) (hQ:Right B) (hf:B.length=(A.getD 0 []).length) (hAb:BdX j1 A) (hBb:BdX j2 B) (h2:1≤j2) (hj:K6 (j1+j2) B.length≤100000000):∀(M:Nat→Nat→Prop) (w:World) (v0 v1:Value),Mid M w→Box M (fun w=>(Qr Qd A) w v0) w→Box M (fun w=>(Qr Qd B) w v1) w→Calls Tryz.prog 14 #[v0,v1] w (RetB M (Xn (Qj 1 false A.length fun i=>Qd ((Ko A (Xu B)).getD i [])) (pI 0)) w):=by
 intro M w0 v0 v1 hM hv0 hv1
 have h0:=hR.rows
 have h0':=hQ.rows
 have h1:=hR.cols
 have h1':=hQ.cols
 refine J1 (N:=28) Tryz.func14 rfl rfl rfl hM (show EntsA M w0 [v0,v1] [Ez 0 (Qr Qd A),Ez 1 (Qr Qd B)]from⟨⟨rfl,_,rfl,hv0⟩,⟨rfl,_,rfl,hv1⟩,trivial⟩) fun a hI=>?_
 refine Qo hI [Ec 0 4 (Qs ((Value.slice none 0 0))),Ec 1 5 (pI 0)] [0,1] (.kk .z) ?_ (.kkkk .z) fun a w hI=>?_
 ·exact⟨Qc (.const _) (.here 2 rfl),Qc (.const _) (.here 3 rfl),trivial⟩
 refine wp_seq ?_
 refine Qo hI [Ec 0 8 (Qr Qd A),Ec 1 9 (pI 0),Ec 2 6 (pI 0)] [0,1,3] (.kkkk .z) ?_ (.kkkk (.ddk .z)) fun a w hI=>?_
 ·exact⟨Qa (.tp 0 rfl) (.here 4 rfl),Q6 (fun _ _=>by kernel_rfl) (.tp 4 rfl) (.here 5 rfl) (Wn hR),Qc (.tp 5 rfl) (.here 6 rfl),trivial⟩
 refine Qo hI [Ec 0 10 (pI 0),Ec 1 11 (pB false)] [0,1] (.kkkk (.k .z)) ?_ (.kkkk (.kdk .z)) fun a w hI=>?_
 ·exact⟨Qa (.tp 4 rfl) (.here 5 rfl),Qk (v:=.bool (false)) (.tp 5 rfl) (.const _) (fun _=>rfl) (.here 6 rfl),trivial⟩
 refine Yk hI 5 rfl ?_
 refine wp_skip ?_
 refine Qf ?_
 refine wp_seq ?_
 refine Qo hI [Ec 0 13 (Qr Qd B),Ec 1 14 (pI 0),Ec 2 7 (pI 0)] [0,1,3] (.kkkk (.kk .z)) ?_ (.kkkk (.dddd (.k .z))) fun a w hI=>?_
 ·exact⟨Qa (.tp 1 rfl) (.here 6 rfl),Q6 (fun _ _=>by kernel_rfl) (.tp 6 rfl) (.here 7 rfl) (Wn hQ),Qc (.tp 7 rfl) (.here 8 rfl),trivial⟩
 refine Qo hI [Ec 0 15 (pI 0),Ec 1 16 (pB false)] [0,1] (.kkkk (.k .z)) ?_ (.kkkk (.kdk .z)) fun a w hI=>?_
 ·exact⟨Qa (.tp 4 rfl) (.here 5 rfl),Qk (v:=.bool (false)) (.tp 5 rfl) (.const _) (fun _=>rfl) (.here 6 rfl),trivial⟩
 refine Yk hI 5 rfl ?_
 refine wp_skip ?_
 refine Qf ?_
 refine wp_seq ?_
 refine Qo hI [Ec 0 18 (Qr Qd B),Ec 1 19 (pI (B.length:Int)),Ec 2 20 (Qr Qd A),Ec 3 21 (Ye 1 false (Qd (A.getD 0 []))),Ec 4 22 (Qd (A.getD 0 [])),Ec 5 23 (pI ((A.getD 0 []).length:Int)),Ec 6 24 (pB false)] [0,1,3,7,15,31,63] (.kkkk (.kk .z)) ?_ (.kkkk (.d8 (.k .z))) fun a w hI=>?_
 ·exact⟨Qa (.tp 1 rfl) (.here 6 rfl),Q4 (.tp 6 rfl) (Xb).under (.here 7 rfl),Qa (.tp 0 rfl) (.here 8 rfl),Qw (.tp 8 rfl) (.const _) Xb (.here 9 rfl),Q7 (.tp 9 rfl) X6 ((Y6 _)) (.here 10 rfl),Q4 (.tp 10 rfl) (Xo).under (.here 11 rfl),Qk (v:=.bool (((B.length:Int) != ((A.getD 0 []).length:Int)))) (.tp 7 rfl) (.tp 11 rfl) (fun _=>rfl) (.at_ 12 _ _ rfl (Y7 ((by rw[hf]; exact bne_self_eq_false _)))),trivial⟩
 refine Yk hI 4 rfl ?_
 refine wp_skip ?_
 refine Qf ?_
 refine Qo hI [Ec 0 25 (Qr Qd A),Ec 1 26 (Qr Qd B),Ec 2 27 (Qj 1 false A.length (fun i=>Qd ((Ko A (Xu B)).getD i []))),Ec 3 4 (Qj 1 false A.length (fun i=>Qd ((Ko A (Xu B)).getD i []))),Ec 4 5 (pI 0)] [0,1,3,7,15] (.kk (.t 3 (.t 4 (.k .z)))) ?_ (.d8 (.kk .z)) fun a w hI=>?_
 ·exact⟨Qa (.tp 0 rfl) (.here 5 rfl),Qa (.tp 1 rfl) (.here 6 rfl),Kk (fun _ _=>by kernel_rfl) (.tp 5 rfl) (.tp 6 rfl) (.here 7 rfl) (c_product (j1:=j1) (j2:=j2) (by omega) ⟨by omega,by omega⟩ (fun i hi=>by rw[hR.rect i hi,hf]) hQ.rect (by omega) hAb hBb h2 hj),Qc (.tp 7 rfl) (.here 8 rfl),Qc (.const _) (.here 9 rfl),trivial⟩
 refine wp_ret ?_
 exact K7 hI rfl (.tmp 0 rfl) (.tmp 1 rfl)
end Wx
