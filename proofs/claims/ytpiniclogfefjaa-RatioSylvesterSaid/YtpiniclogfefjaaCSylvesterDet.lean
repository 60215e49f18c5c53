import Derived.Test.YtpiniclogfefjaaJSylvester40
namespace Wx
set_option maxRecDepth 100000
open Go Go.RowKit Go.Proofs
set_option linter.unusedVariables false

theorem c_Det {A:List (List Rat)} {j:Nat} (hR:Right A) (hA:Rect A.length A) (hAb:BdX j A) (h1:1≤j) (hj:Wv j A.length≤100000000) (hd:dJ j A.length≤100000000):∀(M:Nat→Nat→Prop) (w:World) (v0:Value),Mid M w→Box M (fun w=>(Qg 1 false A.length (fun i=>Qd (A.getD i []))) w v0) w→Calls Try.prog 17 #[v0] w (RetB M (Zd (Qk (Za A)) (pI 0)) w):=by
 intro M w0 v0 hM hv0
 have h0:=hR.rows.1
 have hn:=hR.rows.2
 have hA0:∀i,i<A.length→0<(A.getD i []).length:=fun i hi=>by rw[hA i hi]; exact h0
 have hAm:∀i,i<A.length→(A.getD i []).length≤1000000:=fun i hi=>by rw[hA i hi]; omega
 refine Jz (N:=80) Try.func17 rfl rfl rfl hM (show EntsA M w0 [v0] [⟨none,none,0,Qg 1 false A.length (fun i=>Qd (A.getD i []))⟩]from⟨⟨rfl,_,rfl,hv0⟩,trivial⟩) fun a hI=>?_
 refine Qh hI [⟨2,2,some 0,none,.ptr,32,3,true,pv (Qk 0),[]⟩] [] [⟨some 1,none,3,pI 0⟩] .z (.k .z) rfl [0,1] (by kernel_rfl) ?_ (.k .z) (.kk .z) fun a w hI=>?_
 ·exact⟨J4 0 rfl rfl (by kernel_rfl) (by kernel_rfl) rfl rfl rfl Jj rfl rfl (by simp[Yr]) rfl (fun w=>Yl w),Qc (.const _) (.here 1 rfl),trivial⟩
 refine wp_seq ?_
 refine Qh hI [] [] [⟨some 0,none,11,Qg 1 false A.length (fun i=>Qd (A.getD i []))⟩,⟨some 1,none,12,pI 0⟩,⟨some 2,none,4,pI 0⟩] (.k .z) (.kk .z) rfl [0,1,3] (by kernel_rfl) ?_ (.k .z) (.kkdd (.k .z)) fun a w hI=>?_
 ·exact⟨Qa (.tmp 0 rfl rfl) (.here 2 rfl),Zn (fun _ _=>by kernel_rfl) (.tmp 2 rfl rfl) (.here 3 rfl) (Qch hR (hA 0 h0)),Qc (.tmp 3 rfl rfl) (.here 4 rfl),trivial⟩
 refine Qh hI [] [] [⟨some 0,none,13,pI 0⟩,⟨some 1,none,14,pB false⟩] (.k .z) (.kkk .z) rfl [0,1] (by kernel_rfl) ?_ (.k .z) (.kkkd (.k .z)) fun a w hI=>?_
 ·exact⟨Qa (.tmp 2 rfl rfl) (.here 3 rfl),Qo (v:=.bool (false)) (.tmp 3 rfl rfl) (.const _) (fun _=>rfl) (.here 4 rfl),trivial⟩
 refine Zt hI 3 rfl ?_
 refine wp_skip ?_
 refine Qi ?_
 refine Vx hI [] [] [⟨some 0,none,17,Qg 1 false A.length (fun i=>Qd (A.getD i []))⟩] (.k .z) (.kkkk .z) rfl [0,1,3] 1 (by kernel_rfl) ?_ (.k .z) (.dkdd (.k .z)) (fun a w hI=>hI) (⟨_,fun a w hI=>Qe2 18 (fun _ _=>by kernel_rfl) hI (.tmp 1 rfl rfl) (fun M w v hM hv=>r_copied h0 (by omega) hA0 hAm M w v hM hv) (by kernel_rfl) (by kernel_rfl) (by kernel_rfl),
   _,exL fun l hC a w hI=>Jh hI [] [⟨some 0,none,5,Qe (.slice (some ⟨l.g,0,none⟩) A.length l.cap)⟩] (.k (.k .z)) (.kkk .z) (by kernel_rfl) (Qc (.tmp 0 rfl rfl) (.here 3 rfl)) (.k (.k .z)) (.dkdk .z),
   rfl⟩) ?_
 ·exact⟨Qa (.tmp 0 rfl rfl) (.here 4 rfl),trivial⟩
 ·rintro a w ⟨m0,hC,hI⟩
  have hC:MatOk m0.g m0.cap m0.R A m0.H:=hC
  refine Qh hI [⟨6,6,some 1,none,.ptr,32,3,true,pv (Qk 0),[(2,pv (Qk ((1:Int):Rat)))]⟩] [] [⟨some 0,none,19,Qk ((1:Int):Rat)⟩] (.k (.k .z)) (.kk .z) rfl [0,1,3] (by kernel_rfl) ?_ (.k (.k (.s .o .z))) (.kkd .z) fun a w hI=>?_
  ·exact⟨Y2 (fun _ _=>by kernel_rfl) (Xr _) (.const _) (.here 2 rfl) (c_int 1 (by omega) (by omega)),J4 2 rfl rfl (by kernel_rfl) (by kernel_rfl) rfl rfl rfl Jj rfl rfl (by simp[Yr]) rfl (fun w=>Yl w),Zo 2 rfl rfl rfl rfl 0 rfl (by kernel_rfl) (by kernel_rfl) Qr (.tmp 2 rfl rfl) (Xb _),trivial⟩
  refine wp_seq ?_
  have hXr0:Rect A.length A:=hA
  refine Qh hI [] [] [⟨some 0,none,20,Qe (.slice (some ⟨m0.g,0,none⟩) A.length m0.cap)⟩,⟨some 1,none,21,pI (A.length:Int)⟩,⟨some 2,none,22,pI 0⟩] (.k (.k (.k .z))) (.kk .z) rfl [0,1,3] (by kernel_rfl) ?_ (.k (.k (.k .z))) (.kkdk (.k .z)) fun a w hI=>?_
  ·exact⟨Qa (.tmp 1 rfl rfl) (.here 2 rfl),Js (.tmp 2 rfl rfl) (Qx).under (.here 3 rfl),Qa (.const _) (.here 4 rfl),trivial⟩
  refine wp_block ?_
  refine Xn (fun(q1:BI) a w=>(q1.k≤A.length∧MatOk m0.g m0.cap q1.R (dX A q1.k) q1.H∧∀c,c<q1.k→0≤Xh (dX A c) c)∧Inv ⟨80,w0,M,fun _=>False⟩ [⟨18,18,none,none,.obj,0,0,false,Zj q1.H,[]⟩,⟨2,2,none,none,.ptr,32,3,true,pv (Qk 0),[]⟩,⟨6,6,none,none,.ptr,32,3,true,pv (Qk (dD A q1.k)),[]⟩] [] [⟨none,none,5,Qe (.slice (some ⟨m0.g,0,none⟩) A.length m0.cap)⟩,⟨none,none,21,pI (A.length:Int)⟩,⟨none,none,22,pI (q1.k:Int)⟩] Qf a w) (fun(q1:BI)=>A.length-q1.k) (⟨0,m0.R,m0.H⟩) ⟨⟨Nat.zero_le _,hC,fun c hc=>absurd hc (Nat.not_lt_zero _)⟩,(hI.conv ⟨⟨0,_,_,rfl,⟨rfl,rfl,rfl⟩,rfl,fun _=>(fun _ _ h=>h)⟩,⟨1,_,_,rfl,⟨rfl,rfl,rfl⟩,rfl,fun _=>fun _ _ h=>h⟩,⟨2,_,_,rfl,⟨rfl,rfl,rfl⟩,rfl,fun _=>(fun w v h=>by rw[show((1:Int):Rat)=1 from rfl]at h; exact h)⟩,trivial⟩ ⟨⟨rfl,rfl,1,_,rfl,fun _ _ h=>h⟩,⟨rfl,rfl,2,_,rfl,fun _ _ h=>h⟩,⟨rfl,rfl,3,_,rfl,(Xa rfl)⟩,trivial⟩)⟩ ?_
  intro q1 a w hIk
  obtain⟨⟨hk1,hM,hns⟩,hI⟩:=hIk
  refine Qh hI [] [] [⟨some 0,none,23,pB (decide ((q1.k:Int)<(A.length:Int)))⟩] (.k (.k (.k .z))) (.kkk .z) rfl [0] (by kernel_rfl) ?_ (.k (.k (.k .z))) (.kkkk .z) fun a w hI=>?_
  ·exact⟨Qo (v:=.bool (decide ((q1.k:Int)<(A.length:Int)))) (.tmp 2 rfl rfl) (.tmp 1 rfl rfl) (fun _=>rfl) (.here 3 rfl),trivial⟩
  refine wp_seq ?_
  refine Xd hI 3 rfl (fun ht=>?_) (fun ht=>?_)
  ·have t1:=of_decide_eq_true ht
   refine wp_skip ?_
   refine Qi ?_
   refine wp_seq ?_
   refine wp_block ?_
   refine Qh hI [] [] [⟨some 0,none,24,pI (q1.k:Int)⟩,⟨some 1,none,7,pI (q1.k:Int)⟩] (.k (.k (.k .z))) (.kkkk .z) rfl [0,1] (by kernel_rfl) ?_ (.k (.k (.k .z))) (.kkkd (.dk .z)) fun a w hI=>?_
   ·exact⟨Qa (.tmp 2 rfl rfl) (.here 4 rfl),Qc (.tmp 4 rfl rfl) (.here 5 rfl),trivial⟩
   obtain⟨X,eX⟩:∃X,X=dX A q1.k:=⟨_,rfl⟩
   have hM1:=hM
   rw[← eX]at hM1
   have hXl:X.length=A.length:=by rw[eX,Qbi]
   have hXr:Rect A.length X:=by rw[eX]; exact hA.dX _ (by omega)
   have hXb:BdX (Wv j q1.k) X:=by rw[eX]; exact hAb.dX h1 _ (by omega)
   have hcol:∀i,i<X.length→q1.k<(X.getD i []).length:=fun i hi=>by rw[hXr i hi]; omega
   have hun:=hI.uniq 0 rfl
   have hjj:8*Wv j q1.k+1≤100000000:=Nat.le_trans (gjJ_mono (j:=j) (show q1.k+1≤A.length by omega)) hj
   refine Vx hI [] [] [⟨some 0,none,26,Qe (.slice (some ⟨m0.g,0,none⟩) A.length m0.cap)⟩,⟨some 1,none,27,pI (q1.k:Int)⟩] (.k (.k (.k .z))) (.kkkk .z) rfl [0,1,3,7,15,31,63,127] 2 (by kernel_rfl) ?_ (.k (.k (.k .z))) (.kkkk (.kk .z)) (fun a w hI=>hI) (⟨_,fun a w hI=>step_callL2 (fun _ _=>by kernel_rfl) hI (n0:=0) rfl (numlike_tup2 (Xt _) (Xt _)) (.tmp 4 rfl rfl) (.tmp 5 rfl rfl) (fun M B w v1 v2 hM hBM hH h1 h2=>r_pivot hM1 (by omega) (by omega) hcol (fun i hi=>bd_mem (hXb i)) M B w v1 v2 hM hBM hH (by rw[hXl]; exact h1) h2) (by kernel_rfl) (by kernel_rfl) (by kernel_rfl) (by kernel_rfl),
     _,fun a w hI=>Jh hI [] [⟨some 0,none,25,Zd (pB (decide (0≤Xh X q1.k))) (pB (decide (Xh X q1.k>0)))⟩] (.k (.k (.k .z))) (.kkkk (.kkk .z)) (by kernel_rfl) (Qa (.tmp 0 rfl rfl) (.here 7 rfl)) (.k (.k (.k .z))) (.dkkk (.kddk .z)),
     _,fun a w hI=>Jh hI [] [⟨some 0,none,29,pB (decide (0≤Xh X q1.k))⟩] (.k (.k (.k .z))) (.kkkk (.k .z)) (by kernel_rfl) (Xo (.tmp 4 rfl rfl) ex2_0 (.here 5 rfl)) (.k (.k (.k .z))) (.kkkk (.kk .z)),
     _,fun a w hI=>Jh hI [] [⟨some 0,none,30,pB (decide (Xh X q1.k>0))⟩] (.k (.k (.k .z))) (.kkkk (.kk .z)) (by kernel_rfl) (Xo (.tmp 4 rfl rfl) ex2_1 (.here 6 rfl)) (.k (.k (.k .z))) (.kkkk (.dkk .z)),
     _,fun a w hI=>Jh hI [] [⟨some 0,none,8,pB (decide (0≤Xh X q1.k))⟩] (.k (.k (.k .z))) (.kkkk (.kk .z)) (by kernel_rfl) (Qc (.tmp 4 rfl rfl) (.here 6 rfl)) (.k (.k (.k .z))) (.kkkk (.dkk .z)),
     _,fun a w hI=>Jh hI [] [⟨some 0,none,9,pB (decide (Xh X q1.k>0))⟩] (.k (.k (.k .z))) (.kkkk (.kk .z)) (by kernel_rfl) (Qc (.tmp 4 rfl rfl) (.here 6 rfl)) (.k (.k (.k .z))) (.kkkk (.dkk .z)),
     rfl⟩) ?_
   ·exact⟨Qa (.tmp 0 rfl rfl) (.here 4 rfl),Qa (.tmp 3 rfl rfl) (.here 5 rfl),trivial⟩
   ·intro a w hI
    refine wp_seq ?_
    refine Qh hI [] [] [⟨some 0,none,31,pB (decide (0≤Xh X q1.k))⟩,⟨some 1,none,32,pB (!(decide (0≤Xh X q1.k)))⟩] (.k (.k (.k .z))) (.kkkk (.kk .z)) rfl [0,1] (by kernel_rfl) ?_ (.k (.k (.k .z))) (.kkkk (.dkdk .z)) fun a w hI=>?_
    ·exact⟨Qa (.tmp 4 rfl rfl) (.here 6 rfl),Vw (.tmp 6 rfl rfl) (.here 7 rfl),trivial⟩
    refine Xd hI 5 rfl (fun ht=>?_) (fun ht=>?_)
    ·have t2:=ht
     refine Qh hI [] [] [⟨some 0,none,33,Qk 0⟩,⟨some 2,none,3,pI 0⟩] (.k (.u none [(1,pv (Qk 0))] (.k .z))) (.kkkk (.kk .z)) rfl [0,1,3] (by kernel_rfl) ?_ (.k (.s .o (.k .z))) (.kkkk (.kddk .z)) fun a w hI=>?_
     ·exact⟨op_zero bt_Ratio (fun w=>Yl w) (.here 6 rfl),Zo 1 rfl rfl rfl rfl 0 rfl (by kernel_rfl) (by kernel_rfl) Qr (.tmp 6 rfl rfl) (Xb _),Qc (.const _) (.here 7 rfl),trivial⟩
     refine wp_ret ?_
     refine X7 ?_
     refine Ze ?_
     refine X7 ?_
     refine X7 ?_
     refine Ze ?_
     refine X7 ?_
     exact fin2 hI rfl (.imp (.cell 1 rfl rfl rfl rfl Qr rfl) fun w v h=>by rw[detG_sing (show dSing A A.length from⟨q1.k,by omega,by rw[← eX]; have:=t2; simp at this; omega⟩)]; exact h) (.tmp 5 rfl)
    ·have t3:=ht
     refine wp_skip ?_
     refine Qi ?_
     refine wp_seq ?_
     have hp0:0≤Xh X q1.k:=by simpa using t3
     obtain⟨R1,eR1⟩:∃R1,R1=Yq X q1.R q1.k:=⟨_,rfl⟩
     obtain⟨X1,eX1⟩:∃X1,X1=Yq X X q1.k:=⟨_,rfl⟩
     obtain⟨H1,eH1⟩:∃H1,H1=Y0 q1.H m0.g (Y7 (Yq X q1.R q1.k)):=⟨_,rfl⟩
     have hMp:MatOk m0.g m0.cap R1 X1 H1:=by rw[eR1,eX1,eH1]; exact hM1.pivot (by omega) fun e he hb=>hun e _ he hM1.top hb
     have hpne:(X1.getD q1.k []).getD q1.k 0≠0:=by rw[eX1]; exact piv_ne (by omega) hp0
     have hX1b:BdX (Wv j q1.k) X1:=by rw[eX1]; exact hXb.piv (by omega) (gjJ_pos h1 _)
     have hX1l:X1.length=A.length:=by rw[eX1,Qbt]; exact hXl
     have hX1r:Rect A.length X1:=by rw[eX1]; exact hXr.piv (by omega)
     rw[← eH1]at hI
     obtain⟨rc,hrc⟩:=hMp.get (i:=q1.k) (by omega)
     have hfc:=hMp.fit _ _ hrc
     have hrl:=hX1r q1.k (by omega)
     have bd0:=bd_dD hAb h1 q1.k (by omega)
     have bdn:BdR (dJ j q1.k) (if Xh X q1.k>0 then -(dD A q1.k)else dD A q1.k):=by split; exact bd0.neg; exact bd0
     have hdj:dJ j q1.k+Wv j q1.k≤100000000:=Nat.le_trans (dJ_mono (j:=j) (show q1.k+1≤A.length by omega)) hd
     refine Qh hI [] [] [⟨some 0,none,34,pB (decide (Xh X q1.k>0))⟩] (.k (.k (.k .z))) (.kkkk (.kk .z)) rfl [0] (by kernel_rfl) ?_ (.k (.k (.k .z))) (.kkkk (.ddk .z)) fun a w hI=>?_
     ·exact⟨Qa (.tmp 4 rfl rfl) (.here 6 rfl),trivial⟩
     refine wp_joinT (fun a w=>Inv ⟨80,w0,M,fun _=>False⟩ [⟨18,18,none,none,.obj,0,0,false,Zj H1,[]⟩,⟨2,2,none,none,.ptr,32,3,true,pv (Qk 0),[]⟩,⟨6,6,none,none,.ptr,32,3,true,pv (Qk (if Xh X q1.k>0 then -(dD A q1.k)else dD A q1.k)),[]⟩] [] [⟨none,none,5,Qe (.slice (some ⟨m0.g,0,none⟩) A.length m0.cap)⟩,⟨none,none,21,pI (A.length:Int)⟩,⟨none,none,22,pI (q1.k:Int)⟩,⟨none,none,7,pI (q1.k:Int)⟩] Qf a w) ?_ ?_
     ·
      refine Xd hI 4 rfl (fun ht=>?_) (fun ht=>?_)
      ·have t4:=of_decide_eq_true ht
       refine Yx hI [] [] [⟨some 0,none,35,Qk (dD A q1.k)⟩,⟨some 1,none,36,Qk (-(dD A q1.k))⟩] (.k (.k (.u none [(2,pv (Qk (-(dD A q1.k))))] .z))) (.kkkk (.k .z)) rfl [0,1,3] (by kernel_rfl) ?_ (.k (.k (.s .o .z))) (.kkkk (.ddd .z)) fun a w hI=>?_
       ·exact⟨Yg 2 rfl rfl rfl rfl (by kernel_rfl) Qr rfl (.here 5 rfl),Y2 (fun _ _=>by kernel_rfl) (Xr _) (.tmp 5 rfl rfl) (.here 6 rfl) (c_neg _),Zo 2 rfl rfl rfl rfl 0 rfl (by kernel_rfl) (by kernel_rfl) Qr (.tmp 6 rfl rfl) (Xb _),trivial⟩
       refine Qi ?_
       exact(hI.conv ⟨⟨0,_,_,rfl,⟨rfl,rfl,rfl⟩,rfl,fun _=>fun _ _ h=>h⟩,⟨1,_,_,rfl,⟨rfl,rfl,rfl⟩,rfl,fun _=>fun _ _ h=>h⟩,⟨2,_,_,rfl,⟨rfl,rfl,rfl⟩,rfl,fun _=>(fun w v h=>by rw[if_pos t4]; exact h)⟩,trivial⟩ ⟨⟨rfl,rfl,0,_,rfl,fun _ _ h=>h⟩,⟨rfl,rfl,1,_,rfl,fun _ _ h=>h⟩,⟨rfl,rfl,2,_,rfl,fun _ _ h=>h⟩,⟨rfl,rfl,3,_,rfl,fun _ _ h=>h⟩,trivial⟩)
      ·have t5:=of_decide_eq_false ht
       refine wp_skip ?_
       refine Qi ?_
       exact(hI.conv ⟨⟨0,_,_,rfl,⟨rfl,rfl,rfl⟩,rfl,fun _=>fun _ _ h=>h⟩,⟨1,_,_,rfl,⟨rfl,rfl,rfl⟩,rfl,fun _=>fun _ _ h=>h⟩,⟨2,_,_,rfl,⟨rfl,rfl,rfl⟩,rfl,fun _=>(fun w v h=>by rw[if_neg t5]; exact h)⟩,trivial⟩ ⟨⟨rfl,rfl,0,_,rfl,fun _ _ h=>h⟩,⟨rfl,rfl,1,_,rfl,fun _ _ h=>h⟩,⟨rfl,rfl,2,_,rfl,fun _ _ h=>h⟩,⟨rfl,rfl,3,_,rfl,fun _ _ h=>h⟩,trivial⟩)
     ·
      intro a w hI
      refine seq_D hI [] [] [⟨some 0,none,37,Qk (if Xh X q1.k>0 then -(dD A q1.k)else dD A q1.k)⟩,⟨some 1,none,38,Qe (.slice (some ⟨m0.g,0,none⟩) A.length m0.cap)⟩,⟨some 2,none,39,pI (q1.k:Int)⟩,⟨some 3,none,40,Qe (.pointer (some ⟨m0.g,0+((q1.k:Int)).toNat*1,none⟩))⟩,⟨some 4,none,41,Qe (.slice (some ⟨rc.b,0,none⟩) rc.n rc.cap)⟩,⟨some 5,none,42,pI (q1.k:Int)⟩,⟨some 6,none,43,Qe (.pointer (some ⟨rc.b,0+((q1.k:Int)).toNat*3,none⟩))⟩,⟨some 7,none,44,Qk ((X1.getD q1.k []).getD q1.k 0)⟩,⟨some 8,none,45,Qk ((if Xh X q1.k>0 then -(dD A q1.k)else dD A q1.k)*(X1.getD q1.k []).getD q1.k 0)⟩] (.k (.k (.u none [(9,pv (Qk ((if Xh X q1.k>0 then -(dD A q1.k)else dD A q1.k)*(X1.getD q1.k []).getD q1.k 0)))] .z))) (.kkkk .z) rfl [0,0,0,6,14,0,62,126,255,511] (by kernel_rfl) ?_ (.k (.k (.s .o .z))) (.kkkk (.d8 (.d .z))) fun a w hI=>?_
      ·exact⟨Yg 2 rfl rfl rfl rfl (by kernel_rfl) Qr rfl (.here 4 rfl),Qa (.tmp 0 rfl rfl) (.here 5 rfl),Qa (.tmp 3 rfl rfl) (.here 6 rfl),Qs (.tmp 5 rfl rfl) (.tmp 6 rfl rfl) Qx (by omega) (by omega) (by kernel_rfl) (.here 7 rfl),Q5 (e:=⟨m0.g,1,false,Y7 R1⟩) (idx:=q1.k) 0 rfl rfl rfl (by kernel_rfl) rfl (.tmp 7 rfl rfl) hMp.top rfl (Ju hrc) (show 0+((q1.k:Int)).toNat*1=(q1.k)*1 by omega) Q1 (.here 8 rfl),Qa (.tmp 3 rfl rfl) (.here 9 rfl),Qs (.tmp 8 rfl rfl) (.tmp 9 rfl rfl) Qy (by omega) (by omega) (by kernel_rfl) (.here 10 rfl),Q5 (e:=⟨rc.b,3,true,Qw (X1.getD q1.k []) rc.cap⟩) (idx:=q1.k) 0 rfl rfl rfl (by kernel_rfl) rfl (.tmp 10 rfl rfl) (hMp.rows _ _ hrc) rfl (X5 (by omega)) (show 0+((q1.k:Int)).toNat*3=(q1.k)*3 by omega) Qr (.here 11 rfl),Y6 (fun _ _=>by kernel_rfl) (Xr _) (.tmp 4 rfl rfl) (.tmp 11 rfl rfl) (.here 12 rfl) (c_mul (j:=dJ j q1.k) (k:=Wv j q1.k) bdn (hX1b _ _) (by omega)),Zo 2 rfl rfl rfl rfl 0 rfl (by kernel_rfl) (by kernel_rfl) Qr (.tmp 12 rfl rfl) (Xb _),trivial⟩
      refine Qh hI [] [] [⟨some 0,none,46,pI (q1.k:Int)⟩,⟨some 1,none,47,pI ((q1.k:Int)+(1:Int))⟩,⟨some 2,none,10,pI ((q1.k:Int)+(1:Int))⟩] (.k (.k (.k .z))) (.kkkk .z) rfl [0,1,3] (by kernel_rfl) ?_ (.k (.k (.k .z))) (.kkkk (.ddk .z)) fun a w hI=>?_
      ·exact⟨Qa (.tmp 3 rfl rfl) (.here 4 rfl),Qo (v:=.int .i64 (IntKind.i64.wrap ((q1.k:Int)+(1:Int)))) (.tmp 4 rfl rfl) (.const _) (fun _=>rfl) (.at_ 5 _ _ rfl (Xe (by omega))),Qc (.tmp 5 rfl rfl) (.here 6 rfl),trivial⟩
      refine wp_block ?_
      refine Xn (fun(q3:BI) a w=>((q1.k+1≤q3.k∧q3.k≤A.length)∧MatOk m0.g m0.cap R1 (elimD X1 q1.k q3.k) q3.H)∧Inv ⟨80,w0,M,fun _=>False⟩ [⟨18,18,none,none,.obj,0,0,false,Zj q3.H,[]⟩,⟨2,2,none,none,.ptr,32,3,true,pv (Qk 0),[]⟩,⟨6,6,none,none,.ptr,32,3,true,pv (Qk ((if Xh X q1.k>0 then -(dD A q1.k)else dD A q1.k)*(X1.getD q1.k []).getD q1.k 0)),[]⟩] [] [⟨none,none,5,Qe (.slice (some ⟨m0.g,0,none⟩) A.length m0.cap)⟩,⟨none,none,21,pI (A.length:Int)⟩,⟨none,none,22,pI (q1.k:Int)⟩,⟨none,none,7,pI (q1.k:Int)⟩,⟨none,none,10,pI (q3.k:Int)⟩] Qf a w) (fun(q3:BI)=>A.length-q3.k) (⟨q1.k+1,R1,H1⟩) ⟨⟨⟨Nat.le_refl _,by show q1.k+1≤A.length; omega⟩,by show MatOk m0.g m0.cap R1 (elimD X1 q1.k (q1.k+1)) _; rw[Qeq]; exact hMp⟩,(hI.conv ⟨⟨0,_,_,rfl,⟨rfl,rfl,rfl⟩,rfl,fun _=>(fun _ _ h=>h)⟩,⟨1,_,_,rfl,⟨rfl,rfl,rfl⟩,rfl,fun _=>fun _ _ h=>h⟩,⟨2,_,_,rfl,⟨rfl,rfl,rfl⟩,rfl,fun _=>fun _ _ h=>h⟩,trivial⟩ ⟨⟨rfl,rfl,0,_,rfl,fun _ _ h=>h⟩,⟨rfl,rfl,1,_,rfl,fun _ _ h=>h⟩,⟨rfl,rfl,2,_,rfl,fun _ _ h=>h⟩,⟨rfl,rfl,3,_,rfl,fun _ _ h=>h⟩,⟨rfl,rfl,4,_,rfl,(Xa (by show((q1.k:Int)+1)=((q1.k+1:Nat):Int); omega))⟩,trivial⟩)⟩ ?_
      intro q3 a w hIk
      obtain⟨⟨⟨hk3,hk3'⟩,hM3⟩,hI⟩:=hIk
      refine wp_seq ?_
      refine Qh hI [] [] [⟨some 0,none,48,pI (q3.k:Int)⟩,⟨some 1,none,49,Qe (.slice (some ⟨m0.g,0,none⟩) A.length m0.cap)⟩,⟨some 2,none,50,pI (A.length:Int)⟩,⟨some 3,none,51,pB (decide ((q3.k:Int)<(A.length:Int)))⟩] (.k (.k (.k .z))) (.kkkk (.k .z)) rfl [0,1,3,7] (by kernel_rfl) ?_ (.k (.k (.k .z))) (.kkkk (.kddd (.k .z))) fun a w hI=>?_
      ·exact⟨Qa (.tmp 4 rfl rfl) (.here 5 rfl),Qa (.tmp 0 rfl rfl) (.here 6 rfl),Js (.tmp 6 rfl rfl) (Qx).under (.here 7 rfl),Qo (v:=.bool (decide ((q3.k:Int)<(A.length:Int)))) (.tmp 5 rfl rfl) (.tmp 7 rfl rfl) (fun _=>rfl) (.here 8 rfl),trivial⟩
      refine Xd hI 5 rfl (fun ht=>?_) (fun ht=>?_)
      ·have t6:=of_decide_eq_true ht
       refine wp_skip ?_
       refine Qi ?_
       refine wp_seq ?_
       refine wp_block ?_
       obtain⟨ri,hri⟩:=hM3.get (i:=q3.k) (by rw[Ka]; omega)
       have hfi:=hM3.fit _ _ hri
       have hfc3:=hM3.fit _ _ hrc
       have eL1:(elimD X1 q1.k q3.k).getD q3.k []=X1.getD q3.k []:=elimD_at (by omega) (Nat.le_refl _)
       have eL2:(elimD X1 q1.k q3.k).getD q1.k []=X1.getD q1.k []:=elimD_own (by omega)
       rw[eL1]at hfi
       rw[eL2]at hfc3
       have m1:(⟨ri.b,3,true,Qw (X1.getD q3.k []) ri.cap⟩:Bk)∈q3.H:=by have h:=hM3.rows _ _ hri; rw[eL1]at h; exact h
       have m2:(⟨rc.b,3,true,Qw (X1.getD q1.k []) rc.cap⟩:Bk)∈q3.H:=by have h:=hM3.rows _ _ hrc; rw[eL2]at h; exact h
       have hne:rc.b≠ri.b:=hM3.apart _ _ _ _ hrc hri (by omega)
       have hl1:=hX1r q3.k (by omega)
       have hl2:=hX1r q1.k (by omega)
       have b1:=bd_mem (hX1b q3.k)
       have b2:=bd_mem (hX1b q1.k)
       have b3:=(hX1b q3.k q1.k).quo (hX1b q1.k q1.k)
       refine sem_SD hI [] [] [⟨some 0,none,54,Qe (.slice (some ⟨m0.g,0,none⟩) A.length m0.cap)⟩,⟨some 1,none,55,pI (q3.k:Int)⟩,⟨some 2,none,56,Qe (.pointer (some ⟨m0.g,0+((q3.k:Int)).toNat*1,none⟩))⟩,⟨some 3,none,57,Qe (.slice (some ⟨ri.b,0,none⟩) ri.n ri.cap)⟩,⟨some 4,none,58,Qe (.slice (some ⟨m0.g,0,none⟩) A.length m0.cap)⟩,⟨some 5,none,59,pI (q1.k:Int)⟩,⟨some 6,none,60,Qe (.pointer (some ⟨m0.g,0+((q1.k:Int)).toNat*1,none⟩))⟩,⟨some 7,none,61,Qe (.slice (some ⟨rc.b,0,none⟩) rc.n rc.cap)⟩,⟨some 8,none,62,Qe (.slice (some ⟨m0.g,0,none⟩) A.length m0.cap)⟩,⟨some 9,none,63,pI (q3.k:Int)⟩,⟨some 10,none,64,Qe (.pointer (some ⟨m0.g,0+((q3.k:Int)).toNat*1,none⟩))⟩,⟨some 11,none,65,Qe (.slice (some ⟨ri.b,0,none⟩) ri.n ri.cap)⟩,⟨some 12,none,66,pI (q1.k:Int)⟩,⟨some 13,none,67,Qe (.pointer (some ⟨ri.b,0+((q1.k:Int)).toNat*3,none⟩))⟩,⟨some 14,none,68,Qk ((X1.getD q3.k []).getD q1.k 0)⟩,⟨some 15,none,69,Qe (.slice (some ⟨m0.g,0,none⟩) A.length m0.cap)⟩,⟨some 16,none,70,pI (q1.k:Int)⟩,⟨some 17,none,71,Qe (.pointer (some ⟨m0.g,0+((q1.k:Int)).toNat*1,none⟩))⟩,⟨some 18,none,72,Qe (.slice (some ⟨rc.b,0,none⟩) rc.n rc.cap)⟩,⟨some 19,none,73,pI (q1.k:Int)⟩,⟨some 20,none,74,Qe (.pointer (some ⟨rc.b,0+((q1.k:Int)).toNat*3,none⟩))⟩,⟨some 21,none,75,Qk ((X1.getD q1.k []).getD q1.k 0)⟩,⟨some 22,none,76,Qk ((X1.getD q3.k []).getD q1.k 0/(X1.getD q1.k []).getD q1.k 0)⟩] (.k (.k (.k .z))) (.kkkk (.kk .z)) rfl [0,0,3,7,0,0,48,112,0,0,768,1792,0,7936,16128,0,0,98304,229376,0,1015808,2064384,4194048,8388607] 23 (by kernel_rfl) ?_ (.k (.k (.k .z))) (.kkkk (.kddd (.dkdd (.dkdd (.d8 (.dddd (.k .z))))))) (fun a w hI=>hI) (⟨_,fun a w hI=>Qe1 (fun _ _=>by kernel_rfl) hI (n0:=0) rfl (Xt _) (.tmp 5 rfl rfl) (.tmp 6 rfl rfl) (.tmp 7 rfl rfl) (fun M B w v1 v2 v3 hM hBM hH h1 h2 h3=>r_reduce (s1:=0) (s2:=0) (n1:=ri.n) (n2:=rc.n) (c1:=ri.cap) (c2:=rc.cap) (j:=Wv j q1.k) (j2:=Wv j q1.k) (jf:=Wv j q1.k+Wv j q1.k) m1 m2 hne (by omega) (by omega) (by omega) (by omega) b1 b2 b3 (by omega) M B w v1 v2 v3 hM hBM hH h1 h2 h3) (by kernel_rfl) (by kernel_rfl) (by kernel_rfl) (by kernel_rfl),
         rfl⟩) ?_
       ·exact⟨Qa (.tmp 0 rfl rfl) (.here 6 rfl),Qa (.tmp 4 rfl rfl) (.here 7 rfl),Qs (.tmp 6 rfl rfl) (.tmp 7 rfl rfl) Qx (by omega) (by omega) (by kernel_rfl) (.here 8 rfl),Q5 (e:=⟨m0.g,1,false,Y7 R1⟩) (idx:=q3.k) 0 rfl rfl rfl (by kernel_rfl) rfl (.tmp 8 rfl rfl) hM3.top rfl (Ju hri) (show 0+((q3.k:Int)).toNat*1=(q3.k)*1 by omega) Q1 (.here 9 rfl),Qa (.tmp 0 rfl rfl) (.here 10 rfl),Qa (.tmp 3 rfl rfl) (.here 11 rfl),Qs (.tmp 10 rfl rfl) (.tmp 11 rfl rfl) Qx (by omega) (by omega) (by kernel_rfl) (.here 12 rfl),Q5 (e:=⟨m0.g,1,false,Y7 R1⟩) (idx:=q1.k) 0 rfl rfl rfl (by kernel_rfl) rfl (.tmp 12 rfl rfl) hM3.top rfl (Ju hrc) (show 0+((q1.k:Int)).toNat*1=(q1.k)*1 by omega) Q1 (.here 13 rfl),Qa (.tmp 0 rfl rfl) (.here 14 rfl),Qa (.tmp 4 rfl rfl) (.here 15 rfl),Qs (.tmp 14 rfl rfl) (.tmp 15 rfl rfl) Qx (by omega) (by omega) (by kernel_rfl) (.here 16 rfl),Q5 (e:=⟨m0.g,1,false,Y7 R1⟩) (idx:=q3.k) 0 rfl rfl rfl (by kernel_rfl) rfl (.tmp 16 rfl rfl) hM3.top rfl (Ju hri) (show 0+((q3.k:Int)).toNat*1=(q3.k)*1 by omega) Q1 (.here 17 rfl),Qa (.tmp 3 rfl rfl) (.here 18 rfl),Qs (.tmp 17 rfl rfl) (.tmp 18 rfl rfl) Qy (by omega) (by omega) (by kernel_rfl) (.here 19 rfl),Q5 (e:=⟨ri.b,3,true,Qw (X1.getD q3.k []) ri.cap⟩) (idx:=q1.k) 0 rfl rfl rfl (by kernel_rfl) rfl (.tmp 19 rfl rfl) m1 rfl (X5 (by omega)) (show 0+((q1.k:Int)).toNat*3=(q1.k)*3 by omega) Qr (.here 20 rfl),Qa (.tmp 0 rfl rfl) (.here 21 rfl),Qa (.tmp 3 rfl rfl) (.here 22 rfl),Qs (.tmp 21 rfl rfl) (.tmp 22 rfl rfl) Qx (by omega) (by omega) (by kernel_rfl) (.here 23 rfl),Q5 (e:=⟨m0.g,1,false,Y7 R1⟩) (idx:=q1.k) 0 rfl rfl rfl (by kernel_rfl) rfl (.tmp 23 rfl rfl) hM3.top rfl (Ju hrc) (show 0+((q1.k:Int)).toNat*1=(q1.k)*1 by omega) Q1 (.here 24 rfl),Qa (.tmp 3 rfl rfl) (.here 25 rfl),Qs (.tmp 24 rfl rfl) (.tmp 25 rfl rfl) Qy (by omega) (by omega) (by kernel_rfl) (.here 26 rfl),Q5 (e:=⟨rc.b,3,true,Qw (X1.getD q1.k []) rc.cap⟩) (idx:=q1.k) 0 rfl rfl rfl (by kernel_rfl) rfl (.tmp 26 rfl rfl) m2 rfl (X5 (by omega)) (show 0+((q1.k:Int)).toNat*3=(q1.k)*3 by omega) Qr (.here 27 rfl),Y6 (fun _ _=>by kernel_rfl) (Xr _) (.tmp 20 rfl rfl) (.tmp 27 rfl rfl) (.here 28 rfl) (c_by (j:=Wv j q1.k) (k:=Wv j q1.k) (hX1b _ _) (hX1b _ _) (by omega) hpne),trivial⟩
       ·intro a w hI
        refine Xw ?_
        refine Qi ?_
        refine Yx hI [] [] [⟨some 0,none,52,pI (q3.k:Int)⟩,⟨some 1,none,53,pI ((q3.k:Int)+(1:Int))⟩,⟨some 2,none,10,pI ((q3.k:Int)+(1:Int))⟩] (.k (.k (.k .z))) (.kkkk (.k (.t 2 (.kkk .z)))) rfl [0,1,3] (by kernel_rfl) ?_ (.k (.k (.k .z))) (.dkkk (.kddd (.dddk .z))) fun a w hI=>?_
        ·exact⟨Qa (.tmp 5 rfl rfl) (.here 9 rfl),Qo (v:=.int .i64 (IntKind.i64.wrap ((q3.k:Int)+(1:Int)))) (.tmp 9 rfl rfl) (.const _) (fun _=>rfl) (.at_ 10 _ _ rfl (Xe (by omega))),Qc (.tmp 10 rfl rfl) (.here 11 rfl),trivial⟩
        refine Qi ?_
        exact⟨⟨q3.k+1,R1,Y0 q3.H ri.b (Qw (if(X1.getD q3.k []).getD q1.k 0/(X1.getD q1.k []).getD q1.k 0=0 then X1.getD q3.k []else Xz (X1.getD q3.k []) 0 (X1.getD q1.k []) 0 ((X1.getD q3.k []).getD q1.k 0/(X1.getD q1.k []).getD q1.k 0) rc.n) ri.cap)⟩,⟨⟨⟨by show q1.k+1≤q3.k+1; omega,by show q3.k+1≤A.length; omega⟩,by have h:=hM3.setRow hri (l:=redD (X1.getD q3.k []) (X1.getD q1.k []) q1.k) (by rw[redD_len,eL1]); rw[elimD_step (by omega) (by omega)]at h; show MatOk m0.g m0.cap R1 (elimD X1 q1.k (q3.k+1)) _; rw[show rc.n=(X1.getD q1.k []).length by omega]; exact h⟩,(hI.conv ⟨⟨0,_,_,rfl,⟨rfl,rfl,rfl⟩,rfl,fun _=>(fun _ _ h=>h)⟩,⟨1,_,_,rfl,⟨rfl,rfl,rfl⟩,rfl,fun _=>fun _ _ h=>h⟩,⟨2,_,_,rfl,⟨rfl,rfl,rfl⟩,rfl,fun _=>fun _ _ h=>h⟩,trivial⟩ ⟨⟨rfl,rfl,0,_,rfl,fun _ _ h=>h⟩,⟨rfl,rfl,1,_,rfl,fun _ _ h=>h⟩,⟨rfl,rfl,2,_,rfl,fun _ _ h=>h⟩,⟨rfl,rfl,3,_,rfl,fun _ _ h=>h⟩,⟨rfl,rfl,4,_,rfl,(Xa (by show((q3.k:Int)+1)=((q3.k+1:Nat):Int); omega))⟩,trivial⟩)⟩,(show A.length-(q3.k+1)<A.length-q3.k by omega)⟩
      ·have t7:=of_decide_eq_false ht
       refine wp_exit ?_
       refine Qz ?_
       refine Qz ?_
       refine Xl ?_
       refine Xw ?_
       refine Qi ?_
       refine Yx hI [] [] [⟨some 0,none,78,pI ((q1.k:Int)+(1:Int))⟩,⟨some 1,none,22,pI ((q1.k:Int)+(1:Int))⟩] (.k (.k (.k .z))) (.kk (.t 1 (.kkk .z))) rfl [0,1] (by kernel_rfl) ?_ (.k (.k (.k .z))) (.kkdd (.dddk .z)) fun a w hI=>?_
       ·exact⟨Qo (v:=.int .i64 (IntKind.i64.wrap ((q1.k:Int)+(1:Int)))) (.tmp 2 rfl rfl) (.const _) (fun _=>rfl) (.at_ 6 _ _ rfl (Xe (by omega))),Qa (.tmp 6 rfl rfl) (.here 7 rfl),trivial⟩
       refine Qi ?_
       exact⟨⟨q1.k+1,R1,q3.H⟩,⟨⟨by show q1.k+1≤A.length; omega,by have h:=hM3; rw[show q3.k=A.length by omega]at h; show MatOk m0.g m0.cap R1 (elimD (Yq (dX A q1.k) (dX A q1.k) q1.k) q1.k A.length) q3.H; rw[← eX,← eX1]; exact h,fun c hc=>by rcases Nat.lt_or_ge c q1.k with h|h; exact hns c h; rw[show c=q1.k by have:c<q1.k+1:=hc; omega,← eX]; exact hp0⟩,(hI.conv ⟨⟨0,_,_,rfl,⟨rfl,rfl,rfl⟩,rfl,fun _=>fun _ _ h=>h⟩,⟨1,_,_,rfl,⟨rfl,rfl,rfl⟩,rfl,fun _=>fun _ _ h=>h⟩,⟨2,_,_,rfl,⟨rfl,rfl,rfl⟩,rfl,fun _=>(fun w v h=>by show Qk ((if Xh (dX A q1.k) q1.k>0 then -(dD A q1.k)else dD A q1.k)*((Yq (dX A q1.k) (dX A q1.k) q1.k).getD q1.k []).getD q1.k 0) w v; rw[← eX,← eX1]; exact h)⟩,trivial⟩ ⟨⟨rfl,rfl,0,_,rfl,fun _ _ h=>h⟩,⟨rfl,rfl,1,_,rfl,fun _ _ h=>h⟩,⟨rfl,rfl,2,_,rfl,(Xa (by show((q1.k:Int)+1)=((q1.k+1:Nat):Int); omega))⟩,trivial⟩)⟩,(show A.length-(q1.k+1)<A.length-q1.k by omega)⟩
  ·have t8:=of_decide_eq_false ht
   refine wp_exit ?_
   refine Qz ?_
   refine Qz ?_
   refine Xl ?_
   refine Qi ?_
   refine Qh hI [] [] [⟨some 0,none,79,Qk (dD A q1.k)⟩,⟨some 2,none,3,pI 0⟩] (.k (.u none [(1,pv (Qk (dD A q1.k)))] (.k .z))) (.kkkk .z) rfl [0,1,3] (by kernel_rfl) ?_ (.k (.s .o (.k .z))) (.dddd (.dk .z)) fun a w hI=>?_
   ·exact⟨Yg 2 rfl rfl rfl rfl (by kernel_rfl) Qr rfl (.here 4 rfl),Zo 1 rfl rfl rfl rfl 0 rfl (by kernel_rfl) (by kernel_rfl) Qr (.tmp 4 rfl rfl) (Xb _),Qc (.const _) (.here 5 rfl),trivial⟩
   refine wp_ret ?_
   exact fin2 hI rfl (.imp (.cell 1 rfl rfl rfl rfl Qr rfl) fun w v h=>by rw[detG_reg (fun⟨c,hc1,hc2⟩=>absurd (hns c (by omega)) (by omega)),show A.length=q1.k by omega]; exact h) (.tmp 0 rfl)
end Wx
