import Derived.Test.YtpiniclogfefjaaGreatJSolves37
namespace Wx
attribute [local irreducible] Q0
set_option maxHeartbeats 800000
set_option maxRecDepth 100000
open Go Go.RowKit Go.Proofs
set_option linter.unusedVariables false

theorem c_solved {A B:List (List Rat)} {m j:Nat} (h0:0<A.length) (hn:A.length≤100000) (hm:0<m∧m≤100000) (hA:Rect A.length A) (hBl:B.length=A.length) (hBr:∀i,i<A.length→(B.getD i []).length=m) (hAb:BdX j A) (hBb:BdX j B) (h1:1≤j) (hj:Kx j A.length≤100000000):∀(M:Nat→Nat→Prop) (w:World) (v0 v1:Value),Mid M w→Box M (fun w=>(Qc 1 false A.length (fun i=>Qe (A.getD i []))) w v0) w→Box M (fun w=>(Qc 1 false A.length (fun i=>Qe (B.getD i []))) w v1) w→Calls Tryz.prog 68 #[v0,v1] w (RetB M (pSol (Qa6 (Y8 A B) A.length) A.length fun i=>(Wk A B).getD i []) w):=by
 intro M w0 v0 v1 hM hv0 hv1
 have hA0:∀i,i<A.length→0<(A.getD i []).length:=fun i hi=>by rw[hA i hi]; exact h0
 have hAm:∀i,i<A.length→(A.getD i []).length≤1000000:=fun i hi=>by rw[hA i hi]; omega
 have hB0:∀i,i<A.length→0<(B.getD i []).length∧(B.getD i []).length≤100000:=fun i hi=>by rw[hBr i hi]; exact hm
 refine Yk (N:=123) Tryz.func68 rfl rfl rfl hM (show EntsA M w0 [v0,v1] [⟨none,none,0,Qc 1 false A.length (fun i=>Qe (A.getD i []))⟩,⟨none,none,1,Qc 1 false A.length (fun i=>Qe (B.getD i []))⟩]from⟨⟨rfl,_,rfl,hv0⟩,⟨rfl,_,rfl,hv1⟩,trivial⟩) fun a hI=>?_
 refine Qj hI 2 [Uc 0 4 _,Uc 1 5 _] (.kk .z) ⟨mv,mv,trivial⟩ (.kkkk .z) fun a w hI=>?_
 refine Vz hI [] [] [⟨some 0,none,15,Qc 1 false A.length (fun i=>Qe (A.getD i []))⟩] .z (.kkkk .z) rfl [0,1,3] 1 (by kernel_rfl) ?_ .z (.kkkk (.k .z)) (fun a w hI=>hI) (⟨_,fun a w hI=>step_callO1 16 (fun _ _=>by kernel_rfl) hI (.tmp 4 rfl rfl) (fun M w v hM hv=>r_copied h0 (by omega) hA0 hAm M w v hM hv) (by kernel_rfl) (by kernel_rfl) (by kernel_rfl),
   _,U2 fun l hC a w hI=>Jw hI [] [⟨some 0,none,6,Qi (.slice (some ⟨l.g,0,none⟩) A.length l.cap)⟩] (.k .z) (.kkkk (.kk .z)) (by kernel_rfl) (Ys (.tmp 0 rfl rfl) (.here 6 rfl)) (.k .z) (.dkkk (.kdk .z)),
   rfl⟩) ?_
 ·exact⟨Qx (.tmp 0 rfl rfl) (.here 4 rfl),trivial⟩
 ·rintro a w ⟨m0,hC,hI⟩
  have hC:MatOk m0.g m0.cap m0.R A m0.H:=hC
  refine wp_seq ?_
  have hcp:A.length≤m0.cap∧m0.cap≤maxLen:=by have h:=hC.size; rw[hC.len]at h; exact h
  refine Q3 hI 3 [] [] [Uc 0 17 _,Uc 1 18 (pI (A.length:Int)),Uc 2 19 _] (.k .z) (.kkkk (.k .z)) ⟨mv,Uz (.tmp 5 rfl rfl) (Qt).under (.here 6 rfl),mv,trivial⟩ (.k .z) (.kkkk (.kdkk .z)) fun a w hI=>?_
  refine wp_block ?_
  refine Q9 (fun(q:BI) a w=>(q.k≤A.length∧BldOk m0.g A.length q.R (Vp A B A.length q.k) q.H)∧Inv ⟨123,w0,M,fun _=>False⟩ [⟨16,16,none,none,.obj,0,0,false,Zo q.H,[]⟩] [] [⟨none,none,0,Qc 1 false A.length (fun i=>Qe (A.getD i []))⟩,⟨none,none,1,Qc 1 false A.length (fun i=>Qe (B.getD i []))⟩,⟨none,none,4,Qi ((Value.slice none 0 0))⟩,⟨none,none,5,pB false⟩,⟨none,none,6,Qi (.slice (some ⟨m0.g,0,none⟩) A.length m0.cap)⟩,⟨none,none,18,pI (A.length:Int)⟩,⟨none,none,19,pI (q.k:Int)⟩] Qf a w) (fun(q:BI)=>A.length-q.k) (⟨0,m0.R,m0.H⟩) ⟨⟨Nat.zero_le _,by have h:=hC.bld hA0; show BldOk m0.g A.length m0.R (Vp A B A.length 0) m0.H; rw[joinX_zero]; exact h⟩,(hI.conv ⟨⟨0,_,_,rfl,⟨rfl,rfl,rfl⟩,rfl,fun _=>(fun _ _ h=>h)⟩,trivial⟩ ⟨⟨rfl,rfl,0,_,rfl,fun _ _ h=>h⟩,⟨rfl,rfl,1,_,rfl,fun _ _ h=>h⟩,⟨rfl,rfl,2,_,rfl,fun _ _ h=>h⟩,⟨rfl,rfl,3,_,rfl,fun _ _ h=>h⟩,⟨rfl,rfl,4,_,rfl,fun _ _ h=>h⟩,⟨rfl,rfl,5,_,rfl,fun _ _ h=>h⟩,⟨rfl,rfl,6,_,rfl,(Qw rfl)⟩,trivial⟩)⟩ ?_
  intro q a w hIk
  obtain⟨⟨hk,hB⟩,hI⟩:=hIk
  refine Q3 hI 1 [] [] [Uc 0 20 _] (.k .z) (.kkkk (.kkk .z)) ⟨bl,trivial⟩ (.k .z) (.k8 .z) fun a w hI=>?_
  refine wp_seq ?_
  refine Xa hI 7 rfl (fun ht=>?_) (fun ht=>?_)
  ·have t1:=of_decide_eq_true ht
   refine wp_skip ?_
   refine Qb ?_
   refine wp_seq ?_
   refine wp_block ?_
   refine Q3 hI 2 [] [] [Uc 0 21 _,Uc 1 7 _] (.k .z) (.k8 .z) ⟨mv,mv,trivial⟩ (.k .z) (.kkkk (.kkkd (.dk .z))) fun a w hI=>?_
   have hjl:(Vp A B A.length q.k).getD q.k []=A.getD q.k []:=by rw[Qaf (by omega),if_neg (Nat.lt_irrefl _)]
   have hjl2:((Vp A B A.length q.k).getD q.k []).length≤1000000:=by rw[hjl]; exact hAm _ (by omega)
   have hbl:=hB0 q.k (by omega)
   refine sem_SD hI [⟨32,32,some 10,none,.obj,0,0,false,pApp q.H (hdr0 (Xe q.R q.k)) ((Vp A B A.length q.k).getD q.k []) (B.getD q.k []),[]⟩] [] [⟨some 0,none,22,Qi (.slice (some ⟨m0.g,0,none⟩) A.length m0.cap)⟩,⟨some 1,none,23,pI (q.k:Int)⟩,⟨some 2,none,24,Qi (.slice (some ⟨m0.g,0,none⟩) A.length m0.cap)⟩,⟨some 3,none,25,pI (q.k:Int)⟩,⟨some 4,none,26,Qi (.pointer (some ⟨m0.g,0+((q.k:Int)).toNat*1,none⟩))⟩,⟨some 5,none,27,Qi (hdr0 (Xe q.R q.k))⟩,⟨some 6,none,28,Qc 1 false A.length (fun i=>Qe (B.getD i []))⟩,⟨some 7,none,29,pI (q.k:Int)⟩,⟨some 8,none,30,Wr 1 false (Qe (B.getD q.k []))⟩,⟨some 9,none,31,Qe (B.getD q.k [])⟩] (.u (some 10) [] .z) (.k8 .z) rfl [0,0,0,0,12,28,0,0,192,448,1020,2047,4095] 11 (by kernel_rfl) ?_ (.d (.k .z)) (.kkkk (.kkkd (.kkdd (.dddd (.dd .z))))) (fun a w hI=>hI.openApp 0 rfl (by kernel_rfl)) (⟨_,U2 fun l hC a w hI=>Jw hI [] [⟨some 0,none,33,Qi (.pointer (some ⟨m0.g,0+((q.k:Int)).toNat*1,none⟩))⟩] (.k .z) (.k8 (.kk .z)) (by kernel_rfl) (Qs (.tmp 8 rfl rfl) (.tmp 9 rfl rfl) Qt (by omega) (by omega) (by kernel_rfl) (.here 10 rfl)) (.k .z) (.k8 (.ddk .z)),
     _,U2 fun l hC a w hI=>Jw hI [] [] (.u none [(0,Zo (Ye (Kz q.H l.b (Xj ((Vp A B A.length q.k).getD q.k []++B.getD q.k []) l.cap)) m0.g q.k (Zm l.hdr)))] .z) (.k8 (.k .z)) (by kernel_rfl) (Zn (e:=⟨m0.g,1,false,J3 q.R⟩) (idx:=q.k) (it:=Zm l.hdr) 0 rfl rfl rfl (by kernel_rfl) 0 rfl (by kernel_rfl) (by kernel_rfl) rfl (.tmp 8 rfl rfl) (Vk hB.top (hB.off (by omega) hC.2.2.2)) rfl (by rw[Qb9]; have:=hB.len.1; omega) (show 0+((q.k:Int)).toNat*1=(q.k)*1 by omega) Xn (.tmp 0 rfl rfl) (Vo _ _ _)) (.s .o .z) (.dkkk (.kkkk (.d .z))),
     rfl⟩) ?_
   ·exact⟨Qx (.tmp 4 rfl rfl) (.here 8 rfl),Qx (.tmp 7 rfl rfl) (.here 9 rfl),Qx (.tmp 4 rfl rfl) (.here 10 rfl),Qx (.tmp 7 rfl rfl) (.here 11 rfl),Qs (.tmp 10 rfl rfl) (.tmp 11 rfl rfl) Qt (by omega) (by omega) (by kernel_rfl) (.here 12 rfl),Yv (e:=⟨m0.g,1,false,J3 q.R⟩) (idx:=q.k) 0 rfl rfl rfl (by kernel_rfl) rfl (.tmp 12 rfl rfl) hB.top rfl (Qb8 (by have:=hB.len.1; omega)) (show 0+((q.k:Int)).toNat*1=(q.k)*1 by omega) Xn (.here 13 rfl),Qx (.tmp 1 rfl rfl) (.here 14 rfl),Qx (.tmp 7 rfl rfl) (.here 15 rfl),Jo (.tmp 14 rfl rfl) (.tmp 15 rfl rfl) Qt (by omega) (by omega) (by kernel_rfl) (.at_ 16 _ _ rfl (by rw[Int.toNat_natCast]; exact fun _ _ h=>h)),Q5 (.tmp 16 rfl rfl) Xn ((Yj _)) (.here 17 rfl),op_appendH 0 rfl rfl rfl rfl (by kernel_rfl) rfl 1 rfl rfl rfl rfl rfl (by kernel_rfl) (.tmp 13 rfl rfl) (.tmp 17 rfl rfl) (hB.case (by omega)) Qdx (by omega) (by omega) (.none (by kernel_rfl)),trivial⟩
   ·rintro a w ⟨l,hC,hI⟩
    have hC:AppOk q.H (hdr0 (Xe q.R q.k)) ((Vp A B A.length q.k).getD q.k []) (B.getD q.k []) l:=hC
    refine Xo ?_
    refine Qb ?_
    refine Z3 hI 2 [] [] [Uc 0 34 _,Uc 1 19 _] (.k .z) (.kkkk (.kk (.t 1 .z))) ⟨bl,mv,trivial⟩ (.k .z) (.kkkk (.kkdd (.k .z))) fun a w hI=>?_
    refine Qb ?_
    replace hI:=hI.reobj 16 16 (n0:=0) rfl (by kernel_rfl) (by kernel_rfl)
    exact⟨⟨q.k+1,q.R.set q.k l,Ye (Kz q.H l.b (Xj ((Vp A B A.length q.k).getD q.k []++B.getD q.k []) l.cap)) m0.g q.k (Zm l.hdr)⟩,⟨⟨by show q.k+1≤A.length; omega,by have h:=hB.append (l':=B.getD q.k []) (by omega) (by omega) hC; rw[joinX_step (by omega)]at h; exact h⟩,(hI.conv ⟨⟨0,_,_,rfl,⟨rfl,rfl,rfl⟩,rfl,fun _=>fun _ _ h=>h⟩,trivial⟩ ⟨⟨rfl,rfl,0,_,rfl,fun _ _ h=>h⟩,⟨rfl,rfl,1,_,rfl,fun _ _ h=>h⟩,⟨rfl,rfl,2,_,rfl,fun _ _ h=>h⟩,⟨rfl,rfl,3,_,rfl,fun _ _ h=>h⟩,⟨rfl,rfl,4,_,rfl,fun _ _ h=>h⟩,⟨rfl,rfl,5,_,rfl,fun _ _ h=>h⟩,⟨rfl,rfl,6,_,rfl,(Qw (by show((q.k:Int)+1)=((q.k+1:Nat):Int); omega))⟩,trivial⟩)⟩,(show A.length-(q.k+1)<A.length-q.k by omega)⟩
  ·have t2:=of_decide_eq_false ht
   refine wp_exit ?_
   refine Ql ?_
   refine Ql ?_
   refine Q7 ?_
   refine Qb ?_
   refine wp_seq ?_
   have hq:q.k=A.length:=by omega
   have hM0:MatOk m0.g m0.cap q.R (Y8 A B) q.H:=by have h:=hB.mat (cap:=m0.cap) hcp.1 hcp.2 (fun i hi=>by rw[Qaf hi]; have:=hA0 i hi; split; rw[List.length_append]; omega; exact this); rw[hq]at h; exact h
   have hXr0:Rect (A.length+m) (Y8 A B):=Qg6 hA hBr
   have hXb0:BdX j (Y8 A B):=augX_bd hAb hBb h1
   refine Q3 hI 3 [] [] [Uc 0 35 _,Uc 1 36 (pI (A.length:Int)),Uc 2 37 _] (.k .z) (.k8 .z) ⟨mv,Uz (.tmp 8 rfl rfl) (Qt).under (.here 9 rfl),mv,trivial⟩ (.k .z) (.kdkk (.kddd (.dkk .z))) fun a w hI=>?_
   refine wp_block ?_
   refine Q9 (fun(q1:BI) a w=>(q1.k≤A.length∧MatOk m0.g m0.cap q1.R (Ud (Y8 A B) q1.k) q1.H∧∀c,c<q1.k→0≤Xw (Ud (Y8 A B) c) c)∧Inv ⟨123,w0,M,fun _=>False⟩ [⟨16,16,none,none,.obj,0,0,false,Zo q1.H,[]⟩] [] [⟨none,none,0,Qc 1 false A.length (fun i=>Qe (A.getD i []))⟩,⟨none,none,6,Qi (.slice (some ⟨m0.g,0,none⟩) A.length m0.cap)⟩,⟨none,none,36,pI (A.length:Int)⟩,⟨none,none,37,pI (q1.k:Int)⟩] Qf a w) (fun(q1:BI)=>A.length-q1.k) (⟨0,q.R,q.H⟩) ⟨⟨Nat.zero_le _,hM0,fun c hc=>absurd hc (Nat.not_lt_zero _)⟩,(hI.conv ⟨⟨0,_,_,rfl,⟨rfl,rfl,rfl⟩,rfl,fun _=>(fun _ _ h=>h)⟩,trivial⟩ ⟨⟨rfl,rfl,0,_,rfl,fun _ _ h=>h⟩,⟨rfl,rfl,3,_,rfl,fun _ _ h=>h⟩,⟨rfl,rfl,4,_,rfl,fun _ _ h=>h⟩,⟨rfl,rfl,5,_,rfl,(Qw rfl)⟩,trivial⟩)⟩ ?_
   intro q1 a w hIk
   obtain⟨⟨hk1,hM,hns⟩,hI⟩:=hIk
   refine Q3 hI 1 [] [] [Uc 0 38 _] (.k .z) (.kkkk .z) ⟨bl,trivial⟩ (.k .z) (.kkkk (.k .z)) fun a w hI=>?_
   refine wp_seq ?_
   refine Xa hI 4 rfl (fun ht=>?_) (fun ht=>?_)
   ·have t3:=of_decide_eq_true ht
    refine wp_skip ?_
    refine Qb ?_
    refine wp_seq ?_
    refine wp_block ?_
    refine Q3 hI 2 [] [] [Uc 0 39 _,Uc 1 8 _] (.k .z) (.kkkk (.k .z)) ⟨mv,mv,trivial⟩ (.k .z) (.kkkk (.ddk .z)) fun a w hI=>?_
    refine wp_seq ?_
    obtain⟨X,eX⟩:∃X,X=Ud (Y8 A B) q1.k:=⟨_,rfl⟩
    have hM1:=hM
    rw[← eX]at hM1
    have hXl:X.length=A.length:=by rw[eX,U7,Kc]
    have hXr:Rect (A.length+m) X:=by rw[eX]; exact hXr0.gj _ (by rw[Kc]; omega)
    have hXb:BdX (Kx j q1.k) X:=by rw[eX]; exact hXb0.gj h1 _ (by rw[Kc]; omega)
    have hcol:∀i,i<X.length→q1.k<(X.getD i []).length:=fun i hi=>by rw[hXr i hi]; omega
    have hun:=hI.uniq 0 rfl
    have hjj:8*Kx j q1.k+1≤100000000:=Nat.le_trans (gjJ_mono (j:=j) (show q1.k+1≤A.length by omega)) hj
    refine Vz hI [] [] [⟨some 0,none,41,Qi (.slice (some ⟨m0.g,0,none⟩) A.length m0.cap)⟩,⟨some 1,none,42,pI (q1.k:Int)⟩] (.k .z) (.kkkk (.k .z)) rfl [0,1,3,7,15,31,63,127] 2 (by kernel_rfl) ?_ (.k .z) (.kkkk (.kkk .z)) (fun a w hI=>hI) (⟨_,fun a w hI=>step_callL2 (fun _ _=>by kernel_rfl) hI (n0:=0) rfl (Qhl (Y2 _) (Y2 _)) (.tmp 5 rfl rfl) (.tmp 6 rfl rfl) (fun M B w v1 v2 hM hBM hH h1 h2=>r_pivot hM1 (by omega) (by omega) hcol (fun i hi=>bd_mem (hXb i)) M B w v1 v2 hM hBM hH (by rw[hXl]; exact h1) h2) (by kernel_rfl) (by kernel_rfl) (by kernel_rfl) (by kernel_rfl),
      _,fun a w hI=>Jw hI [] [⟨some 0,none,40,Xr (pB (decide (0≤Xw X q1.k))) (pB (decide (Xw X q1.k>0)))⟩] (.k .z) (.k8 .z) (by kernel_rfl) (Qx (.tmp 0 rfl rfl) (.here 8 rfl)) (.k .z) (.dkkk (.kkdd (.k .z))),
      _,fun a w hI=>Jw hI [] [⟨some 0,none,44,pB (decide (0≤Xw X q1.k))⟩] (.k .z) (.kkkk (.kk .z)) (by kernel_rfl) (Uy (.tmp 5 rfl rfl) ex2_0 (.here 6 rfl)) (.k .z) (.kkkk (.kkk .z)),
      _,fun a w hI=>Jw hI [] [⟨some 0,none,45,pB (decide (Xw X q1.k>0))⟩] (.k .z) (.kkkk (.kkk .z)) (by kernel_rfl) (Uy (.tmp 5 rfl rfl) ex2_1 (.here 7 rfl)) (.k .z) (.kkkk (.kdkk .z)),
      _,fun a w hI=>Jw hI [] [⟨some 0,none,9,pB (decide (0≤Xw X q1.k))⟩] (.k .z) (.kkkk (.kkk .z)) (by kernel_rfl) (Ys (.tmp 5 rfl rfl) (.here 7 rfl)) (.k .z) (.kkkk (.kdkk .z)),
      _,fun a w hI=>Jw hI [] [⟨some 0,none,10,pB (decide (Xw X q1.k>0))⟩] (.k .z) (.kkkk (.kkk .z)) (by kernel_rfl) (Ys (.tmp 5 rfl rfl) (.here 7 rfl)) (.k .z) (.kkkk (.kdkd .z)),
      rfl⟩) ?_
    ·exact⟨Qx (.tmp 1 rfl rfl) (.here 5 rfl),Qx (.tmp 4 rfl rfl) (.here 6 rfl),trivial⟩
    ·intro a w hI
     refine Q3 hI 2 [] [] [Uc 0 46 _,Uc 1 47 _] (.k .z) (.kkkk (.kk .z)) ⟨mv,nt,trivial⟩ (.k .z) (.kkkk (.kddk .z)) fun a w hI=>?_
     refine Xa hI 5 rfl (fun ht=>?_) (fun ht=>?_)
     ·have t4:=ht
      refine Q3 hI 2 [] [] [Uc 0 4 _,Uc 1 5 _] (.k .z) (.kkkk (.kk .z)) ⟨mv,mv,trivial⟩ (.k .z) (.kkkk (.kdkk .z)) fun a w hI=>?_
      refine wp_ret ?_
      refine Xf ?_
      refine Z5 ?_
      refine Xf ?_
      refine Xf ?_
      refine Z5 ?_
      refine Xf ?_
      exact post_mono (K3 hI rfl (.tmp 5 rfl) (.tmp 6 rfl)) fun e w' h=>Z6 h fun w v h=>⟨fun hs=>absurd (show Qa6 (Y8 A B) A.length from⟨q1.k,by omega,by rw[← eX]; have:=t4; simp at this; omega⟩) hs,fun _=>h⟩
     ·have t5:=ht
      refine wp_skip ?_
      refine Qb ?_
      have hp0:0≤Xw X q1.k:=by simpa using t5
      obtain⟨R1,eR1⟩:∃R1,R1=Xg X q1.R q1.k:=⟨_,rfl⟩
      obtain⟨X1,eX1⟩:∃X1,X1=Xg X X q1.k:=⟨_,rfl⟩
      obtain⟨H1,eH1⟩:∃H1,H1=Ue q1.H m0.g (Jb (Xg X q1.R q1.k)):=⟨_,rfl⟩
      have hMp:MatOk m0.g m0.cap R1 X1 H1:=by rw[eR1,eX1,eH1]; exact hM1.pivot (by omega) fun e he hb=>hun e _ he hM1.top hb
      have hpne:(X1.getD q1.k []).getD q1.k 0≠0:=by rw[eX1]; exact piv_ne (by omega) hp0
      have hX1b:BdX (Kx j q1.k) X1:=by rw[eX1]; exact hXb.piv (by omega) (Qea h1 _)
      have hX1l:X1.length=A.length:=by rw[eX1,Wj]; exact hXl
      have hX1r:Rect (A.length+m) X1:=by rw[eX1]; exact hXr.piv (by omega)
      rw[← eH1]at hI
      obtain⟨rc,hrc⟩:=hMp.get (i:=q1.k) (by omega)
      have hfc:=hMp.fit _ _ hrc
      have hrl:=hX1r q1.k (by omega)
      have hoff:=hMp.off rc (List.mem_of_getElem? hrc)
      have hun1:=hI.uniq 0 rfl
      refine Q3 hI 9 [⟨11,11,some 7,none,.ptr,38,3,true,pv (Qv 0),[(8,pv (Qv ((X1.getD q1.k []).getD q1.k 0)))]⟩] [] [Uc 0 48 _,Uc 1 49 _,Uc 2 50 (Qi (.pointer (some ⟨m0.g,0+((q1.k:Int)).toNat*1,none⟩))),Uc 3 51 (Qi (.slice (some ⟨rc.b,0,none⟩) rc.n rc.cap)),Uc 4 52 _,Uc 5 53 (Qi (.pointer (some ⟨rc.b,0+((q1.k:Int)).toNat*3,none⟩))),Uc 6 54 (Qv ((X1.getD q1.k []).getD q1.k 0))] (.k .z) (.kkkk (.kk .z)) ⟨mv,mv,Qs (.tmp 6 rfl rfl) (.tmp 7 rfl rfl) Qt (by omega) (by omega) (by kernel_rfl) (.here 8 rfl),Yv (e:=⟨m0.g,1,false,Jb R1⟩) (idx:=q1.k) 0 rfl rfl rfl (by kernel_rfl) rfl (.tmp 8 rfl rfl) hMp.top rfl (Vb hrc) (show 0+((q1.k:Int)).toNat*1=(q1.k)*1 by omega) Xn (.here 9 rfl),mv,Qs (.tmp 9 rfl rfl) (.tmp 10 rfl rfl) Xb (by omega) (by omega) (by kernel_rfl) (.here 11 rfl),Yv (e:=⟨rc.b,3,true,Xj (X1.getD q1.k []) rc.cap⟩) (idx:=q1.k) 0 rfl rfl rfl (by kernel_rfl) rfl (.tmp 11 rfl rfl) (hMp.rows _ _ hrc) rfl (Kw (by omega)) (show 0+((q1.k:Int)).toNat*3=(q1.k)*3 by omega) Xx (.here 12 rfl),Jv 1 rfl rfl (by kernel_rfl) (by kernel_rfl) rfl rfl rfl Ub rfl rfl (by simp[Yw]) rfl (fun w=>Jd w),Za 1 rfl rfl rfl rfl 0 rfl (by kernel_rfl) (by kernel_rfl) Xx (.tmp 12 rfl rfl) (Ym _),trivial⟩ (.k (.s .o .z)) (.kkkk (.kddd (.dddd (.d .z)))) fun a w hI=>?_
      refine wp_seq ?_
      refine Q3 hI 6 [] [] [Uc 0 55 _,Uc 1 56 _,Uc 2 57 (Qi (.pointer (some ⟨m0.g,0+((q1.k:Int)).toNat*1,none⟩))),Uc 3 58 (Qi (.slice (some ⟨rc.b,0,none⟩) rc.n rc.cap)),Uc 4 59 (pI (rc.n:Int)),Uc 5 60 _] (.k (.k .z)) (.kkkk (.k .z)) ⟨mv,mv,Qs (.tmp 5 rfl rfl) (.tmp 6 rfl rfl) Qt (by omega) (by omega) (by kernel_rfl) (.here 7 rfl),Yv (e:=⟨m0.g,1,false,Jb R1⟩) (idx:=q1.k) 0 rfl rfl rfl (by kernel_rfl) rfl (.tmp 7 rfl rfl) hMp.top rfl (Vb hrc) (show 0+((q1.k:Int)).toNat*1=(q1.k)*1 by omega) Xn (.here 8 rfl),Uz (.tmp 8 rfl rfl) (Xb).under (.here 9 rfl),mv,trivial⟩ (.k (.k .z)) (.kkkk (.kddd (.dkk .z))) fun a w hI=>?_
      refine wp_block ?_
      refine Q9 (fun(k:Nat) a w=>(k≤rc.n)∧Inv ⟨123,w0,M,fun _=>False⟩ [⟨16,16,none,none,.obj,0,0,false,Zo (Ue H1 rc.b (Xj (Vm (X1.getD q1.k []) ((X1.getD q1.k []).getD q1.k 0) k) rc.cap)),[]⟩,⟨11,11,none,none,.ptr,38,3,true,pv (Qv ((X1.getD q1.k []).getD q1.k 0)),[]⟩] [] [⟨none,none,0,Qc 1 false A.length (fun i=>Qe (A.getD i []))⟩,⟨none,none,6,Qi (.slice (some ⟨m0.g,0,none⟩) A.length m0.cap)⟩,⟨none,none,36,pI (A.length:Int)⟩,⟨none,none,37,pI (q1.k:Int)⟩,⟨none,none,8,pI (q1.k:Int)⟩,⟨none,none,59,pI (rc.n:Int)⟩,⟨none,none,60,pI (k:Int)⟩] Qf a w) (fun(k:Nat)=>rc.n-k) (0) ⟨Nat.zero_le _,(hI.conv ⟨⟨0,_,_,rfl,⟨rfl,rfl,rfl⟩,rfl,fun _=>(Qdk (by rw[divAt_zero]; exact(Qcv fun e he hb=>hun1 e _ he (hMp.rows _ _ hrc) hb).symm))⟩,⟨1,_,_,rfl,⟨rfl,rfl,rfl⟩,rfl,fun _=>fun _ _ h=>h⟩,trivial⟩ ⟨⟨rfl,rfl,0,_,rfl,fun _ _ h=>h⟩,⟨rfl,rfl,1,_,rfl,fun _ _ h=>h⟩,⟨rfl,rfl,2,_,rfl,fun _ _ h=>h⟩,⟨rfl,rfl,3,_,rfl,fun _ _ h=>h⟩,⟨rfl,rfl,4,_,rfl,fun _ _ h=>h⟩,⟨rfl,rfl,5,_,rfl,fun _ _ h=>h⟩,⟨rfl,rfl,6,_,rfl,(fun _ _ h=>h)⟩,trivial⟩)⟩ ?_
      intro k a w hIk
      obtain⟨hp,hI⟩:=hIk
      refine Q3 hI 1 [] [] [Uc 0 61 _] (.k (.k .z)) (.kkkk (.kkk .z)) ⟨bl,trivial⟩ (.k (.k .z)) (.k8 .z) fun a w hI=>?_
      refine wp_seq ?_
      refine Xa hI 7 rfl (fun ht=>?_) (fun ht=>?_)
      ·have t6:=of_decide_eq_true ht
       refine wp_skip ?_
       refine Qb ?_
       refine wp_seq ?_
       refine wp_block ?_
       refine Q3 hI 2 [] [] [Uc 0 62 _,Uc 1 12 _] (.k (.k .z)) (.k8 .z) ⟨mv,mv,trivial⟩ (.k (.k .z)) (.kkkk (.kkkd (.dk .z))) fun a w hI=>?_
       refine srD hI [0,0,3,7,0,0,0,96,224,0,992,2016,0,8160,16383,32767] [] [] [Uc 0 63 _,Uc 1 64 _,Uc 2 65 (Qi (.pointer (some ⟨m0.g,0+((q1.k:Int)).toNat*1,none⟩))),Uc 3 66 (Qi (.slice (some ⟨rc.b,0,none⟩) rc.n rc.cap)),Uc 4 67 _,Uc 5 68 _,Uc 6 69 _,Uc 7 70 (Qi (.pointer (some ⟨m0.g,0+((q1.k:Int)).toNat*1,none⟩))),Uc 8 71 (Qi (.slice (some ⟨rc.b,0,none⟩) rc.n rc.cap)),Uc 9 72 _,Uc 10 73 (Qi (.pointer (some ⟨rc.b,0+((k:Int)).toNat*3,none⟩))),Uc 11 74 (Qv ((X1.getD q1.k []).getD k 0)),Uc 12 75 (Qv ((X1.getD q1.k []).getD q1.k 0)),Uc 13 76 _,Uc 14 77 (Qi (.pointer (some ⟨rc.b,0+((k:Int)).toNat*3,none⟩)))] (.u none [(15,Zo (Ye (Ue H1 rc.b (Xj (Vm (X1.getD q1.k []) ((X1.getD q1.k []).getD q1.k 0) k) rc.cap)) rc.b k (itR ((X1.getD q1.k []).getD k 0/((X1.getD q1.k []).getD q1.k 0)))))] (.k .z)) (.k8 .z) ⟨mv,mv,Qs (.tmp 8 rfl rfl) (.tmp 9 rfl rfl) Qt (by omega) (by omega) (by kernel_rfl) (.here 10 rfl),Yv (e:=⟨m0.g,1,false,Jb R1⟩) (idx:=q1.k) 0 rfl rfl rfl (by kernel_rfl) rfl (.tmp 10 rfl rfl) (Qbw hMp.top (Ne.symm hoff)) rfl (Vb hrc) (show 0+((q1.k:Int)).toNat*1=(q1.k)*1 by omega) Xn (.here 11 rfl),mv,mv,mv,Qs (.tmp 13 rfl rfl) (.tmp 14 rfl rfl) Qt (by omega) (by omega) (by kernel_rfl) (.here 15 rfl),Yv (e:=⟨m0.g,1,false,Jb R1⟩) (idx:=q1.k) 0 rfl rfl rfl (by kernel_rfl) rfl (.tmp 15 rfl rfl) (Qbw hMp.top (Ne.symm hoff)) rfl (Vb hrc) (show 0+((q1.k:Int)).toNat*1=(q1.k)*1 by omega) Xn (.here 16 rfl),mv,Qs (.tmp 16 rfl rfl) (.tmp 17 rfl rfl) Xb (by omega) (by omega) (by kernel_rfl) (.here 18 rfl),Yv (e:=⟨rc.b,3,true,Xj (Vm (X1.getD q1.k []) ((X1.getD q1.k []).getD q1.k 0) k) rc.cap⟩) (idx:=k) 0 rfl rfl rfl (by kernel_rfl) rfl (.tmp 18 rfl rfl) (Qeb (hMp.rows _ _ hrc) rfl) rfl (divAt_item (by omega)) (show 0+((k:Int)).toNat*3=(k)*3 by omega) Xx (.here 19 rfl),Xy 1 rfl rfl rfl rfl (by kernel_rfl) Xx rfl (.here 20 rfl),ce2 (Zf _) (c_by (hX1b _ _) (hX1b _ _) (by omega) hpne),Qs (.tmp 11 rfl rfl) (.tmp 12 rfl rfl) Xb (by omega) (by omega) (by kernel_rfl) (.here 22 rfl),Zn (e:=⟨rc.b,3,true,Xj (Vm (X1.getD q1.k []) ((X1.getD q1.k []).getD q1.k 0) k) rc.cap⟩) (idx:=k) (it:=itR ((X1.getD q1.k []).getD k 0/((X1.getD q1.k []).getD q1.k 0))) 0 rfl rfl rfl (by kernel_rfl) 0 rfl (by kernel_rfl) (by kernel_rfl) rfl (.tmp 22 rfl rfl) (Qeb (hMp.rows _ _ hrc) rfl) rfl (Qgu (by rw[Kv]; omega)) (show 0+((k:Int)).toNat*3=(k)*3 by omega) Xx (.tmp 21 rfl rfl) (Ym _),trivial⟩ (.s .o (.k .z)) (.kkkk (.kkkd (.d8 (.dddd (.ddd .z))))) fun a w hI=>?_
       refine Xo ?_
       refine Qb ?_
       refine Z3 hI 2 [] [] [Uc 0 78 _,Uc 1 60 _] (.k (.k .z)) (.kkkk (.kk (.t 1 .z))) ⟨bl,mv,trivial⟩ (.k (.k .z)) (.kkkk (.kkdd (.k .z))) fun a w hI=>?_
       refine Qb ?_
       exact⟨k+1,⟨(show k+1≤rc.n by omega),(hI.conv ⟨⟨0,_,_,rfl,⟨rfl,rfl,rfl⟩,rfl,fun _=>(Qdk (by rw[Qgh,Qht (by rw[Kv]; omega),divAt_step (by omega)]))⟩,⟨1,_,_,rfl,⟨rfl,rfl,rfl⟩,rfl,fun _=>fun _ _ h=>h⟩,trivial⟩ ⟨⟨rfl,rfl,0,_,rfl,fun _ _ h=>h⟩,⟨rfl,rfl,1,_,rfl,fun _ _ h=>h⟩,⟨rfl,rfl,2,_,rfl,fun _ _ h=>h⟩,⟨rfl,rfl,3,_,rfl,fun _ _ h=>h⟩,⟨rfl,rfl,4,_,rfl,fun _ _ h=>h⟩,⟨rfl,rfl,5,_,rfl,fun _ _ h=>h⟩,⟨rfl,rfl,6,_,rfl,(Qw (by omega))⟩,trivial⟩)⟩,(show rc.n-(k+1)<rc.n-k by omega)⟩
      ·have t7:=of_decide_eq_false ht
       refine wp_exit ?_
       refine Ql ?_
       refine Ql ?_
       refine Q7 ?_
       refine Qb ?_
       obtain⟨X2,eX2⟩:∃X2,X2=Vs X1 q1.k:=⟨_,rfl⟩
       have hM2:MatOk m0.g m0.cap R1 X2 (Ue H1 rc.b (Xj (Vm (X1.getD q1.k []) ((X1.getD q1.k []).getD q1.k 0) k) rc.cap)):=by have h:=hMp.setRow hrc (l:=Vm (X1.getD q1.k []) ((X1.getD q1.k []).getD q1.k 0) k) Kv; rw[show k=(X1.getD q1.k []).length by omega]at h ⊢; rw[eX2]; exact h
       have hX2l:X2.length=A.length:=by rw[eX2,Ut]; exact hX1l
       have hX2r:Rect (A.length+m) X2:=by rw[eX2]; exact hX1r.norm (by omega)
       refine Q3 hI 3 [] [] [Uc 0 79 _,Uc 1 80 (pI (A.length:Int)),Uc 2 81 _] (.k (.k .z)) (.k8 .z) ⟨mv,Uz (.tmp 8 rfl rfl) (Qt).under (.here 9 rfl),mv,trivial⟩ (.k (.k .z)) (.kkkk (.kddd (.dkk .z))) fun a w hI=>?_
       refine wp_block ?_
       refine Q9 (fun(q3:BI) a w=>(q3.k≤A.length∧MatOk m0.g m0.cap R1 (K8 X2 q1.k q3.k) q3.H)∧Inv ⟨123,w0,M,fun _=>False⟩ [⟨16,16,none,none,.obj,0,0,false,Zo q3.H,[]⟩,⟨11,11,none,none,.ptr,38,3,true,pv (Qv ((X1.getD q1.k []).getD q1.k 0)),[]⟩] [] [⟨none,none,0,Qc 1 false A.length (fun i=>Qe (A.getD i []))⟩,⟨none,none,6,Qi (.slice (some ⟨m0.g,0,none⟩) A.length m0.cap)⟩,⟨none,none,36,pI (A.length:Int)⟩,⟨none,none,37,pI (q1.k:Int)⟩,⟨none,none,8,pI (q1.k:Int)⟩,⟨none,none,80,pI (A.length:Int)⟩,⟨none,none,81,pI (q3.k:Int)⟩] Qf a w) (fun(q3:BI)=>A.length-q3.k) (⟨0,R1,Ue H1 rc.b (Xj (Vm (X1.getD q1.k []) ((X1.getD q1.k []).getD q1.k 0) k) rc.cap)⟩) ⟨⟨Nat.zero_le _,by show MatOk m0.g m0.cap R1 (K8 X2 q1.k 0) _; rw[elimX_zero]; exact hM2⟩,(hI.conv ⟨⟨0,_,_,rfl,⟨rfl,rfl,rfl⟩,rfl,fun _=>(fun _ _ h=>h)⟩,⟨1,_,_,rfl,⟨rfl,rfl,rfl⟩,rfl,fun _=>fun _ _ h=>h⟩,trivial⟩ ⟨⟨rfl,rfl,0,_,rfl,fun _ _ h=>h⟩,⟨rfl,rfl,1,_,rfl,fun _ _ h=>h⟩,⟨rfl,rfl,2,_,rfl,fun _ _ h=>h⟩,⟨rfl,rfl,3,_,rfl,fun _ _ h=>h⟩,⟨rfl,rfl,4,_,rfl,fun _ _ h=>h⟩,⟨rfl,rfl,5,_,rfl,fun _ _ h=>h⟩,⟨rfl,rfl,6,_,rfl,(Qw rfl)⟩,trivial⟩)⟩ ?_
       intro q3 a w hIk
       obtain⟨⟨hk3,hM3⟩,hI⟩:=hIk
       refine Q3 hI 1 [] [] [Uc 0 82 _] (.k (.k .z)) (.kkkk (.kkk .z)) ⟨bl,trivial⟩ (.k (.k .z)) (.k8 .z) fun a w hI=>?_
       refine wp_seq ?_
       refine Xa hI 7 rfl (fun ht=>?_) (fun ht=>?_)
       ·have t8:=of_decide_eq_true ht
        refine wp_skip ?_
        refine Qb ?_
        refine wp_seq ?_
        refine wp_block ?_
        refine Q3 hI 2 [] [] [Uc 0 83 _,Uc 1 13 _] (.k (.k .z)) (.k8 .z) ⟨mv,mv,trivial⟩ (.k (.k .z)) (.kkkk (.kkkd (.dk .z))) fun a w hI=>?_
        refine Q3 hI 3 [] [] [Uc 0 84 _,Uc 1 85 _,Uc 2 86 _] (.k (.k .z)) (.k8 .z) ⟨mv,mv,bl,trivial⟩ (.k (.k .z)) (.k8 (.ddk .z)) fun a w hI=>?_
        refine Xa hI 8 rfl (fun ht=>?_) (fun ht=>?_)
        ·have t9:=ht
         have hne0:q3.k≠q1.k:=fun e=>by have:=t9; rw[e]at this; simp at this
         obtain⟨ri,hri⟩:=hM3.get (i:=q3.k) (by rw[Ki]; omega)
         have hfi:=hM3.fit _ _ hri
         have hfc3:=hM3.fit _ _ hrc
         have eL1:(K8 X2 q1.k q3.k).getD q3.k []=X2.getD q3.k []:=elimX_at (by omega) (Nat.le_refl _)
         have eL2:(K8 X2 q1.k q3.k).getD q1.k []=X2.getD q1.k []:=elimX_own (by omega)
         rw[eL1]at hfi
         rw[eL2]at hfc3
         have m1:(⟨ri.b,3,true,Xj (X2.getD q3.k []) ri.cap⟩:Bk)∈q3.H:=by have h:=hM3.rows _ _ hri; rw[eL1]at h; exact h
         have m2:(⟨rc.b,3,true,Xj (X2.getD q1.k []) rc.cap⟩:Bk)∈q3.H:=by have h:=hM3.rows _ _ hrc; rw[eL2]at h; exact h
         have hne:rc.b≠ri.b:=hM3.apart _ _ _ _ hrc hri (fun e=>hne0 e.symm)
         have hl1:=hX2r q3.k (by omega)
         have hl2:=hX2r q1.k (by omega)
         have hX2b:∀k,BdR (Kx j q1.k) ((X2.getD q3.k []).getD k 0):=fun k=>by rw[eX2,Qfy hne0 (by omega)]; exact hX1b _ _
         have b1:=bd_mem hX2b
         have b2:∀x,x∈X2.getD q1.k []→BdR (Kx j q1.k+Kx j q1.k) x:=bd_mem fun k=>by rw[eX2]; exact hX1b.norm (Qea h1 _) (by omega) k
         have b3:=hX2b q1.k
         refine sem_SD hI [] [] [⟨some 0,none,87,Qi (.slice (some ⟨m0.g,0,none⟩) A.length m0.cap)⟩,⟨some 1,none,88,pI (q3.k:Int)⟩,⟨some 2,none,89,Qi (.pointer (some ⟨m0.g,0+((q3.k:Int)).toNat*1,none⟩))⟩,⟨some 3,none,90,Qi (.slice (some ⟨ri.b,0,none⟩) ri.n ri.cap)⟩,⟨some 4,none,91,Qi (.slice (some ⟨m0.g,0,none⟩) A.length m0.cap)⟩,⟨some 5,none,92,pI (q1.k:Int)⟩,⟨some 6,none,93,Qi (.pointer (some ⟨m0.g,0+((q1.k:Int)).toNat*1,none⟩))⟩,⟨some 7,none,94,Qi (.slice (some ⟨rc.b,0,none⟩) rc.n rc.cap)⟩,⟨some 8,none,95,Qi (.slice (some ⟨m0.g,0,none⟩) A.length m0.cap)⟩,⟨some 9,none,96,pI (q3.k:Int)⟩,⟨some 10,none,97,Qi (.pointer (some ⟨m0.g,0+((q3.k:Int)).toNat*1,none⟩))⟩,⟨some 11,none,98,Qi (.slice (some ⟨ri.b,0,none⟩) ri.n ri.cap)⟩,⟨some 12,none,99,pI (q1.k:Int)⟩,⟨some 13,none,100,Qi (.pointer (some ⟨ri.b,0+((q1.k:Int)).toNat*3,none⟩))⟩,⟨some 14,none,101,Qv ((X2.getD q3.k []).getD q1.k 0)⟩] (.k (.k .z)) (.k8 (.k .z)) rfl [0,0,3,7,0,0,48,112,0,0,768,1792,0,7936,16128,32767] 15 (by kernel_rfl) ?_ (.k (.k .z)) (.kkkk (.kkkd (.dddd (.kddd (.kddd (.dddk .z)))))) (fun a w hI=>hI) (⟨_,fun a w hI=>step_callL3 (fun _ _=>by kernel_rfl) hI (n0:=0) rfl (Y2 _) (.tmp 7 rfl rfl) (.tmp 8 rfl rfl) (.tmp 9 rfl rfl) (fun M B w v1 v2 v3 hM hBM hH h1 h2 h3=>r_reduce (s1:=0) (s2:=0) (n1:=ri.n) (n2:=rc.n) (c1:=ri.cap) (c2:=rc.cap) (j:=Kx j q1.k) (j2:=Kx j q1.k+Kx j q1.k) (jf:=Kx j q1.k) m1 m2 hne (by omega) (by omega) (by omega) (by omega) b1 b2 b3 (by omega) M B w v1 v2 v3 hM hBM hH h1 h2 h3) (by kernel_rfl) (by kernel_rfl) (by kernel_rfl) (by kernel_rfl),
           rfl⟩) ?_
         ·exact⟨Qx (.tmp 1 rfl rfl) (.here 9 rfl),Qx (.tmp 7 rfl rfl) (.here 10 rfl),Qs (.tmp 9 rfl rfl) (.tmp 10 rfl rfl) Qt (by omega) (by omega) (by kernel_rfl) (.here 11 rfl),Yv (e:=⟨m0.g,1,false,Jb R1⟩) (idx:=q3.k) 0 rfl rfl rfl (by kernel_rfl) rfl (.tmp 11 rfl rfl) hM3.top rfl (Vb hri) (show 0+((q3.k:Int)).toNat*1=(q3.k)*1 by omega) Xn (.here 12 rfl),Qx (.tmp 1 rfl rfl) (.here 13 rfl),Qx (.tmp 4 rfl rfl) (.here 14 rfl),Qs (.tmp 13 rfl rfl) (.tmp 14 rfl rfl) Qt (by omega) (by omega) (by kernel_rfl) (.here 15 rfl),Yv (e:=⟨m0.g,1,false,Jb R1⟩) (idx:=q1.k) 0 rfl rfl rfl (by kernel_rfl) rfl (.tmp 15 rfl rfl) hM3.top rfl (Vb hrc) (show 0+((q1.k:Int)).toNat*1=(q1.k)*1 by omega) Xn (.here 16 rfl),Qx (.tmp 1 rfl rfl) (.here 17 rfl),Qx (.tmp 7 rfl rfl) (.here 18 rfl),Qs (.tmp 17 rfl rfl) (.tmp 18 rfl rfl) Qt (by omega) (by omega) (by kernel_rfl) (.here 19 rfl),Yv (e:=⟨m0.g,1,false,Jb R1⟩) (idx:=q3.k) 0 rfl rfl rfl (by kernel_rfl) rfl (.tmp 19 rfl rfl) hM3.top rfl (Vb hri) (show 0+((q3.k:Int)).toNat*1=(q3.k)*1 by omega) Xn (.here 20 rfl),Qx (.tmp 4 rfl rfl) (.here 21 rfl),Qs (.tmp 20 rfl rfl) (.tmp 21 rfl rfl) Xb (by omega) (by omega) (by kernel_rfl) (.here 22 rfl),Yv (e:=⟨ri.b,3,true,Xj (X2.getD q3.k []) ri.cap⟩) (idx:=q1.k) 0 rfl rfl rfl (by kernel_rfl) rfl (.tmp 22 rfl rfl) m1 rfl (Kw (by omega)) (show 0+((q1.k:Int)).toNat*3=(q1.k)*3 by omega) Xx (.here 23 rfl),trivial⟩
         ·intro a w hI
          refine Xo ?_
          refine Qb ?_
          refine Z3 hI 2 [] [] [Uc 0 103 _,Uc 1 81 _] (.k (.k .z)) (.kkkk (.kkk (.t 1 (.kkk .z)))) ⟨bl,mv,trivial⟩ (.k (.k .z)) (.dkkk (.kkkd (.dddd (.k .z)))) fun a w hI=>?_
          refine Qb ?_
          exact⟨⟨q3.k+1,R1,Ue q3.H ri.b (Xj (if(X2.getD q3.k []).getD q1.k 0=0 then X2.getD q3.k []else Ka (X2.getD q3.k []) 0 (X2.getD q1.k []) 0 ((X2.getD q3.k []).getD q1.k 0) rc.n) ri.cap)⟩,⟨⟨by show q3.k+1≤A.length; omega,by have h:=hM3.setRow hri (l:=Qco (X2.getD q3.k []) (X2.getD q1.k []) q1.k) (by rw[redRow_len,eL1]); rw[elimX_step (by omega) hne0]at h; show MatOk m0.g m0.cap R1 (K8 X2 q1.k (q3.k+1)) _; rw[show rc.n=(X2.getD q1.k []).length by omega]; exact h⟩,(hI.conv ⟨⟨0,_,_,rfl,⟨rfl,rfl,rfl⟩,rfl,fun _=>(fun _ _ h=>h)⟩,⟨1,_,_,rfl,⟨rfl,rfl,rfl⟩,rfl,fun _=>fun _ _ h=>h⟩,trivial⟩ ⟨⟨rfl,rfl,0,_,rfl,fun _ _ h=>h⟩,⟨rfl,rfl,1,_,rfl,fun _ _ h=>h⟩,⟨rfl,rfl,2,_,rfl,fun _ _ h=>h⟩,⟨rfl,rfl,3,_,rfl,fun _ _ h=>h⟩,⟨rfl,rfl,4,_,rfl,fun _ _ h=>h⟩,⟨rfl,rfl,5,_,rfl,fun _ _ h=>h⟩,⟨rfl,rfl,6,_,rfl,(Qw (by show((q3.k:Int)+1)=((q3.k+1:Nat):Int); omega))⟩,trivial⟩)⟩,(show A.length-(q3.k+1)<A.length-q3.k by omega)⟩
        ·have t10:=ht
         refine wp_skip ?_
         refine Xo ?_
         refine Qb ?_
         refine Z3 hI 2 [] [] [Uc 0 103 _,Uc 1 81 _] (.k (.k .z)) (.kkkk (.kk (.t 1 (.kk .z)))) ⟨bl,mv,trivial⟩ (.k (.k .z)) (.kkkk (.kkdd (.ddk .z))) fun a w hI=>?_
         refine Qb ?_
         exact⟨⟨q3.k+1,R1,q3.H⟩,⟨⟨by show q3.k+1≤A.length; omega,by have h:=hM3; rw[show q3.k=q1.k by have:=t10; simp at this; omega]at h ⊢; show MatOk m0.g m0.cap R1 (K8 X2 q1.k (q1.k+1)) _; rw[elimX_skip]; exact h⟩,(hI.conv ⟨⟨0,_,_,rfl,⟨rfl,rfl,rfl⟩,rfl,fun _=>(fun _ _ h=>h)⟩,⟨1,_,_,rfl,⟨rfl,rfl,rfl⟩,rfl,fun _=>fun _ _ h=>h⟩,trivial⟩ ⟨⟨rfl,rfl,0,_,rfl,fun _ _ h=>h⟩,⟨rfl,rfl,1,_,rfl,fun _ _ h=>h⟩,⟨rfl,rfl,2,_,rfl,fun _ _ h=>h⟩,⟨rfl,rfl,3,_,rfl,fun _ _ h=>h⟩,⟨rfl,rfl,4,_,rfl,fun _ _ h=>h⟩,⟨rfl,rfl,5,_,rfl,fun _ _ h=>h⟩,⟨rfl,rfl,6,_,rfl,(Qw (by show((q3.k:Int)+1)=((q3.k+1:Nat):Int); omega))⟩,trivial⟩)⟩,(show A.length-(q3.k+1)<A.length-q3.k by omega)⟩
       ·have t11:=of_decide_eq_false ht
        refine wp_exit ?_
        refine Ql ?_
        refine Ql ?_
        refine Q7 ?_
        refine Xo ?_
        refine Qb ?_
        refine Z3 hI 2 [] [] [Uc 0 104 _,Uc 1 37 _] (.k (.k .z)) (.kkk (.t 1 (.kkkk .z))) ⟨bl,mv,trivial⟩ (.k (.k .z)) (.kkkd (.dddd (.dk .z))) fun a w hI=>?_
        refine Qb ?_
        exact⟨⟨q1.k+1,R1,q3.H⟩,⟨⟨by show q1.k+1≤A.length; omega,by have h:=hM3; rw[show q3.k=X.length by omega]at h; show MatOk m0.g m0.cap R1 (W5 (Ud (Y8 A B) q1.k) q1.k) q3.H; rw[← eX]; rw[eX2,eX1]at h; exact h,fun c hc=>by rcases Nat.lt_or_ge c q1.k with h|h; exact hns c h; rw[show c=q1.k by have:c<q1.k+1:=hc; omega,← eX]; exact hp0⟩,(hI.conv ⟨⟨0,_,_,rfl,⟨rfl,rfl,rfl⟩,rfl,fun _=>fun _ _ h=>h⟩,trivial⟩ ⟨⟨rfl,rfl,0,_,rfl,fun _ _ h=>h⟩,⟨rfl,rfl,1,_,rfl,fun _ _ h=>h⟩,⟨rfl,rfl,2,_,rfl,fun _ _ h=>h⟩,⟨rfl,rfl,3,_,rfl,(Qw (by show((q1.k:Int)+1)=((q1.k+1:Nat):Int); omega))⟩,trivial⟩)⟩,(show A.length-(q1.k+1)<A.length-q1.k by omega)⟩
   ·have t12:=of_decide_eq_false ht
    refine wp_exit ?_
    refine Ql ?_
    refine Ql ?_
    refine Q7 ?_
    refine Qb ?_
    refine wp_seq ?_
    obtain⟨XF,eXF⟩:∃XF,XF=Ud (Y8 A B) A.length:=⟨_,rfl⟩
    have hq1:q1.k=A.length:=by omega
    have hXFl:XF.length=A.length:=by rw[eXF,U7,Kc]
    have hXFr:Rect (A.length+m) XF:=by rw[eXF]; exact hXr0.gj _ (by rw[Kc]; omega)
    have hBF:BldOk m0.g A.length q1.R XF q1.H:=by have h:=hM; rw[hq1,← eXF]at h; have h:=h.bld (fun i hi=>by rw[hXFr i hi]; omega); rw[hXFl]at h; exact h
    refine Q3 hI 3 [] [] [Uc 0 105 _,Uc 1 106 (pI (A.length:Int)),Uc 2 107 _] (.k .z) (.kkkk (.k .z)) ⟨mv,Uz (.tmp 5 rfl rfl) (Qt).under (.here 6 rfl),mv,trivial⟩ (.k .z) (.kkdd (.ddkk .z)) fun a w hI=>?_
    refine wp_block ?_
    refine Q9 (fun(q4:BI) a w=>(q4.k≤A.length∧BldOk m0.g A.length q4.R (Qch XF A.length q4.k) q4.H)∧Inv ⟨123,w0,M,fun _=>False⟩ [⟨16,16,none,none,.obj,0,0,false,Zo q4.H,[]⟩] [] [⟨none,none,0,Qc 1 false A.length (fun i=>Qe (A.getD i []))⟩,⟨none,none,6,Qi (.slice (some ⟨m0.g,0,none⟩) A.length m0.cap)⟩,⟨none,none,106,pI (A.length:Int)⟩,⟨none,none,107,pI (q4.k:Int)⟩] Qf a w) (fun(q4:BI)=>A.length-q4.k) (⟨0,q1.R,q1.H⟩) ⟨⟨Nat.zero_le _,by show BldOk m0.g A.length q1.R (Qch XF A.length 0) q1.H; rw[dropX_zero]; exact hBF⟩,(hI.conv ⟨⟨0,_,_,rfl,⟨rfl,rfl,rfl⟩,rfl,fun _=>(fun _ _ h=>h)⟩,trivial⟩ ⟨⟨rfl,rfl,0,_,rfl,fun _ _ h=>h⟩,⟨rfl,rfl,1,_,rfl,fun _ _ h=>h⟩,⟨rfl,rfl,2,_,rfl,fun _ _ h=>h⟩,⟨rfl,rfl,3,_,rfl,(Qw rfl)⟩,trivial⟩)⟩ ?_
    intro q4 a w hIk
    obtain⟨⟨hk4,hB4⟩,hI⟩:=hIk
    refine Q3 hI 1 [] [] [Uc 0 108 _] (.k .z) (.kkkk .z) ⟨bl,trivial⟩ (.k .z) (.kkkk (.k .z)) fun a w hI=>?_
    refine wp_seq ?_
    refine Xa hI 4 rfl (fun ht=>?_) (fun ht=>?_)
    ·have t13:=of_decide_eq_true ht
     refine wp_skip ?_
     refine Qb ?_
     refine wp_seq ?_
     refine wp_block ?_
     refine Q3 hI 2 [] [] [Uc 0 109 _,Uc 1 14 _] (.k .z) (.kkkk (.k .z)) ⟨mv,mv,trivial⟩ (.k .z) (.kkkk (.ddk .z)) fun a w hI=>?_
     have hl4:=hB4.len.1
     have hxk:=hXFr q4.k (by omega)
     have e4:(Qch XF A.length q4.k).getD q4.k []=XF.getD q4.k []:=by rw[Qbv (by omega),if_neg (Nat.lt_irrefl _)]
     have hrn:=hB4.num q4.k (by omega)
     rw[e4]at hrn
     have hr0:(Xe q4.R q4.k).n≠0:=by omega
     obtain⟨hc1,hc2,hmem,_⟩:=hB4.rows q4.k (by omega) hr0
     rw[e4]at hmem
     refine sem_ST hI [] [] [⟨some 0,none,110,Qi (.slice (some ⟨m0.g,0,none⟩) A.length m0.cap)⟩,⟨some 1,none,111,pI (q4.k:Int)⟩,⟨some 2,none,112,Qi (.slice (some ⟨m0.g,0,none⟩) A.length m0.cap)⟩,⟨some 3,none,113,pI (q4.k:Int)⟩,⟨some 4,none,114,Qi (.pointer (some ⟨m0.g,0+((q4.k:Int)).toNat*1,none⟩))⟩,⟨some 5,none,115,Qi (.slice (some ⟨(Xe q4.R q4.k).b,0,none⟩) ((Xe q4.R q4.k).n) ((Xe q4.R q4.k).cap))⟩,⟨some 6,none,116,Qc 1 false A.length (fun i=>Qe (A.getD i []))⟩,⟨some 7,none,117,pI (A.length:Int)⟩,⟨some 8,none,118,Qi (.slice (some ⟨(Xe q4.R q4.k).b,A.length*3,none⟩) ((Xe q4.R q4.k).n-A.length) ((Xe q4.R q4.k).cap-A.length))⟩] (.k .z) (.kkkk (.k .z)) rfl [0,1,3,7,15,31,63,127,255,511,1023,2047] 9 (by kernel_rfl) ?_ (.k .z) (.kkkk (.dkkd (.dddd (.dk .z)))) (fun a w hI=>hI) (⟨_,fun a w hI=>step_callRowO (fun _ _=>by kernel_rfl) hI (n0:=0) rfl (.tmp 6 rfl rfl) (fun B w hH=>heap_rats_drop hH hmem hrn (by omega) (by omega) (by omega)) (fun M w v hM hv=>c_clone (by rw[List.length_drop]; omega) (by rw[List.length_drop]; omega) M w v hM hv) (by kernel_rfl) (by kernel_rfl) (by kernel_rfl) (by kernel_rfl),
       _,U2 fun l hC a w hI=>Jw hI [] [⟨some 0,none,120,Qi (.pointer (some ⟨m0.g,0+((q4.k:Int)).toNat*1,none⟩))⟩] (.k .z) (.k8 .z) (by kernel_rfl) (Qs (.tmp 5 rfl rfl) (.tmp 6 rfl rfl) Qt (by omega) (by omega) (by kernel_rfl) (.here 8 rfl)) (.k .z) (.kkkk (.kddd (.k .z))),
       _,U2 fun l hC a w hI=>Jw hI [] [] (.u none [(0,Zo (Ye (Kz q4.H l.b (Xj ((XF.getD q4.k []).drop A.length) l.cap)) m0.g q4.k (Zm l.hdr)))] .z) (.kkkk (.kk .z)) (by kernel_rfl) (Zn (e:=⟨m0.g,1,false,J3 q4.R⟩) (idx:=q4.k) (it:=Zm l.hdr) 0 rfl rfl rfl (by kernel_rfl) 0 rfl (by kernel_rfl) (by kernel_rfl) rfl (.tmp 5 rfl rfl) (Vk hB4.top (hB4.off (by omega) (.inr hC.2.2.2))) rfl (by rw[Qb9]; omega) (show 0+((q4.k:Int)).toNat*1=(q4.k)*1 by omega) Xn (.tmp 0 rfl rfl) (Vo _ _ _)) (.s .o .z) (.dkkk (.kd .z)),
       rfl⟩) ?_
     ·exact⟨Qx (.tmp 1 rfl rfl) (.here 5 rfl),Qx (.tmp 4 rfl rfl) (.here 6 rfl),Qx (.tmp 1 rfl rfl) (.here 7 rfl),Qx (.tmp 4 rfl rfl) (.here 8 rfl),Qs (.tmp 7 rfl rfl) (.tmp 8 rfl rfl) Qt (by omega) (by omega) (by kernel_rfl) (.here 9 rfl),Yv (e:=⟨m0.g,1,false,J3 q4.R⟩) (idx:=q4.k) 0 rfl rfl rfl (by kernel_rfl) rfl (.tmp 9 rfl rfl) hB4.top rfl (tops0_hdr (by omega) hr0) (show 0+((q4.k:Int)).toNat*1=(q4.k)*1 by omega) Xn (.here 10 rfl),Qx (.tmp 0 rfl rfl) (.here 11 rfl),Qm (.tmp 11 rfl rfl) (Qt).under (.here 12 rfl),op_sliceLo (.tmp 10 rfl rfl) (.tmp 12 rfl rfl) Xb (by omega) (by omega) (by omega) (.at_ 13 _ _ rfl (pEq_to (by simp))),trivial⟩
     ·rintro a w ⟨l,hC,hI⟩
      have hC:l.n=((XF.getD q4.k []).drop A.length).length∧l.n≤l.cap∧l.cap≤maxLen∧∀e,e∈q4.H→e.b≠l.b:=hC
      refine Xo ?_
      refine Qb ?_
      refine Z3 hI 2 [] [] [Uc 0 121 _,Uc 1 107 _] (.k .z) (.kkk (.t 1 .z)) ⟨bl,mv,trivial⟩ (.k .z) (.kkkd (.dk .z)) fun a w hI=>?_
      refine Qb ?_
      exact⟨⟨q4.k+1,q4.R.set q4.k l,Ye (Kz q4.H l.b (Xj ((XF.getD q4.k []).drop A.length) l.cap)) m0.g q4.k (Zm l.hdr)⟩,⟨⟨by show q4.k+1≤A.length; omega,by have h:=hB4.put (i:=q4.k) (l:=(XF.getD q4.k []).drop A.length) (by omega) (by rw[List.length_drop]; omega) hC.1 hC.2.1 hC.2.2.1 (.inr hC.2.2.2); rw[dropX_step (by omega)]at h; exact h⟩,(hI.conv ⟨⟨0,_,_,rfl,⟨rfl,rfl,rfl⟩,rfl,fun _=>fun _ _ h=>h⟩,trivial⟩ ⟨⟨rfl,rfl,0,_,rfl,fun _ _ h=>h⟩,⟨rfl,rfl,1,_,rfl,fun _ _ h=>h⟩,⟨rfl,rfl,2,_,rfl,fun _ _ h=>h⟩,⟨rfl,rfl,3,_,rfl,(Qw (by show((q4.k:Int)+1)=((q4.k+1:Nat):Int); omega))⟩,trivial⟩)⟩,(show A.length-(q4.k+1)<A.length-q4.k by omega)⟩
    ·have t14:=of_decide_eq_false ht
     refine wp_exit ?_
     refine Ql ?_
     refine Ql ?_
     refine Q7 ?_
     refine Qb ?_
     refine Q3 hI 3 [] [] [Uc 0 122 _,Uc 1 4 _,Uc 2 5 _] (.k .z) (.kkkk (.k .z)) ⟨mv,mv,mv,trivial⟩ (.k .z) (.dddd (.ddkk .z)) fun a w hI=>?_
     refine wp_ret ?_
     exact post_mono (finObj2 hI rfl (n0:=0) rfl (.tmp 0 rfl) (.tmp 1 rfl) (p:=Qc 1 false A.length fun i=>Qe ((Wk A B).getD i [])) (fun B' w hH=>by have h:=hB4.read (cap:=m0.cap) hcp.1 hcp.2 (fun i hi=>by rw[Qbv (by omega),if_pos (by omega),List.length_drop,hXFr i (by omega)]; omega) B' w hH; rw[show q4.k=A.length by omega,eXF]at h; exact h)) fun e w' h=>Z6 h fun w v h=>⟨fun _=>h,fun⟨c,hc1,hc2⟩=>absurd (hns c (by omega)) (by omega)⟩
end Wx
