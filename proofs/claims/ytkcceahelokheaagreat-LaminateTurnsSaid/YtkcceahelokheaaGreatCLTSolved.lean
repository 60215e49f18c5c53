import Derived.Test.YtkcceahelokheaaGreatJLT41
namespace Wx
attribute [local irreducible] OpOk
set_option maxHeartbeats 800000
set_option maxRecDepth 100000
open Go Go.RowKit Go.Proofs
set_option linter.unusedVariables false
theorem EE {A B:List (List Rat)} {m j:Nat} (h0:0<A.length) (hn:A.length<=100000) (hm:0<m/\m<=100000) (hA:gE A.length A) (hBl:B.length=A.length) (Nv:∀i,i<A.length->(B.getD i []).length=m) (Kc:qu j A) (Yl:qu j B) (h1:1<=j) (hj:uv j A.length<=100000000):∀(M:Nat->Nat->Prop) (w:World) (v0 v1:Value),cL M w->aO M (λw=>(aA 1 false A.length (λi=>aD (A.getD i []))) w v0) w->aO M (λw=>(aA 1 false A.length (λi=>aD (B.getD i []))) w v1) w->Calls Tryz.prog 161 #[v0,v1] w (bH M (adt (zm (mW A B) A.length) A.length λi=>(tI A B).getD i []) w):=by
 intro M w0 v0 v1 hM hv0 eI
 have U7:∀i,i<A.length->0<(A.getD i []).length:=λi hi=>by rw[hA i hi]; exact h0
 have hAm:∀i,i<A.length->(A.getD i []).length<=1000000:=λi hi=>by rw[hA i hi]; omega
 have hB0:∀i,i<A.length->0<(B.getD i []).length/\(B.getD i []).length<=100000:=λi hi=>by rw[Nv i hi]; exact hm
 refine dr (N:=123) Tryz.func161 rfl rfl rfl hM (show cF M w0 [v0,v1] [⟨none,none,0,aA 1 false A.length (λi=>aD (A.getD i []))⟩,⟨none,none,1,aA 1 false A.length (λi=>aD (B.getD i []))⟩]from⟨⟨rfl,_,rfl,hv0⟩,⟨rfl,_,rfl,eI⟩,trivial⟩) λa hI=>?_
 refine dU hI 2 [Uc 0 4 _,Uc 1 5 _] (.kk .z) ⟨mv,mv,trivial⟩ (.ah .z) λa w hI=>?_
 refine Jf hI [] [] [⟨some 0,none,15,aA 1 false A.length (λi=>aD (A.getD i []))⟩] .z (.ah .z) rfl [0,1,3] 1 (by kernel_rfl) ?_ .z (.ah (.k .z)) (λa w hI=>hI) (⟨_,λa w hI=>Gh 16 (λ_ _=>by kernel_rfl) hI (.tmp 4 rfl rfl) (λM w v hM hv=>Qa h0 (by omega) U7 hAm M w v hM hv) (by kernel_rfl) (by kernel_rfl) (by kernel_rfl),
   _,Oo λl hC a w hI=>ru hI [] [⟨some 0,none,6,bg (.slice (some ⟨l.g,0,none⟩) A.length l.cap)⟩] (.k .z) (.ah (.kk .z)) (by kernel_rfl) (ej (.tmp 0 rfl rfl) (.here 6 rfl)) (.k .z) (.mw (.L8 .z)),
   rfl⟩) ?_
 ·exact⟨aW (.tmp 0 rfl rfl) (.here 4 rfl),trivial⟩
 ·rintro a w ⟨m0,hC,hI⟩
  have hC:fe m0.g m0.cap m0.R A m0.H:=hC
  refine wp_seq ?_
  have TI:A.length<=m0.cap/\m0.cap<=maxLen:=by have h:=hC.size; rw[hC.len]at h; exact h
  refine lA hI 3 [] [] [Uc 0 17 _,Uc 1 18 (pI (A.length:Int)),Uc 2 19 _] (.k .z) (.ah (.k .z)) ⟨mv,mI (.tmp 5 rfl rfl) (aX).under (.here 6 rfl),mv,trivial⟩ (.k .z) (.ah (.oM .z)) λa w hI=>?_
  refine wp_block ?_
  refine dL (λ(q:BI) a w=>(q.k<=A.length/\gD m0.g A.length q.R (kX A B A.length q.k) q.H)/\Inv ⟨123,w0,M,λ_=>False⟩ [⟨16,16,none,none,.obj,0,0,false,wJ q.H,[]⟩] [] [⟨none,none,0,aA 1 false A.length (λi=>aD (A.getD i []))⟩,⟨none,none,1,aA 1 false A.length (λi=>aD (B.getD i []))⟩,⟨none,none,4,bg ((Value.slice none 0 0))⟩,⟨none,none,5,pB false⟩,⟨none,none,6,bg (.slice (some ⟨m0.g,0,none⟩) A.length m0.cap)⟩,⟨none,none,18,pI (A.length:Int)⟩,⟨none,none,19,pI (q.k:Int)⟩] none_ a w) (λ(q:BI)=>A.length-q.k) (⟨0,m0.R,m0.H⟩) ⟨⟨Nat.zero_le _,by have h:=hC.bld U7; show gD m0.g A.length m0.R (kX A B A.length 0) m0.H; rw[Ip]; exact h⟩,(hI.conv ⟨⟨0,_,_,rfl,⟨rfl,rfl,rfl⟩,rfl,λ_=>(λ_ _ h=>h)⟩,trivial⟩ ⟨⟨rfl,rfl,0,_,rfl,λ_ _ h=>h⟩,⟨rfl,rfl,1,_,rfl,λ_ _ h=>h⟩,⟨rfl,rfl,2,_,rfl,λ_ _ h=>h⟩,⟨rfl,rfl,3,_,rfl,λ_ _ h=>h⟩,⟨rfl,rfl,4,_,rfl,λ_ _ h=>h⟩,⟨rfl,rfl,5,_,rfl,λ_ _ h=>h⟩,⟨rfl,rfl,6,_,rfl,(bk rfl)⟩,trivial⟩)⟩ ?_
  intro q a w zo
  obtain⟨⟨hk,hB⟩,hI⟩:=zo
  refine lA hI 1 [] [] [Uc 0 20 _] (.k .z) (.ah (.bS .z)) ⟨bl,trivial⟩ (.k .z) (.k8 .z) λa w hI=>?_
  refine wp_seq ?_
  refine dD hI 7 rfl (λht=>?_) (λht=>?_)
  ·have t1:=of_decide_eq_true ht
   refine wp_skip ?_
   refine ae ?_
   refine wp_seq ?_
   refine wp_block ?_
   refine lA hI 2 [] [] [Uc 0 21 _,Uc 1 7 _] (.k .z) (.k8 .z) ⟨mv,mv,trivial⟩ (.k .z) (.ah (.cA (.dk .z))) λa w hI=>?_
   have Fg:(kX A B A.length q.k).getD q.k []=A.getD q.k []:=by rw[ko (by omega),if_neg (Nat.lt_irrefl _)]
   have hjl2:((kX A B A.length q.k).getD q.k []).length<=1000000:=by rw[Fg]; exact hAm _ (by omega)
   have hbl:=hB0 q.k (by omega)
   refine Je hI [⟨32,32,some 10,none,.obj,0,0,false,Sz q.H (qM (rowAt q.R q.k)) ((kX A B A.length q.k).getD q.k []) (B.getD q.k []),[]⟩] [] [⟨some 0,none,22,bg (.slice (some ⟨m0.g,0,none⟩) A.length m0.cap)⟩,⟨some 1,none,23,pI (q.k:Int)⟩,⟨some 2,none,24,bg (.slice (some ⟨m0.g,0,none⟩) A.length m0.cap)⟩,⟨some 3,none,25,pI (q.k:Int)⟩,⟨some 4,none,26,bg (.pointer (some ⟨m0.g,0+((q.k:Int)).toNat*1,none⟩))⟩,⟨some 5,none,27,bg (qM (rowAt q.R q.k))⟩,⟨some 6,none,28,aA 1 false A.length (λi=>aD (B.getD i []))⟩,⟨some 7,none,29,pI (q.k:Int)⟩,⟨some 8,none,30,cZ 1 false (aD (B.getD q.k []))⟩,⟨some 9,none,31,aD (B.getD q.k [])⟩] (.u (some 10) [] .z) (.k8 .z) rfl [0,0,0,0,12,28,0,0,192,448,1020,2047,4095] 11 (by kernel_rfl) ?_ (.d (.k .z)) (.ah (.cA (.dI (.bh (.dd .z))))) (λa w hI=>hI.KD 0 rfl (by kernel_rfl)) (⟨_,Oo λl hC a w hI=>ru hI [] [⟨some 0,none,33,bg (.pointer (some ⟨m0.g,0+((q.k:Int)).toNat*1,none⟩))⟩] (.k .z) (.k8 (.kk .z)) (by kernel_rfl) (bt (.tmp 8 rfl rfl) (.tmp 9 rfl rfl) aX (by omega) (by omega) (by kernel_rfl) (.here 10 rfl)) (.k .z) (.k8 (.lQ .z)),
     _,Oo λl hC a w hI=>ru hI [] [] (.u none [(0,wJ (gH (appH q.H l.b (bq ((kX A B A.length q.k).getD q.k []++B.getD q.k []) l.cap)) m0.g q.k (uD l.hdr)))] .z) (.k8 (.k .z)) (by kernel_rfl) (kA (e:=⟨m0.g,1,false,jn q.R⟩) (idx:=q.k) (it:=uD l.hdr) 0 rfl rfl rfl (by kernel_rfl) 0 rfl (by kernel_rfl) (by kernel_rfl) rfl (.tmp 8 rfl rfl) (jS hB.top (hB.off (by omega) hC.2.2.2)) rfl (by rw[r4]; have:=hB.len.1; omega) (show 0+((q.k:Int)).toNat*1=(q.k)*1 by omega) bw (.tmp 0 rfl rfl) (iU _ _ _)) (.s .o .z) (.mw (.ah (.d .z))),
     rfl⟩) ?_
   ·exact⟨aW (.tmp 4 rfl rfl) (.here 8 rfl),aW (.tmp 7 rfl rfl) (.here 9 rfl),aW (.tmp 4 rfl rfl) (.here 10 rfl),aW (.tmp 7 rfl rfl) (.here 11 rfl),bt (.tmp 10 rfl rfl) (.tmp 11 rfl rfl) aX (by omega) (by omega) (by kernel_rfl) (.here 12 rfl),dA (e:=⟨m0.g,1,false,jn q.R⟩) (idx:=q.k) 0 rfl rfl rfl (by kernel_rfl) rfl (.tmp 12 rfl rfl) hB.top rfl (rZ (by have:=hB.len.1; omega)) (show 0+((q.k:Int)).toNat*1=(q.k)*1 by omega) bw (.here 13 rfl),aW (.tmp 1 rfl rfl) (.here 14 rfl),aW (.tmp 7 rfl rfl) (.here 15 rfl),jk (.tmp 14 rfl rfl) (.tmp 15 rfl rfl) aX (by omega) (by omega) (by kernel_rfl) (.at_ 16 _ _ rfl (by rw[Int.toNat_natCast]; exactλ_ _ h=>h)),dQ (.tmp 16 rfl rfl) bw ((dF _)) (.here 17 rfl),zP 0 rfl rfl rfl rfl (by kernel_rfl) rfl 1 rfl rfl rfl rfl rfl (by kernel_rfl) (.tmp 13 rfl rfl) (.tmp 17 rfl rfl) (hB.case (by omega)) sX (by omega) (by omega) (.none (by kernel_rfl)),trivial⟩
   ·rintro a w ⟨l,hC,hI⟩
    have hC:Bn q.H (qM (rowAt q.R q.k)) ((kX A B A.length q.k).getD q.k []) (B.getD q.k []) l:=hC
    refine aG ?_
    refine ae ?_
    refine Qq hI 2 [] [] [Uc 0 34 _,Uc 1 19 _] (.k .z) (.ah (.kk (.t 1 .z))) ⟨bl,mv,trivial⟩ (.k .z) (.ah (.dI (.k .z))) λa w hI=>?_
    refine ae ?_
    replace hI:=hI.Ui 16 16 (n0:=0) rfl (by kernel_rfl) (by kernel_rfl)
    exact⟨⟨q.k+1,q.R.set q.k l,gH (appH q.H l.b (bq ((kX A B A.length q.k).getD q.k []++B.getD q.k []) l.cap)) m0.g q.k (uD l.hdr)⟩,⟨⟨by show q.k+1<=A.length; omega,by have h:=hB.append (l':=B.getD q.k []) (by omega) (by omega) hC; rw[Io (by omega)]at h; exact h⟩,(hI.conv ⟨⟨0,_,_,rfl,⟨rfl,rfl,rfl⟩,rfl,λ_=>λ_ _ h=>h⟩,trivial⟩ ⟨⟨rfl,rfl,0,_,rfl,λ_ _ h=>h⟩,⟨rfl,rfl,1,_,rfl,λ_ _ h=>h⟩,⟨rfl,rfl,2,_,rfl,λ_ _ h=>h⟩,⟨rfl,rfl,3,_,rfl,λ_ _ h=>h⟩,⟨rfl,rfl,4,_,rfl,λ_ _ h=>h⟩,⟨rfl,rfl,5,_,rfl,λ_ _ h=>h⟩,⟨rfl,rfl,6,_,rfl,(bk (by show((q.k:Int)+1)=((q.k+1:Nat):Int); omega))⟩,trivial⟩)⟩,(show A.length-(q.k+1)<A.length-q.k by omega)⟩
  ·have t2:=of_decide_eq_false ht
   refine wp_exit ?_
   refine ak ?_
   refine ak ?_
   refine aH ?_
   refine ae ?_
   refine wp_seq ?_
   have hq:q.k=A.length:=by omega
   have Nw:fe m0.g m0.cap q.R (mW A B) q.H:=by have h:=hB.gP (cap:=m0.cap) TI.1 TI.2 (λi hi=>by rw[ko hi]; have:=U7 i hi; split; rw[List.length_append]; omega; exact this); rw[hq]at h; exact h
   have YD:gE (A.length+m) (mW A B):=Bw hA Nv
   have abR:qu j (mW A B):=JO Kc Yl h1
   refine lA hI 3 [] [] [Uc 0 35 _,Uc 1 36 (pI (A.length:Int)),Uc 2 37 _] (.k .z) (.k8 .z) ⟨mv,mI (.tmp 8 rfl rfl) (aX).under (.here 9 rfl),mv,trivial⟩ (.k .z) (.oM (.dx (.Ok .z))) λa w hI=>?_
   refine wp_block ?_
   refine dL (λ(q1:BI) a w=>(q1.k<=A.length/\fe m0.g m0.cap q1.R (Kb (mW A B) q1.k) q1.H/\∀c,c<q1.k->0<=gW (Kb (mW A B) c) c)/\Inv ⟨123,w0,M,λ_=>False⟩ [⟨16,16,none,none,.obj,0,0,false,wJ q1.H,[]⟩] [] [⟨none,none,0,aA 1 false A.length (λi=>aD (A.getD i []))⟩,⟨none,none,6,bg (.slice (some ⟨m0.g,0,none⟩) A.length m0.cap)⟩,⟨none,none,36,pI (A.length:Int)⟩,⟨none,none,37,pI (q1.k:Int)⟩] none_ a w) (λ(q1:BI)=>A.length-q1.k) (⟨0,q.R,q.H⟩) ⟨⟨Nat.zero_le _,Nw,λc hc=>absurd hc (Nat.not_lt_zero _)⟩,(hI.conv ⟨⟨0,_,_,rfl,⟨rfl,rfl,rfl⟩,rfl,λ_=>(λ_ _ h=>h)⟩,trivial⟩ ⟨⟨rfl,rfl,0,_,rfl,λ_ _ h=>h⟩,⟨rfl,rfl,3,_,rfl,λ_ _ h=>h⟩,⟨rfl,rfl,4,_,rfl,λ_ _ h=>h⟩,⟨rfl,rfl,5,_,rfl,(bk rfl)⟩,trivial⟩)⟩ ?_
   intro q1 a w zo
   obtain⟨⟨ot,hM,hns⟩,hI⟩:=zo
   refine lA hI 1 [] [] [Uc 0 38 _] (.k .z) (.ah .z) ⟨bl,trivial⟩ (.k .z) (.ah (.k .z)) λa w hI=>?_
   refine wp_seq ?_
   refine dD hI 4 rfl (λht=>?_) (λht=>?_)
   ·have t3:=of_decide_eq_true ht
    refine wp_skip ?_
    refine ae ?_
    refine wp_seq ?_
    refine wp_block ?_
    refine lA hI 2 [] [] [Uc 0 39 _,Uc 1 8 _] (.k .z) (.ah (.k .z)) ⟨mv,mv,trivial⟩ (.k .z) (.ah (.lQ .z)) λa w hI=>?_
    refine wp_seq ?_
    obtain⟨X,eX⟩:∃X,X=Kb (mW A B) q1.k:=⟨_,rfl⟩
    have hM1:=hM
    rw[<-eX]at hM1
    have hXl:X.length=A.length:=by rw[eX,nw,fX]
    have hXr:gE (A.length+m) X:=by rw[eX]; exact YD.gj _ (by rw[fX]; omega)
    have YC:qu (uv j q1.k) X:=by rw[eX]; exact abR.gj h1 _ (by rw[fX]; omega)
    have Vg:∀i,i<X.length->q1.k<(X.getD i []).length:=λi hi=>by rw[hXr i hi]; omega
    have hun:=hI.uniq 0 rfl
    have hjj:8*uv j q1.k+1<=100000000:=Nat.le_trans (OI (j:=j) (show q1.k+1<=A.length by omega)) hj
    refine Jf hI [] [] [⟨some 0,none,41,bg (.slice (some ⟨m0.g,0,none⟩) A.length m0.cap)⟩,⟨some 1,none,42,pI (q1.k:Int)⟩] (.k .z) (.ah (.k .z)) rfl [0,1,3,7,15,31,63,127] 2 (by kernel_rfl) ?_ (.k .z) (.ah (.bS .z)) (λa w hI=>hI) (⟨_,λa w hI=>Gf (λ_ _=>by kernel_rfl) hI (n0:=0) rfl (jF (bU _) (bU _)) (.tmp 5 rfl rfl) (.tmp 6 rfl rfl) (λM B w v1 v2 hM H7 hH h1 h2=>SJ hM1 (by omega) (by omega) Vg (λi hi=>GO (YC i)) M B w v1 v2 hM H7 hH (by rw[hXl]; exact h1) h2) (by kernel_rfl) (by kernel_rfl) (by kernel_rfl) (by kernel_rfl),
      _,λa w hI=>ru hI [] [⟨some 0,none,40,cN (pB (decide (0<=gW X q1.k))) (pB (decide (gW X q1.k>0)))⟩] (.k .z) (.k8 .z) (by kernel_rfl) (aW (.tmp 0 rfl rfl) (.here 8 rfl)) (.k .z) (.mw (.dI (.k .z))),
      _,λa w hI=>ru hI [] [⟨some 0,none,44,pB (decide (0<=gW X q1.k))⟩] (.k .z) (.ah (.kk .z)) (by kernel_rfl) (jc (.tmp 5 rfl rfl) Tq (.here 6 rfl)) (.k .z) (.ah (.bS .z)),
      _,λa w hI=>ru hI [] [⟨some 0,none,45,pB (decide (gW X q1.k>0))⟩] (.k .z) (.ah (.bS .z)) (by kernel_rfl) (jc (.tmp 5 rfl rfl) Tr (.here 7 rfl)) (.k .z) (.ah (.oM .z)),
      _,λa w hI=>ru hI [] [⟨some 0,none,9,pB (decide (0<=gW X q1.k))⟩] (.k .z) (.ah (.bS .z)) (by kernel_rfl) (ej (.tmp 5 rfl rfl) (.here 7 rfl)) (.k .z) (.ah (.oM .z)),
      _,λa w hI=>ru hI [] [⟨some 0,none,10,pB (decide (gW X q1.k>0))⟩] (.k .z) (.ah (.bS .z)) (by kernel_rfl) (ej (.tmp 5 rfl rfl) (.here 7 rfl)) (.k .z) (.ah (.adj .z)),
      rfl⟩) ?_
    ·exact⟨aW (.tmp 1 rfl rfl) (.here 5 rfl),aW (.tmp 4 rfl rfl) (.here 6 rfl),trivial⟩
    ·intro a w hI
     refine lA hI 2 [] [] [Uc 0 46 _,Uc 1 47 _] (.k .z) (.ah (.kk .z)) ⟨mv,nt,trivial⟩ (.k .z) (.ah (.nh .z)) λa w hI=>?_
     refine dD hI 5 rfl (λht=>?_) (λht=>?_)
     ·have t4:=ht
      refine lA hI 2 [] [] [Uc 0 4 _,Uc 1 5 _] (.k .z) (.ah (.kk .z)) ⟨mv,mv,trivial⟩ (.k .z) (.ah (.oM .z)) λa w hI=>?_
      refine wp_ret ?_
      refine aB ?_
      refine bj ?_
      refine aB ?_
      refine aB ?_
      refine bj ?_
      refine aB ?_
      exact Ci (jZ hI rfl (.tmp 5 rfl) (.tmp 6 rfl)) λe w' h=>rU h λw v h=>⟨λhs=>absurd (show zm (mW A B) A.length from⟨q1.k,by omega,by rw[<-eX]; have:=t4; simp at this; omega⟩) hs,λ_=>h⟩
     ·have t5:=ht
      refine wp_skip ?_
      refine ae ?_
      have hp0:0<=gW X q1.k:=by simpa using t5
      obtain⟨R1,eR1⟩:∃R1,R1=lY X q1.R q1.k:=⟨_,rfl⟩
      obtain⟨X1,WU⟩:∃X1,X1=lY X X q1.k:=⟨_,rfl⟩
      obtain⟨H1,eH1⟩:∃H1,H1=uC q1.H m0.g (gv (lY X q1.R q1.k)):=⟨_,rfl⟩
      have Ny:fe m0.g m0.cap R1 X1 H1:=by rw[eR1,WU,eH1]; exact hM1.pivot (by omega) λe he hb=>hun e _ he hM1.top hb
      have acV:(X1.getD q1.k []).getD q1.k 0≠0:=by rw[WU]; exact Wi (by omega) hp0
      have RH:qu (uv j q1.k) X1:=by rw[WU]; exact YC.ZM (by omega) (yc h1 _)
      have abP:X1.length=A.length:=by rw[WU,lg]; exact hXl
      have Yy:gE (A.length+m) X1:=by rw[WU]; exact hXr.ZM (by omega)
      rw[<-eH1]at hI
      obtain⟨rc,hrc⟩:=Ny.get (i:=q1.k) (by omega)
      have hfc:=Ny.fit _ _ hrc
      have hrl:=Yy q1.k (by omega)
      have hoff:=Ny.off rc (List.mem_of_getElem? hrc)
      have ac4:=hI.uniq 0 rfl
      refine lA hI 9 [⟨11,11,some 7,none,.ptr,40,3,true,pv (au 0),[(8,pv (au ((X1.getD q1.k []).getD q1.k 0)))]⟩] [] [Uc 0 48 _,Uc 1 49 _,Uc 2 50 (bg (.pointer (some ⟨m0.g,0+((q1.k:Int)).toNat*1,none⟩))),Uc 3 51 (bg (.slice (some ⟨rc.b,0,none⟩) rc.n rc.cap)),Uc 4 52 _,Uc 5 53 (bg (.pointer (some ⟨rc.b,0+((q1.k:Int)).toNat*3,none⟩))),Uc 6 54 (au ((X1.getD q1.k []).getD q1.k 0))] (.k .z) (.ah (.kk .z)) ⟨mv,mv,bt (.tmp 6 rfl rfl) (.tmp 7 rfl rfl) aX (by omega) (by omega) (by kernel_rfl) (.here 8 rfl),dA (e:=⟨m0.g,1,false,gv R1⟩) (idx:=q1.k) 0 rfl rfl rfl (by kernel_rfl) rfl (.tmp 8 rfl rfl) Ny.top rfl (gO hrc) (show 0+((q1.k:Int)).toNat*1=(q1.k)*1 by omega) bw (.here 9 rfl),mv,bt (.tmp 9 rfl rfl) (.tmp 10 rfl rfl) bF (by omega) (by omega) (by kernel_rfl) (.here 11 rfl),dA (e:=⟨rc.b,3,true,bq (X1.getD q1.k []) rc.cap⟩) (idx:=q1.k) 0 rfl rfl rfl (by kernel_rfl) rfl (.tmp 11 rfl rfl) (Ny.rows _ _ hrc) rfl (fq (by omega)) (show 0+((q1.k:Int)).toNat*3=(q1.k)*3 by omega) bY (.here 12 rfl),kZ 1 rfl rfl (by kernel_rfl) (by kernel_rfl) rfl rfl rfl pc rfl rfl (by simp[iw]) rfl (λw=>ew w),mJ 1 rfl rfl rfl rfl 0 rfl (by kernel_rfl) (by kernel_rfl) bY (.tmp 12 rfl rfl) (cV _),trivial⟩ (.k (.s .o .z)) (.ah (.dx (.bh (.d .z)))) λa w hI=>?_
      refine wp_seq ?_
      refine lA hI 6 [] [] [Uc 0 55 _,Uc 1 56 _,Uc 2 57 (bg (.pointer (some ⟨m0.g,0+((q1.k:Int)).toNat*1,none⟩))),Uc 3 58 (bg (.slice (some ⟨rc.b,0,none⟩) rc.n rc.cap)),Uc 4 59 (pI (rc.n:Int)),Uc 5 60 _] (.k (.k .z)) (.ah (.k .z)) ⟨mv,mv,bt (.tmp 5 rfl rfl) (.tmp 6 rfl rfl) aX (by omega) (by omega) (by kernel_rfl) (.here 7 rfl),dA (e:=⟨m0.g,1,false,gv R1⟩) (idx:=q1.k) 0 rfl rfl rfl (by kernel_rfl) rfl (.tmp 7 rfl rfl) Ny.top rfl (gO hrc) (show 0+((q1.k:Int)).toNat*1=(q1.k)*1 by omega) bw (.here 8 rfl),mI (.tmp 8 rfl rfl) (bF).under (.here 9 rfl),mv,trivial⟩ (.k (.k .z)) (.ah (.dx (.Ok .z))) λa w hI=>?_
      refine wp_block ?_
      refine dL (λ(k:Nat) a w=>(k<=rc.n)/\Inv ⟨123,w0,M,λ_=>False⟩ [⟨16,16,none,none,.obj,0,0,false,wJ (uC H1 rc.b (bq (kS (X1.getD q1.k []) ((X1.getD q1.k []).getD q1.k 0) k) rc.cap)),[]⟩,⟨11,11,none,none,.ptr,40,3,true,pv (au ((X1.getD q1.k []).getD q1.k 0)),[]⟩] [] [⟨none,none,0,aA 1 false A.length (λi=>aD (A.getD i []))⟩,⟨none,none,6,bg (.slice (some ⟨m0.g,0,none⟩) A.length m0.cap)⟩,⟨none,none,36,pI (A.length:Int)⟩,⟨none,none,37,pI (q1.k:Int)⟩,⟨none,none,8,pI (q1.k:Int)⟩,⟨none,none,59,pI (rc.n:Int)⟩,⟨none,none,60,pI (k:Int)⟩] none_ a w) (λ(k:Nat)=>rc.n-k) (0) ⟨Nat.zero_le _,(hI.conv ⟨⟨0,_,_,rfl,⟨rfl,rfl,rfl⟩,rfl,λ_=>(rf (by rw[Hq]; exact(oL λe he hb=>ac4 e _ he (Ny.rows _ _ hrc) hb).symm))⟩,⟨1,_,_,rfl,⟨rfl,rfl,rfl⟩,rfl,λ_=>λ_ _ h=>h⟩,trivial⟩ ⟨⟨rfl,rfl,0,_,rfl,λ_ _ h=>h⟩,⟨rfl,rfl,1,_,rfl,λ_ _ h=>h⟩,⟨rfl,rfl,2,_,rfl,λ_ _ h=>h⟩,⟨rfl,rfl,3,_,rfl,λ_ _ h=>h⟩,⟨rfl,rfl,4,_,rfl,λ_ _ h=>h⟩,⟨rfl,rfl,5,_,rfl,λ_ _ h=>h⟩,⟨rfl,rfl,6,_,rfl,(λ_ _ h=>h)⟩,trivial⟩)⟩ ?_
      intro k a w zo
      obtain⟨hp,hI⟩:=zo
      refine lA hI 1 [] [] [Uc 0 61 _] (.k (.k .z)) (.ah (.bS .z)) ⟨bl,trivial⟩ (.k (.k .z)) (.k8 .z) λa w hI=>?_
      refine wp_seq ?_
      refine dD hI 7 rfl (λht=>?_) (λht=>?_)
      ·have t6:=of_decide_eq_true ht
       refine wp_skip ?_
       refine ae ?_
       refine wp_seq ?_
       refine wp_block ?_
       refine lA hI 2 [] [] [Uc 0 62 _,Uc 1 12 _] (.k (.k .z)) (.k8 .z) ⟨mv,mv,trivial⟩ (.k (.k .z)) (.ah (.cA (.dk .z))) λa w hI=>?_
       refine srD hI [0,0,3,7,0,0,0,96,224,0,992,2016,0,8160,16383,32767] [] [] [Uc 0 63 _,Uc 1 64 _,Uc 2 65 (bg (.pointer (some ⟨m0.g,0+((q1.k:Int)).toNat*1,none⟩))),Uc 3 66 (bg (.slice (some ⟨rc.b,0,none⟩) rc.n rc.cap)),Uc 4 67 _,Uc 5 68 _,Uc 6 69 _,Uc 7 70 (bg (.pointer (some ⟨m0.g,0+((q1.k:Int)).toNat*1,none⟩))),Uc 8 71 (bg (.slice (some ⟨rc.b,0,none⟩) rc.n rc.cap)),Uc 9 72 _,Uc 10 73 (bg (.pointer (some ⟨rc.b,0+((k:Int)).toNat*3,none⟩))),Uc 11 74 (au ((X1.getD q1.k []).getD k 0)),Uc 12 75 (au ((X1.getD q1.k []).getD q1.k 0)),Uc 13 76 _,Uc 14 77 (bg (.pointer (some ⟨rc.b,0+((k:Int)).toNat*3,none⟩)))] (.u none [(15,wJ (gH (uC H1 rc.b (bq (kS (X1.getD q1.k []) ((X1.getD q1.k []).getD q1.k 0) k) rc.cap)) rc.b k (RX ((X1.getD q1.k []).getD k 0/((X1.getD q1.k []).getD q1.k 0)))))] (.k .z)) (.k8 .z) ⟨mv,mv,bt (.tmp 8 rfl rfl) (.tmp 9 rfl rfl) aX (by omega) (by omega) (by kernel_rfl) (.here 10 rfl),dA (e:=⟨m0.g,1,false,gv R1⟩) (idx:=q1.k) 0 rfl rfl rfl (by kernel_rfl) rfl (.tmp 10 rfl rfl) (l9 Ny.top (Ne.symm hoff)) rfl (gO hrc) (show 0+((q1.k:Int)).toNat*1=(q1.k)*1 by omega) bw (.here 11 rfl),mv,mv,mv,bt (.tmp 13 rfl rfl) (.tmp 14 rfl rfl) aX (by omega) (by omega) (by kernel_rfl) (.here 15 rfl),dA (e:=⟨m0.g,1,false,gv R1⟩) (idx:=q1.k) 0 rfl rfl rfl (by kernel_rfl) rfl (.tmp 15 rfl rfl) (l9 Ny.top (Ne.symm hoff)) rfl (gO hrc) (show 0+((q1.k:Int)).toNat*1=(q1.k)*1 by omega) bw (.here 16 rfl),mv,bt (.tmp 16 rfl rfl) (.tmp 17 rfl rfl) bF (by omega) (by omega) (by kernel_rfl) (.here 18 rfl),dA (e:=⟨rc.b,3,true,bq (kS (X1.getD q1.k []) ((X1.getD q1.k []).getD q1.k 0) k) rc.cap⟩) (idx:=k) 0 rfl rfl rfl (by kernel_rfl) rfl (.tmp 18 rfl rfl) (rO (Ny.rows _ _ hrc) rfl) rfl (Ho (by omega)) (show 0+((k:Int)).toNat*3=(k)*3 by omega) bY (.here 19 rfl),eW 1 rfl rfl rfl rfl (by kernel_rfl) bY rfl (.here 20 rfl),ce2 (cH _) (abj (RH _ _) (RH _ _) (by omega) acV),bt (.tmp 11 rfl rfl) (.tmp 12 rfl rfl) bF (by omega) (by omega) (by kernel_rfl) (.here 22 rfl),kA (e:=⟨rc.b,3,true,bq (kS (X1.getD q1.k []) ((X1.getD q1.k []).getD q1.k 0) k) rc.cap⟩) (idx:=k) (it:=RX ((X1.getD q1.k []).getD k 0/((X1.getD q1.k []).getD q1.k 0))) 0 rfl rfl rfl (by kernel_rfl) 0 rfl (by kernel_rfl) (by kernel_rfl) rfl (.tmp 22 rfl rfl) (rO (Ny.rows _ _ hrc) rfl) rfl (F8 (by rw[eJ]; omega)) (show 0+((k:Int)).toNat*3=(k)*3 by omega) bY (.tmp 21 rfl rfl) (cV _),trivial⟩ (.s .o (.k .z)) (.ah (.cA (.d8 (.bh (.qy .z))))) λa w hI=>?_
       refine aG ?_
       refine ae ?_
       refine Qq hI 2 [] [] [Uc 0 78 _,Uc 1 60 _] (.k (.k .z)) (.ah (.kk (.t 1 .z))) ⟨bl,mv,trivial⟩ (.k (.k .z)) (.ah (.dI (.k .z))) λa w hI=>?_
       refine ae ?_
       exact⟨k+1,⟨(show k+1<=rc.n by omega),(hI.conv ⟨⟨0,_,_,rfl,⟨rfl,rfl,rfl⟩,rfl,λ_=>(rf (by rw[uB,Cn (by rw[eJ]; omega),Hp (by omega)]))⟩,⟨1,_,_,rfl,⟨rfl,rfl,rfl⟩,rfl,λ_=>λ_ _ h=>h⟩,trivial⟩ ⟨⟨rfl,rfl,0,_,rfl,λ_ _ h=>h⟩,⟨rfl,rfl,1,_,rfl,λ_ _ h=>h⟩,⟨rfl,rfl,2,_,rfl,λ_ _ h=>h⟩,⟨rfl,rfl,3,_,rfl,λ_ _ h=>h⟩,⟨rfl,rfl,4,_,rfl,λ_ _ h=>h⟩,⟨rfl,rfl,5,_,rfl,λ_ _ h=>h⟩,⟨rfl,rfl,6,_,rfl,(bk (by omega))⟩,trivial⟩)⟩,(show rc.n-(k+1)<rc.n-k by omega)⟩
      ·have t7:=of_decide_eq_false ht
       refine wp_exit ?_
       refine ak ?_
       refine ak ?_
       refine aH ?_
       refine ae ?_
       obtain⟨X2,WV⟩:∃X2,X2=uM X1 q1.k:=⟨_,rfl⟩
       have hM2:fe m0.g m0.cap R1 X2 (uC H1 rc.b (bq (kS (X1.getD q1.k []) ((X1.getD q1.k []).getD q1.k 0) k) rc.cap)):=by have h:=Ny.setRow hrc (l:=kS (X1.getD q1.k []) ((X1.getD q1.k []).getD q1.k 0) k) eJ; rw[show k=(X1.getD q1.k []).length by omega]at h ⊢; rw[WV]; exact h
       have hX2l:X2.length=A.length:=by rw[WV,oO]; exact abP
       have YA:gE (A.length+m) X2:=by rw[WV]; exact Yy.norm (by omega)
       refine lA hI 3 [] [] [Uc 0 79 _,Uc 1 80 (pI (A.length:Int)),Uc 2 81 _] (.k (.k .z)) (.k8 .z) ⟨mv,mI (.tmp 8 rfl rfl) (aX).under (.here 9 rfl),mv,trivial⟩ (.k (.k .z)) (.ah (.dx (.Ok .z))) λa w hI=>?_
       refine wp_block ?_
       refine dL (λ(q3:BI) a w=>(q3.k<=A.length/\fe m0.g m0.cap R1 (je X2 q1.k q3.k) q3.H)/\Inv ⟨123,w0,M,λ_=>False⟩ [⟨16,16,none,none,.obj,0,0,false,wJ q3.H,[]⟩,⟨11,11,none,none,.ptr,40,3,true,pv (au ((X1.getD q1.k []).getD q1.k 0)),[]⟩] [] [⟨none,none,0,aA 1 false A.length (λi=>aD (A.getD i []))⟩,⟨none,none,6,bg (.slice (some ⟨m0.g,0,none⟩) A.length m0.cap)⟩,⟨none,none,36,pI (A.length:Int)⟩,⟨none,none,37,pI (q1.k:Int)⟩,⟨none,none,8,pI (q1.k:Int)⟩,⟨none,none,80,pI (A.length:Int)⟩,⟨none,none,81,pI (q3.k:Int)⟩] none_ a w) (λ(q3:BI)=>A.length-q3.k) (⟨0,R1,uC H1 rc.b (bq (kS (X1.getD q1.k []) ((X1.getD q1.k []).getD q1.k 0) k) rc.cap)⟩) ⟨⟨Nat.zero_le _,by show fe m0.g m0.cap R1 (je X2 q1.k 0) _; rw[Hw]; exact hM2⟩,(hI.conv ⟨⟨0,_,_,rfl,⟨rfl,rfl,rfl⟩,rfl,λ_=>(λ_ _ h=>h)⟩,⟨1,_,_,rfl,⟨rfl,rfl,rfl⟩,rfl,λ_=>λ_ _ h=>h⟩,trivial⟩ ⟨⟨rfl,rfl,0,_,rfl,λ_ _ h=>h⟩,⟨rfl,rfl,1,_,rfl,λ_ _ h=>h⟩,⟨rfl,rfl,2,_,rfl,λ_ _ h=>h⟩,⟨rfl,rfl,3,_,rfl,λ_ _ h=>h⟩,⟨rfl,rfl,4,_,rfl,λ_ _ h=>h⟩,⟨rfl,rfl,5,_,rfl,λ_ _ h=>h⟩,⟨rfl,rfl,6,_,rfl,(bk rfl)⟩,trivial⟩)⟩ ?_
       intro q3 a w zo
       obtain⟨⟨hk3,Nx⟩,hI⟩:=zo
       refine lA hI 1 [] [] [Uc 0 82 _] (.k (.k .z)) (.ah (.bS .z)) ⟨bl,trivial⟩ (.k (.k .z)) (.k8 .z) λa w hI=>?_
       refine wp_seq ?_
       refine dD hI 7 rfl (λht=>?_) (λht=>?_)
       ·have t8:=of_decide_eq_true ht
        refine wp_skip ?_
        refine ae ?_
        refine wp_seq ?_
        refine wp_block ?_
        refine lA hI 2 [] [] [Uc 0 83 _,Uc 1 13 _] (.k (.k .z)) (.k8 .z) ⟨mv,mv,trivial⟩ (.k (.k .z)) (.ah (.cA (.dk .z))) λa w hI=>?_
        refine lA hI 3 [] [] [Uc 0 84 _,Uc 1 85 _,Uc 2 86 _] (.k (.k .z)) (.k8 .z) ⟨mv,mv,bl,trivial⟩ (.k (.k .z)) (.k8 (.lQ .z)) λa w hI=>?_
        refine dD hI 8 rfl (λht=>?_) (λht=>?_)
        ·have t9:=ht
         have ux:q3.k≠q1.k:=λe=>by have:=t9; rw[e]at this; simp at this
         obtain⟨ri,Xb⟩:=Nx.get (i:=q3.k) (by rw[dY]; omega)
         have OU:=Nx.fit _ _ Xb
         have aco:=Nx.fit _ _ hrc
         have eL1:(je X2 q1.k q3.k).getD q3.k []=X2.getD q3.k []:=On (by omega) (Nat.le_refl _)
         have eL2:(je X2 q1.k q3.k).getD q1.k []=X2.getD q1.k []:=LD (by omega)
         rw[eL1]at OU
         rw[eL2]at aco
         have m1:(⟨ri.b,3,true,bq (X2.getD q3.k []) ri.cap⟩:Bk)∈q3.H:=by have h:=Nx.rows _ _ Xb; rw[eL1]at h; exact h
         have m2:(⟨rc.b,3,true,bq (X2.getD q1.k []) rc.cap⟩:Bk)∈q3.H:=by have h:=Nx.rows _ _ hrc; rw[eL2]at h; exact h
         have hne:rc.b≠ri.b:=Nx.apart _ _ _ _ hrc Xb (λe=>ux e.symm)
         have AB:=YA q3.k (by omega)
         have hl2:=YA q1.k (by omega)
         have Yz:∀k,aZ (uv j q1.k) ((X2.getD q3.k []).getD k 0):=λk=>by rw[WV,xq ux (by omega)]; exact RH _ _
         have b1:=GO Yz
         have b2:∀x,x∈X2.getD q1.k []->aZ (uv j q1.k+uv j q1.k) x:=GO λk=>by rw[WV]; exact RH.norm (yc h1 _) (by omega) k
         have b3:=Yz q1.k
         refine Je hI [] [] [⟨some 0,none,87,bg (.slice (some ⟨m0.g,0,none⟩) A.length m0.cap)⟩,⟨some 1,none,88,pI (q3.k:Int)⟩,⟨some 2,none,89,bg (.pointer (some ⟨m0.g,0+((q3.k:Int)).toNat*1,none⟩))⟩,⟨some 3,none,90,bg (.slice (some ⟨ri.b,0,none⟩) ri.n ri.cap)⟩,⟨some 4,none,91,bg (.slice (some ⟨m0.g,0,none⟩) A.length m0.cap)⟩,⟨some 5,none,92,pI (q1.k:Int)⟩,⟨some 6,none,93,bg (.pointer (some ⟨m0.g,0+((q1.k:Int)).toNat*1,none⟩))⟩,⟨some 7,none,94,bg (.slice (some ⟨rc.b,0,none⟩) rc.n rc.cap)⟩,⟨some 8,none,95,bg (.slice (some ⟨m0.g,0,none⟩) A.length m0.cap)⟩,⟨some 9,none,96,pI (q3.k:Int)⟩,⟨some 10,none,97,bg (.pointer (some ⟨m0.g,0+((q3.k:Int)).toNat*1,none⟩))⟩,⟨some 11,none,98,bg (.slice (some ⟨ri.b,0,none⟩) ri.n ri.cap)⟩,⟨some 12,none,99,pI (q1.k:Int)⟩,⟨some 13,none,100,bg (.pointer (some ⟨ri.b,0+((q1.k:Int)).toNat*3,none⟩))⟩,⟨some 14,none,101,au ((X2.getD q3.k []).getD q1.k 0)⟩] (.k (.k .z)) (.k8 (.k .z)) rfl [0,0,3,7,0,0,48,112,0,0,768,1792,0,7936,16128,32767] 15 (by kernel_rfl) ?_ (.k (.k .z)) (.ah (.cA (.bh (.dx (.dx (.dw .z)))))) (λa w hI=>hI) (⟨_,λa w hI=>Gg (λ_ _=>by kernel_rfl) hI (n0:=0) rfl (bU _) (.tmp 7 rfl rfl) (.tmp 8 rfl rfl) (.tmp 9 rfl rfl) (λM B w v1 v2 v3 hM H7 hH h1 h2 h3=>Qb (s1:=0) (s2:=0) (n1:=ri.n) (n2:=rc.n) (c1:=ri.cap) (c2:=rc.cap) (j:=uv j q1.k) (j2:=uv j q1.k+uv j q1.k) (jf:=uv j q1.k) m1 m2 hne (by omega) (by omega) (by omega) (by omega) b1 b2 b3 (by omega) M B w v1 v2 v3 hM H7 hH h1 h2 h3) (by kernel_rfl) (by kernel_rfl) (by kernel_rfl) (by kernel_rfl),
           rfl⟩) ?_
         ·exact⟨aW (.tmp 1 rfl rfl) (.here 9 rfl),aW (.tmp 7 rfl rfl) (.here 10 rfl),bt (.tmp 9 rfl rfl) (.tmp 10 rfl rfl) aX (by omega) (by omega) (by kernel_rfl) (.here 11 rfl),dA (e:=⟨m0.g,1,false,gv R1⟩) (idx:=q3.k) 0 rfl rfl rfl (by kernel_rfl) rfl (.tmp 11 rfl rfl) Nx.top rfl (gO Xb) (show 0+((q3.k:Int)).toNat*1=(q3.k)*1 by omega) bw (.here 12 rfl),aW (.tmp 1 rfl rfl) (.here 13 rfl),aW (.tmp 4 rfl rfl) (.here 14 rfl),bt (.tmp 13 rfl rfl) (.tmp 14 rfl rfl) aX (by omega) (by omega) (by kernel_rfl) (.here 15 rfl),dA (e:=⟨m0.g,1,false,gv R1⟩) (idx:=q1.k) 0 rfl rfl rfl (by kernel_rfl) rfl (.tmp 15 rfl rfl) Nx.top rfl (gO hrc) (show 0+((q1.k:Int)).toNat*1=(q1.k)*1 by omega) bw (.here 16 rfl),aW (.tmp 1 rfl rfl) (.here 17 rfl),aW (.tmp 7 rfl rfl) (.here 18 rfl),bt (.tmp 17 rfl rfl) (.tmp 18 rfl rfl) aX (by omega) (by omega) (by kernel_rfl) (.here 19 rfl),dA (e:=⟨m0.g,1,false,gv R1⟩) (idx:=q3.k) 0 rfl rfl rfl (by kernel_rfl) rfl (.tmp 19 rfl rfl) Nx.top rfl (gO Xb) (show 0+((q3.k:Int)).toNat*1=(q3.k)*1 by omega) bw (.here 20 rfl),aW (.tmp 4 rfl rfl) (.here 21 rfl),bt (.tmp 20 rfl rfl) (.tmp 21 rfl rfl) bF (by omega) (by omega) (by kernel_rfl) (.here 22 rfl),dA (e:=⟨ri.b,3,true,bq (X2.getD q3.k []) ri.cap⟩) (idx:=q1.k) 0 rfl rfl rfl (by kernel_rfl) rfl (.tmp 22 rfl rfl) m1 rfl (fq (by omega)) (show 0+((q1.k:Int)).toNat*3=(q1.k)*3 by omega) bY (.here 23 rfl),trivial⟩
         ·intro a w hI
          refine aG ?_
          refine ae ?_
          refine Qq hI 2 [] [] [Uc 0 103 _,Uc 1 81 _] (.k (.k .z)) (.ah (.bS (.t 1 (.bS .z)))) ⟨bl,mv,trivial⟩ (.k (.k .z)) (.mw (.cA (.bh (.k .z)))) λa w hI=>?_
          refine ae ?_
          exact⟨⟨q3.k+1,R1,uC q3.H ri.b (bq (if(X2.getD q3.k []).getD q1.k 0=0 then X2.getD q3.k []else gN (X2.getD q3.k []) 0 (X2.getD q1.k []) 0 ((X2.getD q3.k []).getD q1.k 0) rc.n) ri.cap)⟩,⟨⟨by show q3.k+1<=A.length; omega,by have h:=Nx.setRow Xb (l:=tG (X2.getD q3.k []) (X2.getD q1.k []) q1.k) (by rw[z8,eL1]); rw[Hv (by omega) ux]at h; show fe m0.g m0.cap R1 (je X2 q1.k (q3.k+1)) _; rw[show rc.n=(X2.getD q1.k []).length by omega]; exact h⟩,(hI.conv ⟨⟨0,_,_,rfl,⟨rfl,rfl,rfl⟩,rfl,λ_=>(λ_ _ h=>h)⟩,⟨1,_,_,rfl,⟨rfl,rfl,rfl⟩,rfl,λ_=>λ_ _ h=>h⟩,trivial⟩ ⟨⟨rfl,rfl,0,_,rfl,λ_ _ h=>h⟩,⟨rfl,rfl,1,_,rfl,λ_ _ h=>h⟩,⟨rfl,rfl,2,_,rfl,λ_ _ h=>h⟩,⟨rfl,rfl,3,_,rfl,λ_ _ h=>h⟩,⟨rfl,rfl,4,_,rfl,λ_ _ h=>h⟩,⟨rfl,rfl,5,_,rfl,λ_ _ h=>h⟩,⟨rfl,rfl,6,_,rfl,(bk (by show((q3.k:Int)+1)=((q3.k+1:Nat):Int); omega))⟩,trivial⟩)⟩,(show A.length-(q3.k+1)<A.length-q3.k by omega)⟩
        ·have t10:=ht
         refine wp_skip ?_
         refine aG ?_
         refine ae ?_
         refine Qq hI 2 [] [] [Uc 0 103 _,Uc 1 81 _] (.k (.k .z)) (.ah (.kk (.t 1 (.kk .z)))) ⟨bl,mv,trivial⟩ (.k (.k .z)) (.ah (.dI (.lQ .z))) λa w hI=>?_
         refine ae ?_
         exact⟨⟨q3.k+1,R1,q3.H⟩,⟨⟨by show q3.k+1<=A.length; omega,by have h:=Nx; rw[show q3.k=q1.k by have:=t10; simp at this; omega]at h ⊢; show fe m0.g m0.cap R1 (je X2 q1.k (q1.k+1)) _; rw[Hu]; exact h⟩,(hI.conv ⟨⟨0,_,_,rfl,⟨rfl,rfl,rfl⟩,rfl,λ_=>(λ_ _ h=>h)⟩,⟨1,_,_,rfl,⟨rfl,rfl,rfl⟩,rfl,λ_=>λ_ _ h=>h⟩,trivial⟩ ⟨⟨rfl,rfl,0,_,rfl,λ_ _ h=>h⟩,⟨rfl,rfl,1,_,rfl,λ_ _ h=>h⟩,⟨rfl,rfl,2,_,rfl,λ_ _ h=>h⟩,⟨rfl,rfl,3,_,rfl,λ_ _ h=>h⟩,⟨rfl,rfl,4,_,rfl,λ_ _ h=>h⟩,⟨rfl,rfl,5,_,rfl,λ_ _ h=>h⟩,⟨rfl,rfl,6,_,rfl,(bk (by show((q3.k:Int)+1)=((q3.k+1:Nat):Int); omega))⟩,trivial⟩)⟩,(show A.length-(q3.k+1)<A.length-q3.k by omega)⟩
       ·have t11:=of_decide_eq_false ht
        refine wp_exit ?_
        refine ak ?_
        refine ak ?_
        refine aH ?_
        refine aG ?_
        refine ae ?_
        refine Qq hI 2 [] [] [Uc 0 104 _,Uc 1 37 _] (.k (.k .z)) (.bS (.t 1 (.ah .z))) ⟨bl,mv,trivial⟩ (.k (.k .z)) (.cA (.bh (.dk .z))) λa w hI=>?_
        refine ae ?_
        exact⟨⟨q1.k+1,R1,q3.H⟩,⟨⟨by show q1.k+1<=A.length; omega,by have h:=Nx; rw[show q3.k=X.length by omega]at h; show fe m0.g m0.cap R1 (qK (Kb (mW A B) q1.k) q1.k) q3.H; rw[<-eX]; rw[WV,WU]at h; exact h,λc hc=>by rcases Nat.lt_or_ge c q1.k with h|h; exact hns c h; rw[show c=q1.k by have:c<q1.k+1:=hc; omega,<-eX]; exact hp0⟩,(hI.conv ⟨⟨0,_,_,rfl,⟨rfl,rfl,rfl⟩,rfl,λ_=>λ_ _ h=>h⟩,trivial⟩ ⟨⟨rfl,rfl,0,_,rfl,λ_ _ h=>h⟩,⟨rfl,rfl,1,_,rfl,λ_ _ h=>h⟩,⟨rfl,rfl,2,_,rfl,λ_ _ h=>h⟩,⟨rfl,rfl,3,_,rfl,(bk (by show((q1.k:Int)+1)=((q1.k+1:Nat):Int); omega))⟩,trivial⟩)⟩,(show A.length-(q1.k+1)<A.length-q1.k by omega)⟩
   ·have t12:=of_decide_eq_false ht
    refine wp_exit ?_
    refine ak ?_
    refine ak ?_
    refine aH ?_
    refine ae ?_
    refine wp_seq ?_
    obtain⟨XF,eXF⟩:∃XF,XF=Kb (mW A B) A.length:=⟨_,rfl⟩
    have hq1:q1.k=A.length:=by omega
    have abQ:XF.length=A.length:=by rw[eXF,nw,fX]
    have Vb:gE (A.length+m) XF:=by rw[eXF]; exact YD.gj _ (by rw[fX]; omega)
    have hBF:gD m0.g A.length q1.R XF q1.H:=by have h:=hM; rw[hq1,<-eXF]at h; have h:=h.bld (λi hi=>by rw[Vb i hi]; omega); rw[abQ]at h; exact h
    refine lA hI 3 [] [] [Uc 0 105 _,Uc 1 106 (pI (A.length:Int)),Uc 2 107 _] (.k .z) (.ah (.k .z)) ⟨mv,mI (.tmp 5 rfl rfl) (aX).under (.here 6 rfl),mv,trivial⟩ (.k .z) (.dI (.xI .z)) λa w hI=>?_
    refine wp_block ?_
    refine dL (λ(q4:BI) a w=>(q4.k<=A.length/\gD m0.g A.length q4.R (qD XF A.length q4.k) q4.H)/\Inv ⟨123,w0,M,λ_=>False⟩ [⟨16,16,none,none,.obj,0,0,false,wJ q4.H,[]⟩] [] [⟨none,none,0,aA 1 false A.length (λi=>aD (A.getD i []))⟩,⟨none,none,6,bg (.slice (some ⟨m0.g,0,none⟩) A.length m0.cap)⟩,⟨none,none,106,pI (A.length:Int)⟩,⟨none,none,107,pI (q4.k:Int)⟩] none_ a w) (λ(q4:BI)=>A.length-q4.k) (⟨0,q1.R,q1.H⟩) ⟨⟨Nat.zero_le _,by show gD m0.g A.length q1.R (qD XF A.length 0) q1.H; rw[Ht]; exact hBF⟩,(hI.conv ⟨⟨0,_,_,rfl,⟨rfl,rfl,rfl⟩,rfl,λ_=>(λ_ _ h=>h)⟩,trivial⟩ ⟨⟨rfl,rfl,0,_,rfl,λ_ _ h=>h⟩,⟨rfl,rfl,1,_,rfl,λ_ _ h=>h⟩,⟨rfl,rfl,2,_,rfl,λ_ _ h=>h⟩,⟨rfl,rfl,3,_,rfl,(bk rfl)⟩,trivial⟩)⟩ ?_
    intro q4 a w zo
    obtain⟨⟨hk4,Eh⟩,hI⟩:=zo
    refine lA hI 1 [] [] [Uc 0 108 _] (.k .z) (.ah .z) ⟨bl,trivial⟩ (.k .z) (.ah (.k .z)) λa w hI=>?_
    refine wp_seq ?_
    refine dD hI 4 rfl (λht=>?_) (λht=>?_)
    ·have t13:=of_decide_eq_true ht
     refine wp_skip ?_
     refine ae ?_
     refine wp_seq ?_
     refine wp_block ?_
     refine lA hI 2 [] [] [Uc 0 109 _,Uc 1 14 _] (.k .z) (.ah (.k .z)) ⟨mv,mv,trivial⟩ (.k .z) (.ah (.lQ .z)) λa w hI=>?_
     have hl4:=Eh.len.1
     have Q7:=Vb q4.k (by omega)
     have e4:(qD XF A.length q4.k).getD q4.k []=XF.getD q4.k []:=by rw[l8 (by omega),if_neg (Nat.lt_irrefl _)]
     have vF:=Eh.num q4.k (by omega)
     rw[e4]at vF
     have Fi:(rowAt q4.R q4.k).n≠0:=by omega
     obtain⟨uw,hc2,hmem,_⟩:=Eh.rows q4.k (by omega) Fi
     rw[e4]at hmem
     refine DW hI [] [] [⟨some 0,none,110,bg (.slice (some ⟨m0.g,0,none⟩) A.length m0.cap)⟩,⟨some 1,none,111,pI (q4.k:Int)⟩,⟨some 2,none,112,bg (.slice (some ⟨m0.g,0,none⟩) A.length m0.cap)⟩,⟨some 3,none,113,pI (q4.k:Int)⟩,⟨some 4,none,114,bg (.pointer (some ⟨m0.g,0+((q4.k:Int)).toNat*1,none⟩))⟩,⟨some 5,none,115,bg (.slice (some ⟨(rowAt q4.R q4.k).b,0,none⟩) ((rowAt q4.R q4.k).n) ((rowAt q4.R q4.k).cap))⟩,⟨some 6,none,116,aA 1 false A.length (λi=>aD (A.getD i []))⟩,⟨some 7,none,117,pI (A.length:Int)⟩,⟨some 8,none,118,bg (.slice (some ⟨(rowAt q4.R q4.k).b,A.length*3,none⟩) ((rowAt q4.R q4.k).n-A.length) ((rowAt q4.R q4.k).cap-A.length))⟩] (.k .z) (.ah (.k .z)) rfl [0,1,3,7,15,31,63,127,255,511,1023,2047] 9 (by kernel_rfl) ?_ (.k .z) (.ah (.Rp (.bh (.dk .z)))) (λa w hI=>hI) (⟨_,λa w hI=>Bg (λ_ _=>by kernel_rfl) hI (n0:=0) rfl (.tmp 6 rfl rfl) (λB w hH=>zu hH hmem vF (by omega) (by omega) (by omega)) (λM w v hM hv=>JT (by rw[List.length_drop]; omega) (by rw[List.length_drop]; omega) M w v hM hv) (by kernel_rfl) (by kernel_rfl) (by kernel_rfl) (by kernel_rfl),
       _,Oo λl hC a w hI=>ru hI [] [⟨some 0,none,120,bg (.pointer (some ⟨m0.g,0+((q4.k:Int)).toNat*1,none⟩))⟩] (.k .z) (.k8 .z) (by kernel_rfl) (bt (.tmp 5 rfl rfl) (.tmp 6 rfl rfl) aX (by omega) (by omega) (by kernel_rfl) (.here 8 rfl)) (.k .z) (.ah (.dx (.k .z))),
       _,Oo λl hC a w hI=>ru hI [] [] (.u none [(0,wJ (gH (appH q4.H l.b (bq ((XF.getD q4.k []).drop A.length) l.cap)) m0.g q4.k (uD l.hdr)))] .z) (.ah (.kk .z)) (by kernel_rfl) (kA (e:=⟨m0.g,1,false,jn q4.R⟩) (idx:=q4.k) (it:=uD l.hdr) 0 rfl rfl rfl (by kernel_rfl) 0 rfl (by kernel_rfl) (by kernel_rfl) rfl (.tmp 5 rfl rfl) (jS Eh.top (Eh.off (by omega) (.inr hC.2.2.2))) rfl (by rw[r4]; omega) (show 0+((q4.k:Int)).toNat*1=(q4.k)*1 by omega) bw (.tmp 0 rfl rfl) (iU _ _ _)) (.s .o .z) (.mw (.kd .z)),
       rfl⟩) ?_
     ·exact⟨aW (.tmp 1 rfl rfl) (.here 5 rfl),aW (.tmp 4 rfl rfl) (.here 6 rfl),aW (.tmp 1 rfl rfl) (.here 7 rfl),aW (.tmp 4 rfl rfl) (.here 8 rfl),bt (.tmp 7 rfl rfl) (.tmp 8 rfl rfl) aX (by omega) (by omega) (by kernel_rfl) (.here 9 rfl),dA (e:=⟨m0.g,1,false,jn q4.R⟩) (idx:=q4.k) 0 rfl rfl rfl (by kernel_rfl) rfl (.tmp 9 rfl rfl) Eh.top rfl (Nh (by omega) Fi) (show 0+((q4.k:Int)).toNat*1=(q4.k)*1 by omega) bw (.here 10 rfl),aW (.tmp 0 rfl rfl) (.here 11 rfl),fl (.tmp 11 rfl rfl) (aX).under (.here 12 rfl),zR (.tmp 10 rfl rfl) (.tmp 12 rfl rfl) bF (by omega) (by omega) (by omega) (.at_ 13 _ _ rfl (PX (by simp))),trivial⟩
     ·rintro a w ⟨l,hC,hI⟩
      have hC:l.n=((XF.getD q4.k []).drop A.length).length/\l.n<=l.cap/\l.cap<=maxLen/\∀e,e∈q4.H->e.b≠l.b:=hC
      refine aG ?_
      refine ae ?_
      refine Qq hI 2 [] [] [Uc 0 121 _,Uc 1 107 _] (.k .z) (.bS (.t 1 .z)) ⟨bl,mv,trivial⟩ (.k .z) (.cA (.dk .z)) λa w hI=>?_
      refine ae ?_
      exact⟨⟨q4.k+1,q4.R.set q4.k l,gH (appH q4.H l.b (bq ((XF.getD q4.k []).drop A.length) l.cap)) m0.g q4.k (uD l.hdr)⟩,⟨⟨by show q4.k+1<=A.length; omega,by have h:=Eh.put (i:=q4.k) (l:=(XF.getD q4.k []).drop A.length) (by omega) (by rw[List.length_drop]; omega) hC.1 hC.2.1 hC.2.2.1 (.inr hC.2.2.2); rw[Hs (by omega)]at h; exact h⟩,(hI.conv ⟨⟨0,_,_,rfl,⟨rfl,rfl,rfl⟩,rfl,λ_=>λ_ _ h=>h⟩,trivial⟩ ⟨⟨rfl,rfl,0,_,rfl,λ_ _ h=>h⟩,⟨rfl,rfl,1,_,rfl,λ_ _ h=>h⟩,⟨rfl,rfl,2,_,rfl,λ_ _ h=>h⟩,⟨rfl,rfl,3,_,rfl,(bk (by show((q4.k:Int)+1)=((q4.k+1:Nat):Int); omega))⟩,trivial⟩)⟩,(show A.length-(q4.k+1)<A.length-q4.k by omega)⟩
    ·have t14:=of_decide_eq_false ht
     refine wp_exit ?_
     refine ak ?_
     refine ak ?_
     refine aH ?_
     refine ae ?_
     refine lA hI 3 [] [] [Uc 0 122 _,Uc 1 4 _,Uc 2 5 _] (.k .z) (.ah (.k .z)) ⟨mv,mv,mv,trivial⟩ (.k .z) (.bh (.xI .z)) λa w hI=>?_
     refine wp_ret ?_
     exact Ci (RB hI rfl (n0:=0) rfl (.tmp 0 rfl) (.tmp 1 rfl) (p:=aA 1 false A.length λi=>aD ((tI A B).getD i [])) (λB' w hH=>by have h:=Eh.read (cap:=m0.cap) TI.1 TI.2 (λi hi=>by rw[l8 (by omega),if_pos (by omega),List.length_drop,Vb i (by omega)]; omega) B' w hH; rw[show q4.k=A.length by omega,eXF]at h; exact h)) λe w' h=>rU h λw v h=>⟨λ_=>h,λ⟨c,uw,hc2⟩=>absurd (hns c (by omega)) (by omega)⟩
end Wx
