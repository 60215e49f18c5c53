import Derived.Test.YtpiniclogfefjaaCSylvesterSemObj3
import Derived.Test.YtpiniclogfefjaaJSylvester39
import Derived.Test.YtpiniclogfefjaaJSylvester40
namespace Wx
set_option maxRecDepth 100000
open Go Go.RowKit Go.Proofs
set_option linter.unusedVariables false

theorem r_leadA {s g cap α δ:Nat} {X:List (List Rat)} {R:List RowL} {H0:List Bk} (hM0:MatS s g cap R X H0) (hr:Rect (s+X.length) X) (hc:ComM α δ X.length (Xc s X)) (hs:Sym X.length (Xc s X)) (hn:s+X.length≤1000) (hd:∃i,i<X.length∧Xc s X i i≠0):∀(M:Nat→Nat→Prop) (B:Nat→Prop) (w:World) (v0:Value),Mid M w→(∀k,B k→∀o,¬M k o)→HpOk B w H0→Box (Jg M B) (fun w=>(Qe (.slice (some ⟨g,0,none⟩) X.length cap)) w v0) w→Calls Try.prog 50 #[v0] w (RetLO B (LeadC s g cap α δ X) (fun l=>.bool l.b) (fun l=>l.H) w):=by
 intro M B w0 v0 hM hBM hH hv0
 refine Qaz (N:=124) (id:=124) (s:=124) Try.func50 rfl rfl rfl hM hBM hH (show EntsA (Jg M B) w0 [v0] [⟨none,none,0,Qe (.slice (some ⟨g,0,none⟩) X.length cap)⟩]from⟨⟨rfl,_,rfl,hv0⟩,trivial⟩) fun a hI=>?_
 refine Qh hI [] [] [⟨some 0,none,2,pB false⟩] (.k .z) (.k .z) rfl [0] (by kernel_rfl) ?_ (.k .z) (.kk .z) fun a w hI=>?_
 ·exact⟨Qc (.const _) (.here 1 rfl),trivial⟩
 refine wp_seq ?_
 refine Qh hI [] [] [⟨some 0,none,11,Qe (.slice (some ⟨g,0,none⟩) X.length cap)⟩,⟨some 1,none,12,pI (X.length:Int)⟩,⟨some 2,none,13,pI 0⟩] (.k .z) (.kk .z) rfl [0,1,3] (by kernel_rfl) ?_ (.k .z) (.kkdk (.k .z)) fun a w hI=>?_
 ·exact⟨Qa (.tmp 0 rfl rfl) (.here 2 rfl),Js (.tmp 2 rfl rfl) (Qx).under (.here 3 rfl),Qa (.const _) (.here 4 rfl),trivial⟩
 refine wp_block ?_
 refine Xn (fun(k:Nat) a w=>(k≤X.length∧∀i,i<k→Xc s X i i=0)∧Inv ⟨124,w0,M,B⟩ [⟨124,124,none,none,.obj,0,0,false,Zj H0,[]⟩] [] [⟨none,none,0,Qe (.slice (some ⟨g,0,none⟩) X.length cap)⟩,⟨none,none,12,pI (X.length:Int)⟩,⟨none,none,13,pI (k:Int)⟩] Qf a w) (fun(k:Nat)=>X.length-k) (0) ⟨⟨Nat.zero_le _,fun i hi=>absurd hi (Nat.not_lt_zero _)⟩,(hI.conv ⟨⟨0,_,_,rfl,⟨rfl,rfl,rfl⟩,rfl,fun _=>fun _ _ h=>h⟩,trivial⟩ ⟨⟨rfl,rfl,0,_,rfl,fun _ _ h=>h⟩,⟨rfl,rfl,2,_,rfl,fun _ _ h=>h⟩,⟨rfl,rfl,3,_,rfl,(Xa (by omega))⟩,trivial⟩)⟩ ?_
 intro k a w hIk
 obtain⟨⟨hk,hz⟩,hI⟩:=hIk
 refine Qh hI [] [] [⟨some 0,none,14,pB (decide ((k:Int)<(X.length:Int)))⟩] (.k .z) (.kkk .z) rfl [0] (by kernel_rfl) ?_ (.k .z) (.kkkk .z) fun a w hI=>?_
 ·exact⟨Qo (v:=.bool (decide ((k:Int)<(X.length:Int)))) (.tmp 2 rfl rfl) (.tmp 1 rfl rfl) (fun _=>rfl) (.here 3 rfl),trivial⟩
 refine wp_seq ?_
 refine Xd hI 3 rfl (fun ht=>?_) (fun ht=>?_)
 ·have t1:=of_decide_eq_true ht
  refine wp_skip ?_
  refine Qi ?_
  refine wp_seq ?_
  refine wp_block ?_
  refine Qh hI [] [] [⟨some 0,none,15,pI (k:Int)⟩,⟨some 1,none,3,pI (k:Int)⟩] (.k .z) (.kkkk .z) rfl [0,1] (by kernel_rfl) ?_ (.k .z) (.kkkd (.dk .z)) fun a w hI=>?_
  ·exact⟨Qa (.tmp 2 rfl rfl) (.here 4 rfl),Qc (.tmp 4 rfl rfl) (.here 5 rfl),trivial⟩
  obtain⟨r,hr1⟩:=hM0.get (i:=k) (by omega)
  have hf:=hM0.fit _ _ hr1
  have hl:=hr k (by omega)
  refine Qh hI [] [] [⟨some 0,none,16,Qe (.slice (some ⟨g,0,none⟩) X.length cap)⟩,⟨some 1,none,17,pI (k:Int)⟩,⟨some 2,none,18,Qe (.pointer (some ⟨g,0+((k:Int)).toNat*1,none⟩))⟩,⟨some 3,none,19,Qe (.slice (some ⟨r.b,s*3,none⟩) (r.n-s) (r.cap-s))⟩,⟨some 4,none,20,pI (k:Int)⟩,⟨some 5,none,21,Qe (.pointer (some ⟨r.b,s*3+((k:Int)).toNat*3,none⟩))⟩,⟨some 6,none,22,Qk ((X.getD k []).getD (s+k) 0)⟩,⟨some 7,none,23,pB (decide ((X.getD k []).getD (s+k) 0=0))⟩,⟨some 8,none,24,pB (!(decide ((X.getD k []).getD (s+k) 0=0)))⟩] (.k .z) (.kkkk .z) rfl [0,1,3,7,15,31,63,127,255] (by kernel_rfl) ?_ (.k .z) (.kkkk (.d8 (.k .z))) fun a w hI=>?_
  ·exact⟨Qa (.tmp 0 rfl rfl) (.here 4 rfl),Qa (.tmp 3 rfl rfl) (.here 5 rfl),Qs (.tmp 4 rfl rfl) (.tmp 5 rfl rfl) Qx (by omega) (by omega) (by kernel_rfl) (.here 6 rfl),Q5 (e:=⟨g,1,false,Y3 s R⟩) (idx:=k) 0 rfl rfl rfl (by kernel_rfl) rfl (.tmp 6 rfl rfl) hM0.top rfl (Zz hr1) (show 0+((k:Int)).toNat*1=(k)*1 by omega) Q1 (.here 7 rfl),Qa (.tmp 3 rfl rfl) (.here 8 rfl),Qs (.tmp 7 rfl rfl) (.tmp 8 rfl rfl) Qy (by omega) (by omega) (by kernel_rfl) (.here 9 rfl),Q5 (e:=⟨r.b,3,true,Qw (X.getD k []) r.cap⟩) (idx:=s+k) 0 rfl rfl rfl (by kernel_rfl) rfl (.tmp 9 rfl rfl) (hM0.rows _ _ hr1) rfl (X5 (by omega)) (show s*3+((k:Int)).toNat*3=(s+k)*3 by omega) Qr (.here 10 rfl),Y2 (fun _ _=>by kernel_rfl) (Xt _) (.tmp 10 rfl rfl) (.here 11 rfl) (Uo ((X.getD k []).getD (s+k) 0)),Vw (.tmp 11 rfl rfl) (.here 12 rfl),trivial⟩
  refine Xd hI 4 rfl (fun ht=>?_) (fun ht=>?_)
  ·have t2:=ht
   obtain⟨r0,hr0⟩:=hM0.get (i:=0) (by omega)
   have hu0:∀e,e∈H0→e.b=g→e.items=Y3 s R:=fun e he hb=>Qd4 hH he hM0.top hb
   have hlen:=hM0.len
   refine seq_D hI [] [] [⟨some 0,none,25,Qe (.slice (some ⟨g,0,none⟩) X.length cap)⟩,⟨some 1,none,26,Qe (.slice (some ⟨g,0,none⟩) X.length cap)⟩,⟨some 2,none,27,pI (k:Int)⟩,⟨some 3,none,28,Qe (.slice (some ⟨g,0,none⟩) X.length cap)⟩,⟨some 4,none,29,pI (k:Int)⟩,⟨some 5,none,30,Qe (.pointer (some ⟨g,0+((k:Int)).toNat*1,none⟩))⟩,⟨some 6,none,31,Qe (.slice (some ⟨r.b,s*3,none⟩) (r.n-s) (r.cap-s))⟩,⟨some 7,none,32,Qe (.slice (some ⟨g,0,none⟩) X.length cap)⟩,⟨some 8,none,33,Qe (.pointer (some ⟨g,0+((0:Int)).toNat*1,none⟩))⟩,⟨some 9,none,34,Qe (.slice (some ⟨r0.b,s*3,none⟩) (r0.n-s) (r0.cap-s))⟩,⟨some 10,none,35,Qe (.pointer (some ⟨g,0+((0:Int)).toNat*1,none⟩))⟩,⟨some 12,none,36,Qe (.pointer (some ⟨g,0+((k:Int)).toNat*1,none⟩))⟩] (.u none [(11,Zj (Xs H0 g 0 (Z2 (r.hs s)))),(13,Zj (Xs (Xs H0 g 0 (Z2 (r.hs s))) g k (Z2 (r0.hs s))))] .z) (.kkkk (.k .z)) rfl [0,0,0,0,0,24,56,0,128,384,1017,2041,4095,8191] (by kernel_rfl) ?_ (.s (.c .o) .z) (.kkkk (.d8 (.dddd (.d .z)))) fun a w hI=>?_
   ·exact⟨Qa (.tmp 0 rfl rfl) (.here 5 rfl),Qa (.tmp 0 rfl rfl) (.here 6 rfl),Qa (.tmp 3 rfl rfl) (.here 7 rfl),Qa (.tmp 0 rfl rfl) (.here 8 rfl),Qa (.tmp 3 rfl rfl) (.here 9 rfl),Qs (.tmp 8 rfl rfl) (.tmp 9 rfl rfl) Qx (by omega) (by omega) (by kernel_rfl) (.here 10 rfl),Q5 (e:=⟨g,1,false,Y3 s R⟩) (idx:=k) 0 rfl rfl rfl (by kernel_rfl) rfl (.tmp 10 rfl rfl) hM0.top rfl (Zz hr1) (show 0+((k:Int)).toNat*1=(k)*1 by omega) Q1 (.here 11 rfl),Qa (.tmp 0 rfl rfl) (.here 12 rfl),Qs (.tmp 12 rfl rfl) (.const _) Qx (by omega) (by omega) (by kernel_rfl) (.here 13 rfl),Q5 (e:=⟨g,1,false,Y3 s R⟩) (idx:=0) 0 rfl rfl rfl (by kernel_rfl) rfl (.tmp 13 rfl rfl) hM0.top rfl (Zz hr0) (show 0+((0:Int)).toNat*1=(0)*1 by omega) Q1 (.here 14 rfl),Qs (.tmp 5 rfl rfl) (.const _) Qx (by omega) (by omega) (by kernel_rfl) (.here 15 rfl),Zx (e:=⟨g,1,false,Y3 s R⟩) (idx:=0) (it:=Z2 (r.hs s)) 0 rfl rfl rfl (by kernel_rfl) 0 rfl (by kernel_rfl) (by kernel_rfl) rfl (.tmp 15 rfl rfl) hM0.top rfl (by rw[topsS_len,hM0.len]; omega) (show 0+((0:Int)).toNat*1=(0)*1 by omega) Q1 (.tmp 11 rfl rfl) (J8 _ _ _),Qs (.tmp 6 rfl rfl) (.tmp 7 rfl rfl) Qx (by omega) (by omega) (by kernel_rfl) (.here 16 rfl),Zx (e:=⟨g,1,false,(Y3 s R).set 0 (Z2 (r.hs s))⟩) (idx:=k) (it:=Z2 (r0.hs s)) 0 rfl rfl rfl (by kernel_rfl) 1 rfl (by kernel_rfl) (by kernel_rfl) rfl (.tmp 16 rfl rfl) (Qbp hM0.top rfl) rfl (by rw[List.length_set,topsS_len,hM0.len]; omega) (show 0+((k:Int)).toNat*1=(k)*1 by omega) Q1 (.tmp 14 rfl rfl) (J8 _ _ _),trivial⟩
   refine wp_seq ?_
   rw[heap_swapS hu0 hr0 hr1]at hI
   obtain⟨X1,eX1⟩:∃X1,X1=Yt X 0 k:=⟨_,rfl⟩
   obtain⟨R1,eR1⟩:∃R1,R1=Yt R 0 k:=⟨_,rfl⟩
   obtain⟨H1,eH1⟩:∃H1,H1=Y0 H0 g (Y3 s (Yt R 0 k)):=⟨_,rfl⟩
   rw[← eH1]at hI
   have hM1:MatS s g cap R1 X1 H1:=by rw[eR1,eX1,eH1]; exact hM0.swap (by omega) (by omega)
   have hX1:X1.length=X.length:=by rw[eX1,Wa]
   have hX1r:Rect (s+X.length) X1:=by rw[eX1]; exact swapL_rect hr (by omega) (by omega)
   refine Qh hI [] [] [⟨some 0,none,37,Qe (.slice (some ⟨g,0,none⟩) X.length cap)⟩,⟨some 1,none,38,pI (X.length:Int)⟩,⟨some 2,none,39,pI 0⟩] (.k .z) (.kkkk .z) rfl [0,1,3] (by kernel_rfl) ?_ (.k .z) (.kkkk (.kkk .z)) fun a w hI=>?_
   ·exact⟨Qa (.tmp 0 rfl rfl) (.here 4 rfl),Js (.tmp 4 rfl rfl) (Qx).under (.here 5 rfl),Qa (.const _) (.here 6 rfl),trivial⟩
   refine wp_block ?_
   refine Xn (fun(q:HI) a w=>(q.k≤X.length∧MatS s g cap R1 (Z6 (Vi s (s+k)) X1 0 q.k) q.H)∧Inv ⟨124,w0,M,B⟩ [⟨124,124,none,none,.obj,0,0,false,Zj q.H,[]⟩] [] [⟨none,none,0,Qe (.slice (some ⟨g,0,none⟩) X.length cap)⟩,⟨none,none,12,pI (X.length:Int)⟩,⟨none,none,13,pI (k:Int)⟩,⟨none,none,3,pI (k:Int)⟩,⟨none,none,37,Qe (.slice (some ⟨g,0,none⟩) X.length cap)⟩,⟨none,none,38,pI (X.length:Int)⟩,⟨none,none,39,pI (q.k:Int)⟩] Qf a w) (fun(q:HI)=>X.length-q.k) (⟨0,H1⟩) ⟨⟨Nat.zero_le _,by show MatS s g cap R1 (Z6 (Vi s (s+k)) X1 0 0) H1; rw[Qcp]; exact hM1⟩,(hI.conv ⟨⟨0,_,_,rfl,⟨rfl,rfl,rfl⟩,rfl,fun _=>(fun _ _ h=>h)⟩,trivial⟩ ⟨⟨rfl,rfl,0,_,rfl,fun _ _ h=>h⟩,⟨rfl,rfl,1,_,rfl,fun _ _ h=>h⟩,⟨rfl,rfl,2,_,rfl,fun _ _ h=>h⟩,⟨rfl,rfl,3,_,rfl,fun _ _ h=>h⟩,⟨rfl,rfl,4,_,rfl,fun _ _ h=>h⟩,⟨rfl,rfl,5,_,rfl,fun _ _ h=>h⟩,⟨rfl,rfl,6,_,rfl,(Xa rfl)⟩,trivial⟩)⟩ ?_
   intro q a w hIk
   obtain⟨⟨hq,hMq⟩,hI⟩:=hIk
   refine Qh hI [] [] [⟨some 0,none,40,pB (decide ((q.k:Int)<(X.length:Int)))⟩] (.k .z) (.kkkk (.kkk .z)) rfl [0] (by kernel_rfl) ?_ (.k .z) (.k8 .z) fun a w hI=>?_
   ·exact⟨Qo (v:=.bool (decide ((q.k:Int)<(X.length:Int)))) (.tmp 6 rfl rfl) (.tmp 5 rfl rfl) (fun _=>rfl) (.here 7 rfl),trivial⟩
   refine wp_seq ?_
   refine Xd hI 7 rfl (fun ht=>?_) (fun ht=>?_)
   ·have t3:=of_decide_eq_true ht
    refine wp_skip ?_
    refine Qi ?_
    refine wp_seq ?_
    refine wp_block ?_
    obtain⟨u,hu⟩:=hMq.get (i:=q.k) (by rw[Zp]; omega)
    have hfu:=hMq.fit _ _ hu
    have eL:(Z6 (Vi s (s+k)) X1 0 q.k).getD q.k []=X1.getD q.k []:=Qdj (by omega) (.inl (Nat.le_refl _))
    rw[eL]at hfu
    have hlu:=hX1r q.k (by omega)
    have mu:(⟨u.b,3,true,Qw (X1.getD q.k []) u.cap⟩:Bk)∈q.H:=by have h:=hMq.rows _ _ hu; rw[eL]at h; exact h
    have huq:=hI.uniq 0 rfl
    refine Qh hI [] [] [⟨some 0,none,41,Qe (.pointer (some ⟨g,0+((q.k:Int)).toNat*1,none⟩))⟩,⟨some 1,none,42,Qe (.slice (some ⟨u.b,s*3,none⟩) (u.n-s) (u.cap-s))⟩,⟨some 2,none,5,Qe (.slice (some ⟨u.b,s*3,none⟩) (u.n-s) (u.cap-s))⟩] (.k .z) (.k8 .z) rfl [0,1,3] (by kernel_rfl) ?_ (.k .z) (.kkkk (.kkkd (.ddk .z))) fun a w hI=>?_
    ·exact⟨Qs (.tmp 4 rfl rfl) (.tmp 6 rfl rfl) Qx (by omega) (by omega) (by kernel_rfl) (.here 8 rfl),Q5 (e:=⟨g,1,false,Y3 s R1⟩) (idx:=q.k) 0 rfl rfl rfl (by kernel_rfl) rfl (.tmp 8 rfl rfl) hMq.top rfl (Zz hu) (show 0+((q.k:Int)).toNat*1=(q.k)*1 by omega) Q1 (.here 9 rfl),Qc (.tmp 9 rfl rfl) (.here 10 rfl),trivial⟩
    refine sem_D hI [] [] [⟨some 0,none,43,Qe (.slice (some ⟨u.b,s*3,none⟩) (u.n-s) (u.cap-s))⟩,⟨some 1,none,44,Qe (.slice (some ⟨u.b,s*3,none⟩) (u.n-s) (u.cap-s))⟩,⟨some 2,none,45,pI (k:Int)⟩,⟨some 3,none,46,Qe (.slice (some ⟨u.b,s*3,none⟩) (u.n-s) (u.cap-s))⟩,⟨some 4,none,47,pI (k:Int)⟩,⟨some 5,none,48,Qe (.pointer (some ⟨u.b,s*3+((k:Int)).toNat*3,none⟩))⟩,⟨some 6,none,49,Qk ((X1.getD q.k []).getD (s+k) 0)⟩,⟨some 7,none,50,Qe (.slice (some ⟨u.b,s*3,none⟩) (u.n-s) (u.cap-s))⟩,⟨some 8,none,51,Qe (.pointer (some ⟨u.b,s*3+((0:Int)).toNat*3,none⟩))⟩,⟨some 9,none,52,Qk ((X1.getD q.k []).getD s 0)⟩,⟨some 10,none,53,Qe (.pointer (some ⟨u.b,s*3+((0:Int)).toNat*3,none⟩))⟩,⟨some 12,none,54,Qe (.pointer (some ⟨u.b,s*3+((k:Int)).toNat*3,none⟩))⟩] (.u none [(11,Zj (Xs q.H u.b s (Zl ((X1.getD q.k []).getD (s+k) 0)))),(13,Zj (Xs (Xs q.H u.b s (Zl ((X1.getD q.k []).getD (s+k) 0))) u.b (s+k) (Zl ((X1.getD q.k []).getD s 0))))] .z) (.k8 .z) rfl [0,0,0,0,0,24,56,0,128,384,1017,2041,4095,8191] (by kernel_rfl) ?_ (.s (.c .o) .z) (.kkkk (.kkkd (.d8 (.dddd .z)))) fun a w hI=>?_
    ·exact⟨Qa (.tmp 7 rfl rfl) (.here 8 rfl),Qa (.tmp 7 rfl rfl) (.here 9 rfl),Qa (.tmp 3 rfl rfl) (.here 10 rfl),Qa (.tmp 7 rfl rfl) (.here 11 rfl),Qa (.tmp 3 rfl rfl) (.here 12 rfl),Qs (.tmp 11 rfl rfl) (.tmp 12 rfl rfl) Qy (by omega) (by omega) (by kernel_rfl) (.here 13 rfl),Q5 (e:=⟨u.b,3,true,Qw (X1.getD q.k []) u.cap⟩) (idx:=s+k) 0 rfl rfl rfl (by kernel_rfl) rfl (.tmp 13 rfl rfl) mu rfl (X5 (by omega)) (show s*3+((k:Int)).toNat*3=(s+k)*3 by omega) Qr (.here 14 rfl),Qa (.tmp 7 rfl rfl) (.here 15 rfl),Qs (.tmp 15 rfl rfl) (.const _) Qy (by omega) (by omega) (by kernel_rfl) (.here 16 rfl),Q5 (e:=⟨u.b,3,true,Qw (X1.getD q.k []) u.cap⟩) (idx:=s) 0 rfl rfl rfl (by kernel_rfl) rfl (.tmp 16 rfl rfl) mu rfl (X5 (by omega)) (show s*3+((0:Int)).toNat*3=(s)*3 by omega) Qr (.here 17 rfl),Qs (.tmp 8 rfl rfl) (.const _) Qy (by omega) (by omega) (by kernel_rfl) (.here 18 rfl),Zx (e:=⟨u.b,3,true,Qw (X1.getD q.k []) u.cap⟩) (idx:=s) (it:=Zl ((X1.getD q.k []).getD (s+k) 0)) 0 rfl rfl rfl (by kernel_rfl) 0 rfl (by kernel_rfl) (by kernel_rfl) rfl (.tmp 18 rfl rfl) mu rfl (Vd (by omega)) (show s*3+((0:Int)).toNat*3=(s)*3 by omega) Qr (.tmp 14 rfl rfl) (Xb _),Qs (.tmp 9 rfl rfl) (.tmp 10 rfl rfl) Qy (by omega) (by omega) (by kernel_rfl) (.here 19 rfl),Zx (e:=⟨u.b,3,true,(Qw (X1.getD q.k []) u.cap).set s (Zl ((X1.getD q.k []).getD (s+k) 0))⟩) (idx:=s+k) (it:=Zl ((X1.getD q.k []).getD s 0)) 0 rfl rfl rfl (by kernel_rfl) 1 rfl (by kernel_rfl) (by kernel_rfl) rfl (.tmp 19 rfl rfl) (Qbp mu rfl) rfl (by rw[List.length_set]; exact Vd (by omega)) (show s*3+((k:Int)).toNat*3=(s+k)*3 by omega) Qr (.tmp 17 rfl rfl) (Xb _),trivial⟩
    refine Xw ?_
    refine Qi ?_
    refine Yx hI [] [] [⟨some 0,none,55,pI ((q.k:Int)+(1:Int))⟩,⟨some 1,none,39,pI ((q.k:Int)+(1:Int))⟩] (.k .z) (.kkkk (.kk (.t 1 .z))) rfl [0,1] (by kernel_rfl) ?_ (.k .z) (.kkkk (.kkdd (.k .z))) fun a w hI=>?_
    ·exact⟨Qo (v:=.int .i64 (IntKind.i64.wrap ((q.k:Int)+(1:Int)))) (.tmp 6 rfl rfl) (.const _) (fun _=>rfl) (.at_ 7 _ _ rfl (Xe (by omega))),Qa (.tmp 7 rfl rfl) (.here 8 rfl),trivial⟩
    refine Qi ?_
    exact⟨⟨q.k+1,Xs (Xs q.H u.b s (Zl ((X1.getD q.k []).getD (s+k) 0))) u.b (s+k) (Zl ((X1.getD q.k []).getD s 0))⟩,⟨⟨by show q.k+1≤X.length; omega,by show MatS s g cap R1 (Z6 (Vi s (s+k)) X1 0 (q.k+1)) (Xs (Xs q.H u.b s (Zl ((X1.getD q.k []).getD (s+k) 0))) u.b (s+k) (Zl ((X1.getD q.k []).getD s 0))); rw[hset_swp (p:=u.cap) (fun e he hb=>huq e _ he mu hb) (by omega) (by omega),← Qdl (by omega) (Nat.zero_le _)]; exact hMq.setRow hu (by rw[swpRow_len,eL])⟩,(hI.conv ⟨⟨0,_,_,rfl,⟨rfl,rfl,rfl⟩,rfl,fun _=>(fun _ _ h=>h)⟩,trivial⟩ ⟨⟨rfl,rfl,0,_,rfl,fun _ _ h=>h⟩,⟨rfl,rfl,1,_,rfl,fun _ _ h=>h⟩,⟨rfl,rfl,2,_,rfl,fun _ _ h=>h⟩,⟨rfl,rfl,3,_,rfl,fun _ _ h=>h⟩,⟨rfl,rfl,4,_,rfl,fun _ _ h=>h⟩,⟨rfl,rfl,5,_,rfl,fun _ _ h=>h⟩,⟨rfl,rfl,6,_,rfl,(Xa (by show((q.k:Int)+1)=((q.k+1:Nat):Int); omega))⟩,trivial⟩)⟩,(show X.length-(q.k+1)<X.length-q.k by omega)⟩
   ·have t4:=of_decide_eq_false ht
    refine wp_exit ?_
    refine Qz ?_
    refine Qz ?_
    refine Xl ?_
    refine Qi ?_
    refine Qh hI [] [] [⟨some 0,none,2,pB true⟩] (.k .z) (.k8 .z) rfl [0] (by kernel_rfl) ?_ (.k .z) (.kkkd (.dddd (.k .z))) fun a w hI=>?_
    ·exact⟨Qc (.const _) (.here 8 rfl),trivial⟩
    refine wp_ret ?_
    refine Ze ?_
    refine X7 ?_
    refine X7 ?_
    refine Ze ?_
    refine X7 ?_
    exact finLO (⟨true,R1,leadA s k X,q.H⟩:LeadL) (leadA_C hr hc hs (by omega) (by have:=t2; intro h; rw[show(X.getD k []).getD (s+k) 0=0 from h]at this; simp at this) (by have h:=hMq; rw[show q.k=X.length by omega,eX1]at h; exact h)) hI rfl (n0:=0) rfl (.tmp 3 rfl)
  ·have t5:=ht
   refine wp_skip ?_
   refine Xw ?_
   refine Qi ?_
   refine Yx hI [] [] [⟨some 0,none,56,pI ((k:Int)+(1:Int))⟩,⟨some 1,none,13,pI ((k:Int)+(1:Int))⟩] (.k .z) (.kk (.t 1 (.kk .z))) rfl [0,1] (by kernel_rfl) ?_ (.k .z) (.kkdd (.ddk .z)) fun a w hI=>?_
   ·exact⟨Qo (v:=.int .i64 (IntKind.i64.wrap ((k:Int)+(1:Int)))) (.tmp 2 rfl rfl) (.const _) (fun _=>rfl) (.at_ 5 _ _ rfl (Xe (by omega))),Qa (.tmp 5 rfl rfl) (.here 6 rfl),trivial⟩
   refine Qi ?_
   exact⟨k+1,⟨⟨by omega,fun i hi=>by rcases Nat.lt_or_ge i k with h|h; exact hz i h; rw[show i=k by omega]; have:=t5; show(X.getD k []).getD (s+k) 0=0; simpa using this⟩,(hI.conv ⟨⟨0,_,_,rfl,⟨rfl,rfl,rfl⟩,rfl,fun _=>fun _ _ h=>h⟩,trivial⟩ ⟨⟨rfl,rfl,0,_,rfl,fun _ _ h=>h⟩,⟨rfl,rfl,1,_,rfl,fun _ _ h=>h⟩,⟨rfl,rfl,2,_,rfl,(Xa (by omega))⟩,trivial⟩)⟩,(show X.length-(k+1)<X.length-k by omega)⟩
 ·have t6:=of_decide_eq_false ht
  exact absurd hd (fun⟨i,hi,h⟩=>h (hz i (by omega)))
theorem r_leadB {s g cap α δ J:Nat} {X:List (List Rat)} {R:List RowL} {H0:List Bk} (hM0:MatS s g cap R X H0) (hr:Rect (s+X.length) X) (hc:ComM α δ X.length (Xc s X)) (hs:Sym X.length (Xc s X)) (hn:s+X.length≤1000) (hd:∀i,i<X.length→Xc s X i i=0) (hJ:α+1≤J∧δ≤J∧J≤10000000):∀(M:Nat→Nat→Prop) (B:Nat→Prop) (w:World) (v0:Value),Mid M w→(∀k,B k→∀o,¬M k o)→HpOk B w H0→Box (Jg M B) (fun w=>(Qe (.slice (some ⟨g,0,none⟩) X.length cap)) w v0) w→Calls Try.prog 50 #[v0] w (RetLO B (LeadC s g cap (α+2) δ X) (fun l=>.bool l.b) (fun l=>l.H) w):=by
 intro M B w0 v0 hM hBM hH hv0
 refine Qaz (N:=124) (id:=124) (s:=124) Try.func50 rfl rfl rfl hM hBM hH (show EntsA (Jg M B) w0 [v0] [⟨none,none,0,Qe (.slice (some ⟨g,0,none⟩) X.length cap)⟩]from⟨⟨rfl,_,rfl,hv0⟩,trivial⟩) fun a hI=>?_
 refine Qh hI [] [] [⟨some 0,none,2,pB false⟩] (.k .z) (.k .z) rfl [0] (by kernel_rfl) ?_ (.k .z) (.kk .z) fun a w hI=>?_
 ·exact⟨Qc (.const _) (.here 1 rfl),trivial⟩
 refine wp_seq ?_
 refine Qh hI [] [] [⟨some 0,none,11,Qe (.slice (some ⟨g,0,none⟩) X.length cap)⟩,⟨some 1,none,12,pI (X.length:Int)⟩,⟨some 2,none,13,pI 0⟩] (.k .z) (.kk .z) rfl [0,1,3] (by kernel_rfl) ?_ (.k .z) (.kkdk (.k .z)) fun a w hI=>?_
 ·exact⟨Qa (.tmp 0 rfl rfl) (.here 2 rfl),Js (.tmp 2 rfl rfl) (Qx).under (.here 3 rfl),Qa (.const _) (.here 4 rfl),trivial⟩
 refine wp_block ?_
 refine Xn (fun(k:Nat) a w=>(k≤X.length)∧Inv ⟨124,w0,M,B⟩ [⟨124,124,none,none,.obj,0,0,false,Zj H0,[]⟩] [] [⟨none,none,0,Qe (.slice (some ⟨g,0,none⟩) X.length cap)⟩,⟨none,none,12,pI (X.length:Int)⟩,⟨none,none,13,pI (k:Int)⟩] Qf a w) (fun(k:Nat)=>X.length-k) (0) ⟨Nat.zero_le _,(hI.conv ⟨⟨0,_,_,rfl,⟨rfl,rfl,rfl⟩,rfl,fun _=>fun _ _ h=>h⟩,trivial⟩ ⟨⟨rfl,rfl,0,_,rfl,fun _ _ h=>h⟩,⟨rfl,rfl,2,_,rfl,fun _ _ h=>h⟩,⟨rfl,rfl,3,_,rfl,(Xa (by omega))⟩,trivial⟩)⟩ ?_
 intro k a w hIk
 obtain⟨hk,hI⟩:=hIk
 refine Qh hI [] [] [⟨some 0,none,14,pB (decide ((k:Int)<(X.length:Int)))⟩] (.k .z) (.kkk .z) rfl [0] (by kernel_rfl) ?_ (.k .z) (.kkkk .z) fun a w hI=>?_
 ·exact⟨Qo (v:=.bool (decide ((k:Int)<(X.length:Int)))) (.tmp 2 rfl rfl) (.tmp 1 rfl rfl) (fun _=>rfl) (.here 3 rfl),trivial⟩
 refine wp_seq ?_
 refine Xd hI 3 rfl (fun ht=>?_) (fun ht=>?_)
 ·have t1:=of_decide_eq_true ht
  refine wp_skip ?_
  refine Qi ?_
  refine wp_seq ?_
  refine wp_block ?_
  refine Qh hI [] [] [⟨some 0,none,15,pI (k:Int)⟩,⟨some 1,none,3,pI (k:Int)⟩] (.k .z) (.kkkk .z) rfl [0,1] (by kernel_rfl) ?_ (.k .z) (.kkkd (.dk .z)) fun a w hI=>?_
  ·exact⟨Qa (.tmp 2 rfl rfl) (.here 4 rfl),Qc (.tmp 4 rfl rfl) (.here 5 rfl),trivial⟩
  obtain⟨r,hr1⟩:=hM0.get (i:=k) (by omega)
  have hf:=hM0.fit _ _ hr1
  have hl:=hr k (by omega)
  refine Qh hI [] [] [⟨some 0,none,16,Qe (.slice (some ⟨g,0,none⟩) X.length cap)⟩,⟨some 1,none,17,pI (k:Int)⟩,⟨some 2,none,18,Qe (.pointer (some ⟨g,0+((k:Int)).toNat*1,none⟩))⟩,⟨some 3,none,19,Qe (.slice (some ⟨r.b,s*3,none⟩) (r.n-s) (r.cap-s))⟩,⟨some 4,none,20,pI (k:Int)⟩,⟨some 5,none,21,Qe (.pointer (some ⟨r.b,s*3+((k:Int)).toNat*3,none⟩))⟩,⟨some 6,none,22,Qk ((X.getD k []).getD (s+k) 0)⟩,⟨some 7,none,23,pB true⟩,⟨some 8,none,24,pB false⟩] (.k .z) (.kkkk .z) rfl [0,1,3,7,15,31,63,127,255] (by kernel_rfl) ?_ (.k .z) (.kkkk (.d8 (.k .z))) fun a w hI=>?_
  ·exact⟨Qa (.tmp 0 rfl rfl) (.here 4 rfl),Qa (.tmp 3 rfl rfl) (.here 5 rfl),Qs (.tmp 4 rfl rfl) (.tmp 5 rfl rfl) Qx (by omega) (by omega) (by kernel_rfl) (.here 6 rfl),Q5 (e:=⟨g,1,false,Y3 s R⟩) (idx:=k) 0 rfl rfl rfl (by kernel_rfl) rfl (.tmp 6 rfl rfl) hM0.top rfl (Zz hr1) (show 0+((k:Int)).toNat*1=(k)*1 by omega) Q1 (.here 7 rfl),Qa (.tmp 3 rfl rfl) (.here 8 rfl),Qs (.tmp 7 rfl rfl) (.tmp 8 rfl rfl) Qy (by omega) (by omega) (by kernel_rfl) (.here 9 rfl),Q5 (e:=⟨r.b,3,true,Qw (X.getD k []) r.cap⟩) (idx:=s+k) 0 rfl rfl rfl (by kernel_rfl) rfl (.tmp 9 rfl rfl) (hM0.rows _ _ hr1) rfl (X5 (by omega)) (show s*3+((k:Int)).toNat*3=(s+k)*3 by omega) Qr (.here 10 rfl),Y2 (fun _ _=>by kernel_rfl) (Xt _) (.tmp 10 rfl rfl) (.here 11 rfl) (c_known1 (b:=true) (Uo ((X.getD k []).getD (s+k) 0)) (decide_eq_true (show _=_ from hd k (by omega)))),Vw (.tmp 11 rfl rfl) (.here 12 rfl),trivial⟩
  refine Zt hI 4 rfl ?_
  refine wp_skip ?_
  refine Xw ?_
  refine Qi ?_
  refine Yx hI [] [] [⟨some 0,none,56,pI ((k:Int)+(1:Int))⟩,⟨some 1,none,13,pI ((k:Int)+(1:Int))⟩] (.k .z) (.kk (.t 1 (.kk .z))) rfl [0,1] (by kernel_rfl) ?_ (.k .z) (.kkdd (.ddk .z)) fun a w hI=>?_
  ·exact⟨Qo (v:=.int .i64 (IntKind.i64.wrap ((k:Int)+(1:Int)))) (.tmp 2 rfl rfl) (.const _) (fun _=>rfl) (.at_ 5 _ _ rfl (Xe (by omega))),Qa (.tmp 5 rfl rfl) (.here 6 rfl),trivial⟩
  refine Qi ?_
  exact⟨k+1,⟨(show k+1≤X.length by omega),(hI.conv ⟨⟨0,_,_,rfl,⟨rfl,rfl,rfl⟩,rfl,fun _=>fun _ _ h=>h⟩,trivial⟩ ⟨⟨rfl,rfl,0,_,rfl,fun _ _ h=>h⟩,⟨rfl,rfl,1,_,rfl,fun _ _ h=>h⟩,⟨rfl,rfl,2,_,rfl,(Xa (by omega))⟩,trivial⟩)⟩,(show X.length-(k+1)<X.length-k by omega)⟩
 ·have t2:=of_decide_eq_false ht
  refine wp_exit ?_
  refine Qz ?_
  refine Qz ?_
  refine Xl ?_
  refine Qi ?_
  refine wp_seq ?_
  refine Qh hI [] [] [⟨some 0,none,57,Qe (.slice (some ⟨g,0,none⟩) X.length cap)⟩,⟨some 1,none,58,pI (X.length:Int)⟩,⟨some 2,none,59,pI 0⟩] (.k .z) (.kkkk .z) rfl [0,1,3] (by kernel_rfl) ?_ (.k .z) (.kddd (.dkk .z)) fun a w hI=>?_
  ·exact⟨Qa (.tmp 0 rfl rfl) (.here 4 rfl),Js (.tmp 4 rfl rfl) (Qx).under (.here 5 rfl),Qa (.const _) (.here 6 rfl),trivial⟩
  refine wp_block ?_
  refine Xn (fun(i:Nat) a w=>(i≤X.length∧∀a,a<i→∀b,b<a→Xc s X a b=0)∧Inv ⟨124,w0,M,B⟩ [⟨124,124,none,none,.obj,0,0,false,Zj H0,[]⟩] [] [⟨none,none,0,Qe (.slice (some ⟨g,0,none⟩) X.length cap)⟩,⟨none,none,58,pI (X.length:Int)⟩,⟨none,none,59,pI (i:Int)⟩] Qf a w) (fun(i:Nat)=>X.length-i) (0) ⟨⟨Nat.zero_le _,fun a ha=>absurd ha (Nat.not_lt_zero _)⟩,(hI.conv ⟨⟨0,_,_,rfl,⟨rfl,rfl,rfl⟩,rfl,fun _=>fun _ _ h=>h⟩,trivial⟩ ⟨⟨rfl,rfl,0,_,rfl,fun _ _ h=>h⟩,⟨rfl,rfl,1,_,rfl,fun _ _ h=>h⟩,⟨rfl,rfl,2,_,rfl,(Xa (by omega))⟩,trivial⟩)⟩ ?_
  intro i a w hIk
  obtain⟨⟨hi,hz2⟩,hI⟩:=hIk
  refine Qh hI [] [] [⟨some 0,none,60,pB (decide ((i:Int)<(X.length:Int)))⟩] (.k .z) (.kkk .z) rfl [0] (by kernel_rfl) ?_ (.k .z) (.kkkk .z) fun a w hI=>?_
  ·exact⟨Qo (v:=.bool (decide ((i:Int)<(X.length:Int)))) (.tmp 2 rfl rfl) (.tmp 1 rfl rfl) (fun _=>rfl) (.here 3 rfl),trivial⟩
  refine wp_seq ?_
  refine Xd hI 3 rfl (fun ht=>?_) (fun ht=>?_)
  ·have t3:=of_decide_eq_true ht
   refine wp_skip ?_
   refine Qi ?_
   refine wp_seq ?_
   refine wp_block ?_
   refine Qh hI [] [] [⟨some 0,none,61,pI (i:Int)⟩,⟨some 1,none,6,pI (i:Int)⟩] (.k .z) (.kkkk .z) rfl [0,1] (by kernel_rfl) ?_ (.k .z) (.kkkd (.dk .z)) fun a w hI=>?_
   ·exact⟨Qa (.tmp 2 rfl rfl) (.here 4 rfl),Qc (.tmp 4 rfl rfl) (.here 5 rfl),trivial⟩
   refine Qh hI [] [] [⟨some 0,none,62,pI (i:Int)⟩,⟨some 1,none,63,pI 0⟩] (.k .z) (.kkkk .z) rfl [0,1] (by kernel_rfl) ?_ (.k .z) (.kkkk (.kk .z)) fun a w hI=>?_
   ·exact⟨Qa (.tmp 3 rfl rfl) (.here 4 rfl),Qa (.const _) (.here 5 rfl),trivial⟩
   refine wp_block ?_
   refine Xn (fun(kk:Nat) a w=>(kk≤i∧∀b,b<kk→Xc s X i b=0)∧Inv ⟨124,w0,M,B⟩ [⟨124,124,none,none,.obj,0,0,false,Zj H0,[]⟩] [] [⟨none,none,0,Qe (.slice (some ⟨g,0,none⟩) X.length cap)⟩,⟨none,none,58,pI (X.length:Int)⟩,⟨none,none,59,pI (i:Int)⟩,⟨none,none,6,pI (i:Int)⟩,⟨none,none,62,pI (i:Int)⟩,⟨none,none,63,pI (kk:Int)⟩] Qf a w) (fun(kk:Nat)=>i-kk) (0) ⟨⟨Nat.zero_le _,fun b hb=>absurd hb (Nat.not_lt_zero _)⟩,(hI.conv ⟨⟨0,_,_,rfl,⟨rfl,rfl,rfl⟩,rfl,fun _=>fun _ _ h=>h⟩,trivial⟩ ⟨⟨rfl,rfl,0,_,rfl,fun _ _ h=>h⟩,⟨rfl,rfl,1,_,rfl,fun _ _ h=>h⟩,⟨rfl,rfl,2,_,rfl,fun _ _ h=>h⟩,⟨rfl,rfl,3,_,rfl,fun _ _ h=>h⟩,⟨rfl,rfl,4,_,rfl,fun _ _ h=>h⟩,⟨rfl,rfl,5,_,rfl,(Xa (by omega))⟩,trivial⟩)⟩ ?_
   intro kk a w hIk
   obtain⟨⟨hkk,hz3⟩,hI⟩:=hIk
   refine Qh hI [] [] [⟨some 0,none,64,pB (decide ((kk:Int)<(i:Int)))⟩] (.k .z) (.kkkk (.kk .z)) rfl [0] (by kernel_rfl) ?_ (.k .z) (.kkkk (.kkk .z)) fun a w hI=>?_
   ·exact⟨Qo (v:=.bool (decide ((kk:Int)<(i:Int)))) (.tmp 5 rfl rfl) (.tmp 4 rfl rfl) (fun _=>rfl) (.here 6 rfl),trivial⟩
   refine wp_seq ?_
   refine Xd hI 6 rfl (fun ht=>?_) (fun ht=>?_)
   ·have t4:=of_decide_eq_true ht
    refine wp_skip ?_
    refine Qi ?_
    refine wp_seq ?_
    refine wp_block ?_
    refine Qh hI [] [] [⟨some 0,none,65,pI (kk:Int)⟩,⟨some 1,none,7,pI (kk:Int)⟩] (.k .z) (.kkkk (.kkk .z)) rfl [0,1] (by kernel_rfl) ?_ (.k .z) (.kkkk (.kkdd (.k .z))) fun a w hI=>?_
    ·exact⟨Qa (.tmp 5 rfl rfl) (.here 7 rfl),Qc (.tmp 7 rfl rfl) (.here 8 rfl),trivial⟩
    refine wp_seq ?_
    obtain⟨ri,hri⟩:=hM0.get (i:=i) (by omega)
    have hfi:=hM0.fit _ _ hri
    have hli:=hr i (by omega)
    refine Qh hI [] [] [⟨some 0,none,66,Qe (.slice (some ⟨g,0,none⟩) X.length cap)⟩,⟨some 1,none,67,pI (i:Int)⟩,⟨some 2,none,68,Qe (.pointer (some ⟨g,0+((i:Int)).toNat*1,none⟩))⟩,⟨some 3,none,69,Qe (.slice (some ⟨ri.b,s*3,none⟩) (ri.n-s) (ri.cap-s))⟩,⟨some 4,none,70,pI (kk:Int)⟩,⟨some 5,none,71,Qe (.pointer (some ⟨ri.b,s*3+((kk:Int)).toNat*3,none⟩))⟩,⟨some 6,none,72,Qk ((X.getD i []).getD (s+kk) 0)⟩,⟨some 7,none,73,pB (decide ((X.getD i []).getD (s+kk) 0=0))⟩] (.k .z) (.kkkk (.kkk .z)) rfl [0,1,3,7,15,31,63,127] (by kernel_rfl) ?_ (.k .z) (.kkkk (.kkkd (.dddd (.ddk .z)))) fun a w hI=>?_
    ·exact⟨Qa (.tmp 0 rfl rfl) (.here 7 rfl),Qa (.tmp 3 rfl rfl) (.here 8 rfl),Qs (.tmp 7 rfl rfl) (.tmp 8 rfl rfl) Qx (by omega) (by omega) (by kernel_rfl) (.here 9 rfl),Q5 (e:=⟨g,1,false,Y3 s R⟩) (idx:=i) 0 rfl rfl rfl (by kernel_rfl) rfl (.tmp 9 rfl rfl) hM0.top rfl (Zz hri) (show 0+((i:Int)).toNat*1=(i)*1 by omega) Q1 (.here 10 rfl),Qa (.tmp 6 rfl rfl) (.here 11 rfl),Qs (.tmp 10 rfl rfl) (.tmp 11 rfl rfl) Qy (by omega) (by omega) (by kernel_rfl) (.here 12 rfl),Q5 (e:=⟨ri.b,3,true,Qw (X.getD i []) ri.cap⟩) (idx:=s+kk) 0 rfl rfl rfl (by kernel_rfl) rfl (.tmp 12 rfl rfl) (hM0.rows _ _ hri) rfl (X5 (by omega)) (show s*3+((kk:Int)).toNat*3=(s+kk)*3 by omega) Qr (.here 13 rfl),Y2 (fun _ _=>by kernel_rfl) (Xt _) (.tmp 13 rfl rfl) (.here 14 rfl) (Uo ((X.getD i []).getD (s+kk) 0)),trivial⟩
    refine Xd hI 7 rfl (fun ht=>?_) (fun ht=>?_)
    ·have t5:=of_decide_eq_true ht
     refine wp_exit ?_
     refine Qz ?_
     refine Xl ?_
     refine Qi ?_
     refine Yx hI [] [] [⟨some 0,none,122,pI ((kk:Int)+(1:Int))⟩,⟨some 1,none,63,pI ((kk:Int)+(1:Int))⟩] (.k .z) (.kkkk (.k (.t 1 (.kk .z)))) rfl [0,1] (by kernel_rfl) ?_ (.k .z) (.kkkk (.kddd (.dk .z))) fun a w hI=>?_
     ·exact⟨Qo (v:=.int .i64 (IntKind.i64.wrap ((kk:Int)+(1:Int)))) (.tmp 5 rfl rfl) (.const _) (fun _=>rfl) (.at_ 8 _ _ rfl (Xe (by omega))),Qa (.tmp 8 rfl rfl) (.here 9 rfl),trivial⟩
     refine Qi ?_
     exact⟨kk+1,⟨⟨by omega,fun b hb=>by rcases Nat.lt_or_ge b kk with h|h; exact hz3 b h; rw[show b=kk by omega]; exact t5⟩,(hI.conv ⟨⟨0,_,_,rfl,⟨rfl,rfl,rfl⟩,rfl,fun _=>fun _ _ h=>h⟩,trivial⟩ ⟨⟨rfl,rfl,0,_,rfl,fun _ _ h=>h⟩,⟨rfl,rfl,1,_,rfl,fun _ _ h=>h⟩,⟨rfl,rfl,2,_,rfl,fun _ _ h=>h⟩,⟨rfl,rfl,3,_,rfl,fun _ _ h=>h⟩,⟨rfl,rfl,4,_,rfl,fun _ _ h=>h⟩,⟨rfl,rfl,5,_,rfl,(Xa (by omega))⟩,trivial⟩)⟩,(show i-(kk+1)<i-kk by omega)⟩
    ·have t6:=of_decide_eq_false ht
     refine wp_skip ?_
     refine Qi ?_
     refine wp_seq ?_
     obtain⟨rk,hrk⟩:=hM0.get (i:=kk) (by omega)
     have hfk:=hM0.fit _ _ hrk
     have hlk:=hr kk (by omega)
     have hiX:i<X.length:=by omega
     have hkX:kk<X.length:=by omega
     have hbd:∀{a b:Nat},a<X.length→b<X.length→BdR J ((X.getD a []).getD (s+b) 0):=fun ha hb=>hc.bd (by omega) (by omega) ha hb
     have hne:Xc s X i kk≠0:=t6
     refine Qh hI [] [] [⟨some 0,none,74,Qe (.slice (some ⟨g,0,none⟩) X.length cap)⟩,⟨some 1,none,75,pI (X.length:Int)⟩,⟨some 2,none,76,pI 0⟩] (.k .z) (.k8 .z) rfl [0,1,3] (by kernel_rfl) ?_ (.k .z) (.kkkk (.kkkd (.dkk .z))) fun a w hI=>?_
     ·exact⟨Qa (.tmp 0 rfl rfl) (.here 8 rfl),Js (.tmp 8 rfl rfl) (Qx).under (.here 9 rfl),Qa (.const _) (.here 10 rfl),trivial⟩
     refine wp_block ?_
     refine Xn (fun(q:HI) a w=>(q.k≤X.length∧MatS s g cap R (X.set i (Xz (X.getD i []) s (X.getD kk []) s (-1) q.k)) q.H)∧Inv ⟨124,w0,M,B⟩ [⟨124,124,none,none,.obj,0,0,false,Zj q.H,[]⟩] [] [⟨none,none,0,Qe (.slice (some ⟨g,0,none⟩) X.length cap)⟩,⟨none,none,58,pI (X.length:Int)⟩,⟨none,none,59,pI (i:Int)⟩,⟨none,none,6,pI (i:Int)⟩,⟨none,none,62,pI (i:Int)⟩,⟨none,none,63,pI (kk:Int)⟩,⟨none,none,7,pI (kk:Int)⟩,⟨none,none,75,pI (X.length:Int)⟩,⟨none,none,76,pI (q.k:Int)⟩] Qf a w) (fun(q:HI)=>X.length-q.k) (⟨0,H0⟩) ⟨⟨Nat.zero_le _,by show MatS s g cap R (X.set i (Xz (X.getD i []) s (X.getD kk []) s (-1) 0)) H0; rw[redAt_zero,set_getD (by omega)]; exact hM0⟩,(hI.conv ⟨⟨0,_,_,rfl,⟨rfl,rfl,rfl⟩,rfl,fun _=>(fun _ _ h=>h)⟩,trivial⟩ ⟨⟨rfl,rfl,0,_,rfl,fun _ _ h=>h⟩,⟨rfl,rfl,1,_,rfl,fun _ _ h=>h⟩,⟨rfl,rfl,2,_,rfl,fun _ _ h=>h⟩,⟨rfl,rfl,3,_,rfl,fun _ _ h=>h⟩,⟨rfl,rfl,4,_,rfl,fun _ _ h=>h⟩,⟨rfl,rfl,5,_,rfl,fun _ _ h=>h⟩,⟨rfl,rfl,6,_,rfl,fun _ _ h=>h⟩,⟨rfl,rfl,7,_,rfl,fun _ _ h=>h⟩,⟨rfl,rfl,8,_,rfl,(Xa rfl)⟩,trivial⟩)⟩ ?_
     intro q a w hIk
     obtain⟨⟨hq,hMq⟩,hI⟩:=hIk
     refine Qh hI [] [] [⟨some 0,none,77,pB (decide ((q.k:Int)<(X.length:Int)))⟩] (.k .z) (.k8 (.k .z)) rfl [0] (by kernel_rfl) ?_ (.k .z) (.k8 (.kk .z)) fun a w hI=>?_
     ·exact⟨Qo (v:=.bool (decide ((q.k:Int)<(X.length:Int)))) (.tmp 8 rfl rfl) (.tmp 7 rfl rfl) (fun _=>rfl) (.here 9 rfl),trivial⟩
     refine wp_seq ?_
     refine Xd hI 9 rfl (fun ht=>?_) (fun ht=>?_)
     ·have t7:=of_decide_eq_true ht
      refine wp_skip ?_
      refine Qi ?_
      refine wp_seq ?_
      refine wp_block ?_
      refine Qh hI [] [] [⟨some 0,none,78,pI (q.k:Int)⟩,⟨some 1,none,8,pI (q.k:Int)⟩] (.k .z) (.k8 (.kk .z)) rfl [0,1] (by kernel_rfl) ?_ (.k .z) (.k8 (.kddk .z)) fun a w hI=>?_
      ·exact⟨Qa (.tmp 8 rfl rfl) (.here 10 rfl),Qc (.tmp 10 rfl rfl) (.here 11 rfl),trivial⟩
      have hqX:q.k<X.length:=by omega
      have hrow:(X.set i (Xz (X.getD i []) s (X.getD kk []) s (-1) q.k)).getD i []=(Xz (X.getD i []) s (X.getD kk []) s (-1) q.k):=by rw[Zk (by omega),if_pos rfl]
      have hrow2:(X.set i (Xz (X.getD i []) s (X.getD kk []) s (-1) q.k)).getD kk []=(X.getD kk []):=by rw[Zk (by omega),if_neg (by omega)]
      have mi:(⟨ri.b,3,true,Qw (Xz (X.getD i []) s (X.getD kk []) s (-1) q.k) ri.cap⟩:Bk)∈q.H:=by have h:=hMq.rows _ _ hri; rw[hrow]at h; exact h
      have mk:(⟨rk.b,3,true,Qw (X.getD kk []) rk.cap⟩:Bk)∈q.H:=by have h:=hMq.rows _ _ hrk; rw[hrow2]at h; exact h
      have huq:=hI.uniq 0 rfl
      refine sem_D hI [] [] [⟨some 0,none,79,Qe (.slice (some ⟨g,0,none⟩) X.length cap)⟩,⟨some 1,none,80,pI (i:Int)⟩,⟨some 2,none,81,Qe (.pointer (some ⟨g,0+((i:Int)).toNat*1,none⟩))⟩,⟨some 3,none,82,Qe (.slice (some ⟨ri.b,s*3,none⟩) (ri.n-s) (ri.cap-s))⟩,⟨some 4,none,83,pI (q.k:Int)⟩,⟨some 5,none,84,Qe (.slice (some ⟨g,0,none⟩) X.length cap)⟩,⟨some 6,none,85,pI (i:Int)⟩,⟨some 7,none,86,Qe (.pointer (some ⟨g,0+((i:Int)).toNat*1,none⟩))⟩,⟨some 8,none,87,Qe (.slice (some ⟨ri.b,s*3,none⟩) (ri.n-s) (ri.cap-s))⟩,⟨some 9,none,88,pI (q.k:Int)⟩,⟨some 10,none,89,Qe (.pointer (some ⟨ri.b,s*3+((q.k:Int)).toNat*3,none⟩))⟩,⟨some 11,none,90,Qk ((X.getD i []).getD (s+q.k) 0)⟩,⟨some 12,none,91,Qe (.slice (some ⟨g,0,none⟩) X.length cap)⟩,⟨some 13,none,92,pI (kk:Int)⟩,⟨some 14,none,93,Qe (.pointer (some ⟨g,0+((kk:Int)).toNat*1,none⟩))⟩,⟨some 15,none,94,Qe (.slice (some ⟨rk.b,s*3,none⟩) (rk.n-s) (rk.cap-s))⟩,⟨some 16,none,95,pI (q.k:Int)⟩,⟨some 17,none,96,Qe (.pointer (some ⟨rk.b,s*3+((q.k:Int)).toNat*3,none⟩))⟩,⟨some 18,none,97,Qk ((X.getD kk []).getD (s+q.k) 0)⟩,⟨some 19,none,98,Qk ((X.getD i []).getD (s+q.k) 0+(X.getD kk []).getD (s+q.k) 0)⟩,⟨some 20,none,99,Qe (.pointer (some ⟨ri.b,s*3+((q.k:Int)).toNat*3,none⟩))⟩] (.u none [(21,Zj (Xs q.H ri.b (s+q.k) (Zl ((X.getD i []).getD (s+q.k) 0+(X.getD kk []).getD (s+q.k) 0))))] .z) (.k8 (.kk .z)) rfl [0,0,3,7,0,0,0,96,224,0,992,2016,0,0,12288,28672,0,126976,258048,524256,1048575,2097151] (by kernel_rfl) ?_ (.s .o .z) (.k8 (.kddd (.d8 (.d8 (.ddd .z))))) fun a w hI=>?_
      ·exact⟨Qa (.tmp 0 rfl rfl) (.here 10 rfl),Qa (.tmp 3 rfl rfl) (.here 11 rfl),Qs (.tmp 10 rfl rfl) (.tmp 11 rfl rfl) Qx (by omega) (by omega) (by kernel_rfl) (.here 12 rfl),Q5 (e:=⟨g,1,false,Y3 s R⟩) (idx:=i) 0 rfl rfl rfl (by kernel_rfl) rfl (.tmp 12 rfl rfl) hMq.top rfl (Zz hri) (show 0+((i:Int)).toNat*1=(i)*1 by omega) Q1 (.here 13 rfl),Qa (.tmp 9 rfl rfl) (.here 14 rfl),Qa (.tmp 0 rfl rfl) (.here 15 rfl),Qa (.tmp 3 rfl rfl) (.here 16 rfl),Qs (.tmp 15 rfl rfl) (.tmp 16 rfl rfl) Qx (by omega) (by omega) (by kernel_rfl) (.here 17 rfl),Q5 (e:=⟨g,1,false,Y3 s R⟩) (idx:=i) 0 rfl rfl rfl (by kernel_rfl) rfl (.tmp 17 rfl rfl) hMq.top rfl (Zz hri) (show 0+((i:Int)).toNat*1=(i)*1 by omega) Q1 (.here 18 rfl),Qa (.tmp 9 rfl rfl) (.here 19 rfl),Qs (.tmp 18 rfl rfl) (.tmp 19 rfl rfl) Qy (by omega) (by omega) (by kernel_rfl) (.here 20 rfl),Q5 (e:=⟨ri.b,3,true,Qw (Xz (X.getD i []) s (X.getD kk []) s (-1) q.k) ri.cap⟩) (idx:=s+q.k) 0 rfl rfl rfl (by kernel_rfl) rfl (.tmp 20 rfl rfl) mi rfl (redAt_item (by omega)) (show s*3+((q.k:Int)).toNat*3=(s+q.k)*3 by omega) Qr (.here 21 rfl),Qa (.tmp 0 rfl rfl) (.here 22 rfl),Qa (.tmp 6 rfl rfl) (.here 23 rfl),Qs (.tmp 22 rfl rfl) (.tmp 23 rfl rfl) Qx (by omega) (by omega) (by kernel_rfl) (.here 24 rfl),Q5 (e:=⟨g,1,false,Y3 s R⟩) (idx:=kk) 0 rfl rfl rfl (by kernel_rfl) rfl (.tmp 24 rfl rfl) hMq.top rfl (Zz hrk) (show 0+((kk:Int)).toNat*1=(kk)*1 by omega) Q1 (.here 25 rfl),Qa (.tmp 9 rfl rfl) (.here 26 rfl),Qs (.tmp 25 rfl rfl) (.tmp 26 rfl rfl) Qy (by omega) (by omega) (by kernel_rfl) (.here 27 rfl),Q5 (e:=⟨rk.b,3,true,Qw (X.getD kk []) rk.cap⟩) (idx:=s+q.k) 0 rfl rfl rfl (by kernel_rfl) rfl (.tmp 27 rfl rfl) mk rfl (X5 (by omega)) (show s*3+((q.k:Int)).toNat*3=(s+q.k)*3 by omega) Qr (.here 28 rfl),Y6 (fun _ _=>by kernel_rfl) (Xr _) (.tmp 21 rfl rfl) (.tmp 28 rfl rfl) (.here 29 rfl) (c_add (j:=J) (k:=J) (hbd hiX hqX) (hbd hkX hqX) (by omega)),Qs (.tmp 13 rfl rfl) (.tmp 14 rfl rfl) Qy (by omega) (by omega) (by kernel_rfl) (.here 30 rfl),Zx (e:=⟨ri.b,3,true,Qw (Xz (X.getD i []) s (X.getD kk []) s (-1) q.k) ri.cap⟩) (idx:=s+q.k) (it:=Zl ((X.getD i []).getD (s+q.k) 0+(X.getD kk []).getD (s+q.k) 0)) 0 rfl rfl rfl (by kernel_rfl) 0 rfl (by kernel_rfl) (by kernel_rfl) rfl (.tmp 30 rfl rfl) mi rfl (Vd (by rw[J1]; omega)) (show s*3+((q.k:Int)).toNat*3=(s+q.k)*3 by omega) Qr (.tmp 29 rfl rfl) (Xb _),trivial⟩
      refine Xw ?_
      refine Qi ?_
      refine Yx hI [] [] [⟨some 0,none,100,pI ((q.k:Int)+(1:Int))⟩,⟨some 1,none,76,pI ((q.k:Int)+(1:Int))⟩] (.k .z) (.k8 (.t 1 .z)) rfl [0,1] (by kernel_rfl) ?_ (.k .z) (.k8 (.ddk .z)) fun a w hI=>?_
      ·exact⟨Qo (v:=.int .i64 (IntKind.i64.wrap ((q.k:Int)+(1:Int)))) (.tmp 8 rfl rfl) (.const _) (fun _=>rfl) (.at_ 9 _ _ rfl (Xe (by omega))),Qa (.tmp 9 rfl rfl) (.here 10 rfl),trivial⟩
      refine Qi ?_
      exact⟨⟨q.k+1,Xs q.H ri.b (s+q.k) (Zl ((X.getD i []).getD (s+q.k) 0+(X.getD kk []).getD (s+q.k) 0))⟩,⟨⟨by show q.k+1≤X.length; omega,by show MatS s g cap R (X.set i (Xz (X.getD i []) s (X.getD kk []) s (-1) (q.k+1))) (Xs q.H ri.b (s+q.k) (Zl ((X.getD i []).getD (s+q.k) 0+(X.getD kk []).getD (s+q.k) 0))); rw[hset_red (p:=ri.cap) (fun e he hb=>huq e _ he mi hb) (by omega)]; have h:=hMq.setRow hri (l:=(Xz (X.getD i []) s (X.getD kk []) s (-1) (q.k+1))) (by rw[J1,hrow,J1]); rw[List.set_set]at h; exact h⟩,(hI.conv ⟨⟨0,_,_,rfl,⟨rfl,rfl,rfl⟩,rfl,fun _=>(fun _ _ h=>h)⟩,trivial⟩ ⟨⟨rfl,rfl,0,_,rfl,fun _ _ h=>h⟩,⟨rfl,rfl,1,_,rfl,fun _ _ h=>h⟩,⟨rfl,rfl,2,_,rfl,fun _ _ h=>h⟩,⟨rfl,rfl,3,_,rfl,fun _ _ h=>h⟩,⟨rfl,rfl,4,_,rfl,fun _ _ h=>h⟩,⟨rfl,rfl,5,_,rfl,fun _ _ h=>h⟩,⟨rfl,rfl,6,_,rfl,fun _ _ h=>h⟩,⟨rfl,rfl,7,_,rfl,fun _ _ h=>h⟩,⟨rfl,rfl,8,_,rfl,(Xa (by show((q.k:Int)+1)=((q.k+1:Nat):Int); omega))⟩,trivial⟩)⟩,(show X.length-(q.k+1)<X.length-q.k by omega)⟩
     ·have t8:=of_decide_eq_false ht
      refine wp_exit ?_
      refine Qz ?_
      refine Qz ?_
      refine Xl ?_
      refine Qi ?_
      refine wp_seq ?_
      obtain⟨X1,eX1⟩:∃X1,X1=Uv s i kk X:=⟨_,rfl⟩
      have hM1:MatS s g cap R X1 q.H:=by have h:=hMq; rw[show q.k=X.length by omega]at h; rw[eX1]; exact h
      have hX1:X1.length=X.length:=by rw[eX1,Qav]
      have hX1r:Rect (s+X.length) X1:=by rw[eX1]; exact Qc7 hr
      have hbd1:∀{a b:Nat},a<X.length→b<X.length→BdR J ((X1.getD a []).getD (s+b) 0):=fun ha hb=>by rw[eX1]; exact((hc.row (i:=i) hkX).congr (fun r c h1 h2=>Qb7 hr hiX h2)).bd (by omega) (by omega) ha hb
      refine Qh hI [] [] [⟨some 0,none,101,Qe (.slice (some ⟨g,0,none⟩) X.length cap)⟩,⟨some 1,none,102,pI (X.length:Int)⟩,⟨some 2,none,103,pI 0⟩] (.k .z) (.k8 (.kk .z)) rfl [0,1,3] (by kernel_rfl) ?_ (.k .z) (.kkkk (.kkkd (.ddkk (.k .z)))) fun a w hI=>?_
      ·exact⟨Qa (.tmp 0 rfl rfl) (.here 10 rfl),Js (.tmp 10 rfl rfl) (Qx).under (.here 11 rfl),Qa (.const _) (.here 12 rfl),trivial⟩
      refine wp_block ?_
      refine Xn (fun(q2:HI) a w=>(q2.k≤X.length∧MatS s g cap R (Z6 (Vs (s+i) (s+kk)) X1 0 q2.k) q2.H)∧Inv ⟨124,w0,M,B⟩ [⟨124,124,none,none,.obj,0,0,false,Zj q2.H,[]⟩] [] [⟨none,none,0,Qe (.slice (some ⟨g,0,none⟩) X.length cap)⟩,⟨none,none,58,pI (X.length:Int)⟩,⟨none,none,59,pI (i:Int)⟩,⟨none,none,6,pI (i:Int)⟩,⟨none,none,62,pI (i:Int)⟩,⟨none,none,63,pI (kk:Int)⟩,⟨none,none,7,pI (kk:Int)⟩,⟨none,none,101,Qe (.slice (some ⟨g,0,none⟩) X.length cap)⟩,⟨none,none,102,pI (X.length:Int)⟩,⟨none,none,103,pI (q2.k:Int)⟩] Qf a w) (fun(q2:HI)=>X.length-q2.k) (⟨0,q.H⟩) ⟨⟨Nat.zero_le _,by show MatS s g cap R (Z6 (Vs (s+i) (s+kk)) X1 0 0) q.H; rw[Qcp]; exact hM1⟩,(hI.conv ⟨⟨0,_,_,rfl,⟨rfl,rfl,rfl⟩,rfl,fun _=>(fun _ _ h=>h)⟩,trivial⟩ ⟨⟨rfl,rfl,0,_,rfl,fun _ _ h=>h⟩,⟨rfl,rfl,1,_,rfl,fun _ _ h=>h⟩,⟨rfl,rfl,2,_,rfl,fun _ _ h=>h⟩,⟨rfl,rfl,3,_,rfl,fun _ _ h=>h⟩,⟨rfl,rfl,4,_,rfl,fun _ _ h=>h⟩,⟨rfl,rfl,5,_,rfl,fun _ _ h=>h⟩,⟨rfl,rfl,6,_,rfl,fun _ _ h=>h⟩,⟨rfl,rfl,7,_,rfl,fun _ _ h=>h⟩,⟨rfl,rfl,8,_,rfl,fun _ _ h=>h⟩,⟨rfl,rfl,9,_,rfl,(Xa rfl)⟩,trivial⟩)⟩ ?_
      intro q2 a w hIk
      obtain⟨⟨hq2,hMq2⟩,hI⟩:=hIk
      refine Qh hI [] [] [⟨some 0,none,104,pB (decide ((q2.k:Int)<(X.length:Int)))⟩] (.k .z) (.k8 (.kk .z)) rfl [0] (by kernel_rfl) ?_ (.k .z) (.k8 (.kkk .z)) fun a w hI=>?_
      ·exact⟨Qo (v:=.bool (decide ((q2.k:Int)<(X.length:Int)))) (.tmp 9 rfl rfl) (.tmp 8 rfl rfl) (fun _=>rfl) (.here 10 rfl),trivial⟩
      refine wp_seq ?_
      refine Xd hI 10 rfl (fun ht=>?_) (fun ht=>?_)
      ·have t9:=of_decide_eq_true ht
       refine wp_skip ?_
       refine Qi ?_
       refine wp_seq ?_
       refine wp_block ?_
       have hq2X:q2.k<X.length:=by omega
       obtain⟨u,hu⟩:=hMq2.get (i:=q2.k) (by rw[Zp]; omega)
       have hfu:=hMq2.fit _ _ hu
       have eL:(Z6 (Vs (s+i) (s+kk)) X1 0 q2.k).getD q2.k []=X1.getD q2.k []:=Qdj (by omega) (.inl (Nat.le_refl _))
       rw[eL]at hfu
       have hlu:=hX1r q2.k (by omega)
       have mu:(⟨u.b,3,true,Qw (X1.getD q2.k []) u.cap⟩:Bk)∈q2.H:=by have h:=hMq2.rows _ _ hu; rw[eL]at h; exact h
       have huq2:=hI.uniq 0 rfl
       refine Qh hI [] [] [⟨some 0,none,105,Qe (.pointer (some ⟨g,0+((q2.k:Int)).toNat*1,none⟩))⟩,⟨some 1,none,106,Qe (.slice (some ⟨u.b,s*3,none⟩) (u.n-s) (u.cap-s))⟩,⟨some 2,none,10,Qe (.slice (some ⟨u.b,s*3,none⟩) (u.n-s) (u.cap-s))⟩] (.k .z) (.k8 (.kkk .z)) rfl [0,1,3] (by kernel_rfl) ?_ (.k .z) (.k8 (.kkdd (.dk .z))) fun a w hI=>?_
       ·exact⟨Qs (.tmp 7 rfl rfl) (.tmp 9 rfl rfl) Qx (by omega) (by omega) (by kernel_rfl) (.here 11 rfl),Q5 (e:=⟨g,1,false,Y3 s R⟩) (idx:=q2.k) 0 rfl rfl rfl (by kernel_rfl) rfl (.tmp 11 rfl rfl) hMq2.top rfl (Zz hu) (show 0+((q2.k:Int)).toNat*1=(q2.k)*1 by omega) Q1 (.here 12 rfl),Qc (.tmp 12 rfl rfl) (.here 13 rfl),trivial⟩
       refine sem_D hI [] [] [⟨some 0,none,107,Qe (.slice (some ⟨u.b,s*3,none⟩) (u.n-s) (u.cap-s))⟩,⟨some 1,none,108,pI (i:Int)⟩,⟨some 2,none,109,Qe (.slice (some ⟨u.b,s*3,none⟩) (u.n-s) (u.cap-s))⟩,⟨some 3,none,110,pI (i:Int)⟩,⟨some 4,none,111,Qe (.pointer (some ⟨u.b,s*3+((i:Int)).toNat*3,none⟩))⟩,⟨some 5,none,112,Qk ((X1.getD q2.k []).getD (s+i) 0)⟩,⟨some 6,none,113,Qe (.slice (some ⟨u.b,s*3,none⟩) (u.n-s) (u.cap-s))⟩,⟨some 7,none,114,pI (kk:Int)⟩,⟨some 8,none,115,Qe (.pointer (some ⟨u.b,s*3+((kk:Int)).toNat*3,none⟩))⟩,⟨some 9,none,116,Qk ((X1.getD q2.k []).getD (s+kk) 0)⟩,⟨some 10,none,117,Qk ((X1.getD q2.k []).getD (s+i) 0+(X1.getD q2.k []).getD (s+kk) 0)⟩,⟨some 11,none,118,Qe (.pointer (some ⟨u.b,s*3+((i:Int)).toNat*3,none⟩))⟩] (.u none [(12,Zj (Xs q2.H u.b (s+i) (Zl ((X1.getD q2.k []).getD (s+i) 0+(X1.getD q2.k []).getD (s+kk) 0))))] .z) (.k8 (.kkk .z)) rfl [0,0,0,0,12,28,0,0,192,448,1020,2047,4095] (by kernel_rfl) ?_ (.s .o .z) (.k8 (.kkdd (.d8 (.ddd .z)))) fun a w hI=>?_
       ·exact⟨Qa (.tmp 10 rfl rfl) (.here 11 rfl),Qa (.tmp 3 rfl rfl) (.here 12 rfl),Qa (.tmp 10 rfl rfl) (.here 13 rfl),Qa (.tmp 3 rfl rfl) (.here 14 rfl),Qs (.tmp 13 rfl rfl) (.tmp 14 rfl rfl) Qy (by omega) (by omega) (by kernel_rfl) (.here 15 rfl),Q5 (e:=⟨u.b,3,true,Qw (X1.getD q2.k []) u.cap⟩) (idx:=s+i) 0 rfl rfl rfl (by kernel_rfl) rfl (.tmp 15 rfl rfl) mu rfl (X5 (by omega)) (show s*3+((i:Int)).toNat*3=(s+i)*3 by omega) Qr (.here 16 rfl),Qa (.tmp 10 rfl rfl) (.here 17 rfl),Qa (.tmp 6 rfl rfl) (.here 18 rfl),Qs (.tmp 17 rfl rfl) (.tmp 18 rfl rfl) Qy (by omega) (by omega) (by kernel_rfl) (.here 19 rfl),Q5 (e:=⟨u.b,3,true,Qw (X1.getD q2.k []) u.cap⟩) (idx:=s+kk) 0 rfl rfl rfl (by kernel_rfl) rfl (.tmp 19 rfl rfl) mu rfl (X5 (by omega)) (show s*3+((kk:Int)).toNat*3=(s+kk)*3 by omega) Qr (.here 20 rfl),Y6 (fun _ _=>by kernel_rfl) (Xr _) (.tmp 16 rfl rfl) (.tmp 20 rfl rfl) (.here 21 rfl) (c_add (j:=J) (k:=J) (hbd1 hq2X hiX) (hbd1 hq2X hkX) (by omega)),Qs (.tmp 11 rfl rfl) (.tmp 12 rfl rfl) Qy (by omega) (by omega) (by kernel_rfl) (.here 22 rfl),Zx (e:=⟨u.b,3,true,Qw (X1.getD q2.k []) u.cap⟩) (idx:=s+i) (it:=Zl ((X1.getD q2.k []).getD (s+i) 0+(X1.getD q2.k []).getD (s+kk) 0)) 0 rfl rfl rfl (by kernel_rfl) 0 rfl (by kernel_rfl) (by kernel_rfl) rfl (.tmp 22 rfl rfl) mu rfl (Vd (by omega)) (show s*3+((i:Int)).toNat*3=(s+i)*3 by omega) Qr (.tmp 21 rfl rfl) (Xb _),trivial⟩
       refine Xw ?_
       refine Qi ?_
       refine Yx hI [] [] [⟨some 0,none,119,pI ((q2.k:Int)+(1:Int))⟩,⟨some 1,none,103,pI ((q2.k:Int)+(1:Int))⟩] (.k .z) (.k8 (.k (.t 1 .z))) rfl [0,1] (by kernel_rfl) ?_ (.k .z) (.k8 (.kddk .z)) fun a w hI=>?_
       ·exact⟨Qo (v:=.int .i64 (IntKind.i64.wrap ((q2.k:Int)+(1:Int)))) (.tmp 9 rfl rfl) (.const _) (fun _=>rfl) (.at_ 10 _ _ rfl (Xe (by omega))),Qa (.tmp 10 rfl rfl) (.here 11 rfl),trivial⟩
       refine Qi ?_
       exact⟨⟨q2.k+1,Xs q2.H u.b (s+i) (Zl ((X1.getD q2.k []).getD (s+i) 0+(X1.getD q2.k []).getD (s+kk) 0))⟩,⟨⟨by show q2.k+1≤X.length; omega,by show MatS s g cap R (Z6 (Vs (s+i) (s+kk)) X1 0 (q2.k+1)) (Xs q2.H u.b (s+i) (Zl ((X1.getD q2.k []).getD (s+i) 0+(X1.getD q2.k []).getD (s+kk) 0))); rw[hset_add (p:=u.cap) (fun e he hb=>huq2 e _ he mu hb) (by omega),← Qdl (by omega) (Nat.zero_le _)]; exact hMq2.setRow hu (by rw[addRow_len,eL])⟩,(hI.conv ⟨⟨0,_,_,rfl,⟨rfl,rfl,rfl⟩,rfl,fun _=>(fun _ _ h=>h)⟩,trivial⟩ ⟨⟨rfl,rfl,0,_,rfl,fun _ _ h=>h⟩,⟨rfl,rfl,1,_,rfl,fun _ _ h=>h⟩,⟨rfl,rfl,2,_,rfl,fun _ _ h=>h⟩,⟨rfl,rfl,3,_,rfl,fun _ _ h=>h⟩,⟨rfl,rfl,4,_,rfl,fun _ _ h=>h⟩,⟨rfl,rfl,5,_,rfl,fun _ _ h=>h⟩,⟨rfl,rfl,6,_,rfl,fun _ _ h=>h⟩,⟨rfl,rfl,7,_,rfl,fun _ _ h=>h⟩,⟨rfl,rfl,8,_,rfl,fun _ _ h=>h⟩,⟨rfl,rfl,9,_,rfl,(Xa (by show((q2.k:Int)+1)=((q2.k+1:Nat):Int); omega))⟩,trivial⟩)⟩,(show X.length-(q2.k+1)<X.length-q2.k by omega)⟩
      ·have t10:=of_decide_eq_false ht
       refine wp_exit ?_
       refine Qz ?_
       refine Qz ?_
       refine Xl ?_
       refine Qi ?_
       obtain⟨X2,eX2⟩:∃X2,X2=Uu s i kk X:=⟨_,rfl⟩
       have hM2:MatS s g cap R X2 q2.H:=by have h:=hMq2; rw[show q2.k=X.length by omega,eX1]at h; rw[eX2]; exact h
       have hX2:X2.length=X.length:=by rw[eX2,leadB_len]
       have hr2:Rect (s+X2.length) X2:=by rw[hX2,eX2]; exact leadB_rect hr
       have hc2:ComM (α+2) δ X2.length (Xc s X2):=by rw[hX2,eX2]; exact(hc.ad hkX).congr (Qb6 hr hiX hkX)
       have hs2:Sym X2.length (Xc s X2):=by rw[hX2,eX2]; exact leadB_sym hr hs hiX hkX
       have hn2:s+X2.length≤1000:=by omega
       have hd2:∃i,i<X2.length∧Xc s X2 i i≠0:=⟨i,by omega,by rw[eX2]; exact leadB_diag hr hs hiX hkX hd hne⟩
       refine Vx hI [] [] [⟨some 0,none,120,Qe (.slice (some ⟨g,0,none⟩) X.length cap)⟩] (.k .z) (.k8 (.kkk .z)) rfl [0,1,3] 1 (by kernel_rfl) ?_ (.k .z) (.kkkk (.kkdd (.dddk .z))) (fun a w hI=>hI) (⟨_,fun a w hI=>U1 (fun _ _=>by kernel_rfl) hI (n0:=0) rfl (.tmp 6 rfl rfl) (fun M B w v1 hM hBM hH h1=>r_leadA hM2 hr2 hc2 hs2 hn2 hd2 M B w v1 hM hBM hH (by rw[hX2]; exact h1)) (by kernel_rfl) (by kernel_rfl) (by kernel_rfl) (by kernel_rfl),
         _,exL fun l hC a w hI=>Jh hI [] [⟨some 0,none,2,pB l.b⟩] (.k .z) (.k8 .z) (by kernel_rfl) (Qc (.tmp 0 rfl rfl) (.here 8 rfl)) (.k .z) (.dkkk (.kkkd (.k .z))),
         rfl⟩) ?_
       ·exact⟨Qa (.tmp 0 rfl rfl) (.here 11 rfl),trivial⟩
       ·rintro a w ⟨l,hC,hI⟩
        have hC:LeadC s g cap (α+2) δ X2 l:=hC
        refine wp_ret ?_
        refine Ze ?_
        refine X7 ?_
        refine X7 ?_
        refine Ze ?_
        refine Ze ?_
        refine X7 ?_
        refine X7 ?_
        refine Ze ?_
        refine X7 ?_
        exact finLO l (by have h:=hC; rw[eX2]at h; exact leadB_C hr hs hiX hkX hd hne h) hI rfl (n0:=0) rfl (.tmp 6 rfl)
   ·have t11:=of_decide_eq_false ht
    refine wp_exit ?_
    refine Qz ?_
    refine Qz ?_
    refine Xl ?_
    refine Xw ?_
    refine Qi ?_
    refine Yx hI [] [] [⟨some 0,none,123,pI ((i:Int)+(1:Int))⟩,⟨some 1,none,59,pI ((i:Int)+(1:Int))⟩] (.k .z) (.kk (.t 1 (.kkkk .z))) rfl [0,1] (by kernel_rfl) ?_ (.k .z) (.kkdd (.dddd (.k .z))) fun a w hI=>?_
    ·exact⟨Qo (v:=.int .i64 (IntKind.i64.wrap ((i:Int)+(1:Int)))) (.tmp 2 rfl rfl) (.const _) (fun _=>rfl) (.at_ 7 _ _ rfl (Xe (by omega))),Qa (.tmp 7 rfl rfl) (.here 8 rfl),trivial⟩
    refine Qi ?_
    exact⟨i+1,⟨⟨by omega,fun a ha b hb=>by rcases Nat.lt_or_ge a i with h|h; exact hz2 a h b hb; have e:a=i:=(by omega); subst e; exact hz3 b (by omega)⟩,(hI.conv ⟨⟨0,_,_,rfl,⟨rfl,rfl,rfl⟩,rfl,fun _=>fun _ _ h=>h⟩,trivial⟩ ⟨⟨rfl,rfl,0,_,rfl,fun _ _ h=>h⟩,⟨rfl,rfl,1,_,rfl,fun _ _ h=>h⟩,⟨rfl,rfl,2,_,rfl,(Xa (by omega))⟩,trivial⟩)⟩,(show X.length-(i+1)<X.length-i by omega)⟩
  ·have t12:=of_decide_eq_false ht
   refine wp_exit ?_
   refine Qz ?_
   refine Qz ?_
   refine Xl ?_
   refine Qi ?_
   refine Qh hI [] [] [⟨some 0,none,2,pB false⟩] (.k .z) (.kkkk .z) rfl [0] (by kernel_rfl) ?_ (.k .z) (.dddd (.k .z)) fun a w hI=>?_
   ·exact⟨Qc (.const _) (.here 4 rfl),trivial⟩
   refine wp_ret ?_
   exact finLO (⟨false,R,X,H0⟩:LeadL) ((lead_none hr hc hs hM0 hd (fun a ha=>hz2 a (by omega))).mono (by omega)) hI rfl (n0:=0) rfl (.tmp 0 rfl)
theorem r_lead {s g cap α δ J:Nat} {X:List (List Rat)} {R:List RowL} {H0:List Bk} (hM0:MatS s g cap R X H0) (hr:Rect (s+X.length) X) (hc:ComM α δ X.length (Xc s X)) (hs:Sym X.length (Xc s X)) (hn:s+X.length≤1000) (hJ:α+1≤J∧δ≤J∧J≤10000000):∀(M:Nat→Nat→Prop) (B:Nat→Prop) (w:World) (v0:Value),Mid M w→(∀k,B k→∀o,¬M k o)→HpOk B w H0→Box (Jg M B) (fun w=>(Qe (.slice (some ⟨g,0,none⟩) X.length cap)) w v0) w→Calls Try.prog 50 #[v0] w (RetLO B (LeadC s g cap (α+2) δ X) (fun l=>.bool l.b) (fun l=>l.H) w):=by
 intro M B w v0 hM hBM hH hv0
 by_cases hd:∃i,i<X.length∧Xc s X i i≠0
 ·exact(r_leadA hM0 hr hc hs hn hd M B w v0 hM hBM hH hv0).mono fun e w' ⟨l,B',h1,h2⟩=>⟨l,B',h1.mono (by omega),h2⟩
 ·exact r_leadB hM0 hr hc hs hn (fun i hi=>Classical.byContradiction fun h=>hd ⟨i,hi,h⟩) hJ M B w v0 hM hBM hH hv0
theorem r_rest {s g cap α δ J m:Nat} {X:List (List Rat)} {R:List RowL} {H0:List Bk} (hM0:MatS s g cap R X H0) (hr:Rect (s+X.length) X) (hc:ComM α δ X.length (Xc s X)) (hn:s+X.length≤1000) (hm:X.length=m+1) (hp0:(X.getD 0 []).getD s 0≠0) (hJ:α≤J∧δ≤J∧J≤10000000):∀(M:Nat→Nat→Prop) (B:Nat→Prop) (w:World) (v0:Value),Mid M w→(∀k,B k→∀o,¬M k o)→HpOk B w H0→Box (Jg M B) (fun w=>(Qe (.slice (some ⟨g,0,none⟩) X.length cap)) w v0) w→Calls Try.prog 51 #[v0] w (RetLO B (RestC s m α δ X) (fun l=>.slice l.A m l.cap) (fun l=>l.H) w):=by
 intro M B w0 v0 hM hBM hH hv0
 have hsz:_:=hM0.size
 have hln:_:=hM0.len
 obtain⟨o1,ho1⟩:∃o1:Nat,o1=if cap=1 then 0 else 1:=⟨_,rfl⟩
 refine Qaz (N:=34) (id:=34) (s:=34) Try.func51 rfl rfl rfl hM hBM hH (show EntsA (Jg M B) w0 [v0] [⟨none,none,0,Qe (.slice (some ⟨g,0,none⟩) X.length cap)⟩]from⟨⟨rfl,_,rfl,hv0⟩,trivial⟩) fun a hI=>?_
 refine Qh hI [] [] [⟨some 0,none,2,Qe ((Value.slice none 0 0))⟩] (.k .z) (.k .z) rfl [0] (by kernel_rfl) ?_ (.k .z) (.kk .z) fun a w hI=>?_
 ·exact⟨Qc (.const _) (.here 1 rfl),trivial⟩
 refine Qh hI [⟨3,3,some 0,none,(.grow 0 1),28,0,false,pv Zb,[]⟩] [] [⟨some 0,none,3,Qg 1 false 0 (fun i=>Qe ((Q0 R (i+1)).hs (s+1)))⟩] (.k .z) (.kk .z) rfl [0] (by kernel_rfl) ?_ (.k (.k .z)) (.kkk .z) fun a w hI=>?_
 ·exact⟨op_nilG 1 rfl rfl rfl (by kernel_rfl) (.here 2 rfl),trivial⟩
 refine wp_seq ?_
 refine Qh hI [] [] [⟨some 0,none,6,Qe (.slice (some ⟨g,0,none⟩) X.length cap)⟩,⟨some 1,none,7,Qe (.slice (some ⟨g,o1,none⟩) (X.length-1) (cap-1))⟩,⟨some 2,none,8,pI ((X.length-1:Nat):Int)⟩,⟨some 3,none,9,pI 0⟩] (.k (.k .z)) (.kkk .z) rfl [0,1,3,7] (by kernel_rfl) ?_ (.k (.k .z)) (.kkkd (.kkk .z)) fun a w hI=>?_
 ·exact⟨Qa (.tmp 0 rfl rfl) (.here 3 rfl),op_sliceLoG (.tmp 3 rfl rfl) (.const _) Qx (by omega) (by omega) (.at_ 4 _ _ rfl (pEq_to (by rw[ho1]; simp))),Js (.tmp 4 rfl rfl) (Qx).under (.here 5 rfl),Qa (.const _) (.here 6 rfl),trivial⟩
 refine wp_block ?_
 refine Xn (fun(q:HI) a w=>(q.k+1≤X.length∧MatS s g cap R (Z6 (restF s X.length (X.getD 0 [])) X 1 (q.k+1)) q.H)∧Inv ⟨34,w0,M,B⟩ [⟨34,34,none,none,.obj,0,0,false,Zj q.H,[]⟩,⟨3,3,none,none,(.grow q.k 1),28,0,false,pv Zb,[]⟩] [] [⟨none,none,0,Qe (.slice (some ⟨g,0,none⟩) X.length cap)⟩,⟨none,none,2,Qe ((Value.slice none 0 0))⟩,⟨none,none,3,Qg 1 false q.k (fun i=>Qe ((Q0 R (i+1)).hs (s+1)))⟩,⟨none,none,7,Qe (.slice (some ⟨g,o1,none⟩) (X.length-1) (cap-1))⟩,⟨none,none,8,pI ((X.length-1:Nat):Int)⟩,⟨none,none,9,pI (q.k:Int)⟩] Qf a w) (fun(q:HI)=>X.length-q.k) (⟨0,H0⟩) ⟨⟨by show 0+1≤X.length; omega,by show MatS s g cap R (Z6 (restF s X.length (X.getD 0 [])) X 1 1) H0; rw[Qcp]; exact hM0⟩,(hI.conv ⟨⟨0,_,_,rfl,⟨rfl,rfl,rfl⟩,rfl,fun _=>(fun _ _ h=>h)⟩,⟨1,_,_,rfl,⟨rfl,rfl,rfl⟩,rfl,fun _=>fun _ _ h=>h⟩,trivial⟩ ⟨⟨rfl,rfl,0,_,rfl,fun _ _ h=>h⟩,⟨rfl,rfl,1,_,rfl,fun _ _ h=>h⟩,⟨rfl,rfl,2,_,rfl,fun _ _ h=>h⟩,⟨rfl,rfl,3,_,rfl,fun _ _ h=>h⟩,⟨rfl,rfl,4,_,rfl,fun _ _ h=>h⟩,⟨rfl,rfl,5,_,rfl,(Xa rfl)⟩,trivial⟩)⟩ ?_
 intro q a w hIk
 obtain⟨⟨hq,hMq⟩,hI⟩:=hIk
 refine Qh hI [] [] [⟨some 0,none,10,pB (decide ((q.k:Int)<((X.length-1:Nat):Int)))⟩] (.k (.k .z)) (.kkkk (.kk .z)) rfl [0] (by kernel_rfl) ?_ (.k (.k .z)) (.kkkk (.kkk .z)) fun a w hI=>?_
 ·exact⟨Qo (v:=.bool (decide ((q.k:Int)<((X.length-1:Nat):Int)))) (.tmp 5 rfl rfl) (.tmp 4 rfl rfl) (fun _=>rfl) (.here 6 rfl),trivial⟩
 refine wp_seq ?_
 refine Xd hI 6 rfl (fun ht=>?_) (fun ht=>?_)
 ·have t1:=of_decide_eq_true ht
  refine wp_skip ?_
  refine Qi ?_
  refine wp_seq ?_
  refine wp_block ?_
  have he1:o1=1:=by rw[ho1,if_neg (by omega)]
  obtain⟨u,hu⟩:=hMq.get (i:=q.k+1) (by rw[Zp]; omega)
  have hfu:=hMq.fit _ _ hu
  have eL:(Z6 (restF s X.length (X.getD 0 [])) X 1 (q.k+1)).getD (q.k+1) []=(X.getD (q.k+1) []):=Qdj (by omega) (.inl (Nat.le_refl _))
  rw[eL]at hfu
  have hlu:=hr (q.k+1) (by omega)
  have mu:(⟨u.b,3,true,Qw (X.getD (q.k+1) []) u.cap⟩:Bk)∈q.H:=by have h:=hMq.rows _ _ hu; rw[eL]at h; exact h
  obtain⟨r0,hr0⟩:=hMq.get (i:=0) (by rw[Zp]; omega)
  have hf0:=hMq.fit _ _ hr0
  have e0:(Z6 (restF s X.length (X.getD 0 [])) X 1 (q.k+1)).getD 0 []=(X.getD 0 []):=Qdj (by omega) (.inr (by omega))
  rw[e0]at hf0
  have hl0:=hr 0 (by omega)
  have m0:(⟨r0.b,3,true,Qw (X.getD 0 []) r0.cap⟩:Bk)∈q.H:=by have h:=hMq.rows _ _ hr0; rw[e0]at h; exact h
  have hne:r0.b≠u.b:=hMq.apart _ _ _ _ hr0 hu (by omega)
  have hbd:∀{a b:Nat},a<X.length→b<X.length→BdR J ((X.getD a []).getD (s+b) 0):=fun ha hb=>hc.bd (by omega) (by omega) ha hb
  have bu:∀k,k<u.n-s→BdR J ((X.getD (q.k+1) []).getD (s+k) 0):=fun k hk=>hbd (by omega) (by omega)
  have b0:∀k,k<r0.n-s→BdR J ((X.getD 0 []).getD (s+k) 0):=fun k hk=>hbd (by omega) (by omega)
  have bx:BdR J ((X.getD (q.k+1) []).getD s 0):=bu 0 (by omega)
  have by0:BdR J ((X.getD 0 []).getD s 0):=b0 0 (by omega)
  have hat:Q0 R (q.k+1)=u:=by have h:=Kc (R:=R) (i:=q.k+1) (by have:=hMq.len; rw[Zp]at this; omega); rw[hu]at h; exact(Option.some.inj h).symm
  refine Qh hI [] [] [⟨some 0,none,11,Qe (.pointer (some ⟨g,o1+((q.k:Int)).toNat*1,none⟩))⟩,⟨some 1,none,12,Qe (.slice (some ⟨u.b,s*3,none⟩) (u.n-s) (u.cap-s))⟩,⟨some 2,none,5,Qe (.slice (some ⟨u.b,s*3,none⟩) (u.n-s) (u.cap-s))⟩] (.k (.k .z)) (.kkkk (.kkk .z)) rfl [0,1,3] (by kernel_rfl) ?_ (.k (.k .z)) (.kkkk (.kkdd (.dk .z))) fun a w hI=>?_
  ·exact⟨Qs (.tmp 3 rfl rfl) (.tmp 5 rfl rfl) Qx (by omega) (by omega) (by kernel_rfl) (.here 7 rfl),Q5 (e:=⟨g,1,false,Y3 s R⟩) (idx:=q.k+1) 0 rfl rfl rfl (by kernel_rfl) rfl (.tmp 7 rfl rfl) hMq.top rfl (Zz hu) (show o1+((q.k:Int)).toNat*1=(q.k+1)*1 by omega) Q1 (.here 8 rfl),Qc (.tmp 8 rfl rfl) (.here 9 rfl),trivial⟩
  refine seq_SD hI [] [] [⟨some 0,none,13,Qe (.slice (some ⟨u.b,s*3,none⟩) (u.n-s) (u.cap-s))⟩,⟨some 1,none,14,Qe (.slice (some ⟨g,0,none⟩) X.length cap)⟩,⟨some 2,none,15,Qe (.pointer (some ⟨g,0+((0:Int)).toNat*1,none⟩))⟩,⟨some 3,none,16,Qe (.slice (some ⟨r0.b,s*3,none⟩) (r0.n-s) (r0.cap-s))⟩,⟨some 4,none,17,Qe (.slice (some ⟨u.b,s*3,none⟩) (u.n-s) (u.cap-s))⟩,⟨some 5,none,18,Qe (.pointer (some ⟨u.b,s*3+((0:Int)).toNat*3,none⟩))⟩,⟨some 6,none,19,Qk ((X.getD (q.k+1) []).getD s 0)⟩,⟨some 7,none,20,Qe (.slice (some ⟨g,0,none⟩) X.length cap)⟩,⟨some 8,none,21,Qe (.pointer (some ⟨g,0+((0:Int)).toNat*1,none⟩))⟩,⟨some 9,none,22,Qe (.slice (some ⟨r0.b,s*3,none⟩) (r0.n-s) (r0.cap-s))⟩,⟨some 10,none,23,Qe (.pointer (some ⟨r0.b,s*3+((0:Int)).toNat*3,none⟩))⟩,⟨some 11,none,24,Qk ((X.getD 0 []).getD s 0)⟩,⟨some 12,none,25,Qk ((X.getD (q.k+1) []).getD s 0/(X.getD 0 []).getD s 0)⟩] (.k (.k .z)) (.kkkk (.kkk .z)) rfl [0,0,2,6,0,16,48,0,128,384,896,1920,4080,8191] 13 (by kernel_rfl) ?_ (.k (.k .z)) (.k8 (.ddkd (.dddd (.dddk .z)))) (fun a w hI=>hI) (⟨_,fun a w hI=>Qe1 (fun _ _=>by kernel_rfl) hI (n0:=0) rfl (Xt _) (.tmp 7 rfl rfl) (.tmp 8 rfl rfl) (.tmp 9 rfl rfl) (fun M B w v1 v2 v3 hM hBM hH h1 h2 h3=>r_reduceW (s1:=s) (s2:=s) (n1:=u.n-s) (n2:=r0.n-s) (c1:=u.cap-s) (c2:=r0.cap-s) (j:=J) (j2:=J) (jf:=J+J) mu m0 hne (by omega) (by omega) (by omega) (by omega) bu b0 (bx.quo by0) (by omega) M B w v1 v2 v3 hM hBM hH h1 h2 h3) (by kernel_rfl) (by kernel_rfl) (by kernel_rfl) (by kernel_rfl),
    rfl⟩) ?_
  ·exact⟨Qa (.tmp 6 rfl rfl) (.here 7 rfl),Qa (.tmp 0 rfl rfl) (.here 8 rfl),Qs (.tmp 8 rfl rfl) (.const _) Qx (by omega) (by omega) (by kernel_rfl) (.here 9 rfl),Q5 (e:=⟨g,1,false,Y3 s R⟩) (idx:=0) 0 rfl rfl rfl (by kernel_rfl) rfl (.tmp 9 rfl rfl) hMq.top rfl (Zz hr0) (show 0+((0:Int)).toNat*1=(0)*1 by omega) Q1 (.here 10 rfl),Qa (.tmp 6 rfl rfl) (.here 11 rfl),Qs (.tmp 11 rfl rfl) (.const _) Qy (by omega) (by omega) (by kernel_rfl) (.here 12 rfl),Q5 (e:=⟨u.b,3,true,Qw (X.getD (q.k+1) []) u.cap⟩) (idx:=s) 0 rfl rfl rfl (by kernel_rfl) rfl (.tmp 12 rfl rfl) mu rfl (X5 (by omega)) (show s*3+((0:Int)).toNat*3=(s)*3 by omega) Qr (.here 13 rfl),Qa (.tmp 0 rfl rfl) (.here 14 rfl),Qs (.tmp 14 rfl rfl) (.const _) Qx (by omega) (by omega) (by kernel_rfl) (.here 15 rfl),Q5 (e:=⟨g,1,false,Y3 s R⟩) (idx:=0) 0 rfl rfl rfl (by kernel_rfl) rfl (.tmp 15 rfl rfl) hMq.top rfl (Zz hr0) (show 0+((0:Int)).toNat*1=(0)*1 by omega) Q1 (.here 16 rfl),Qs (.tmp 16 rfl rfl) (.const _) Qy (by omega) (by omega) (by kernel_rfl) (.here 17 rfl),Q5 (e:=⟨r0.b,3,true,Qw (X.getD 0 []) r0.cap⟩) (idx:=s) 0 rfl rfl rfl (by kernel_rfl) rfl (.tmp 17 rfl rfl) m0 rfl (X5 (by omega)) (show s*3+((0:Int)).toNat*3=(s)*3 by omega) Qr (.here 18 rfl),Y6 (fun _ _=>by kernel_rfl) (Xr _) (.tmp 13 rfl rfl) (.tmp 18 rfl rfl) (.here 19 rfl) (c_by (j:=J) (k:=J) bx by0 (by omega) hp0),trivial⟩
  ·intro a w hI
   refine Qbw hI [⟨27,27,some 0,some 4,(.grow q.k 1),28,0,false,pv Zb,[]⟩,⟨31,31,some 4,none,(.grow (q.k+1) 1),28,0,false,pv Zb,[]⟩] [] [⟨some 0,none,27,Qg 1 false q.k (fun i=>Qe ((Q0 R (i+1)).hs (s+1)))⟩,⟨some 1,none,28,Qe (.slice (some ⟨u.b,s*3,none⟩) (u.n-s) (u.cap-s))⟩,⟨some 2,none,29,Qe (.slice (some ⟨u.b,s*3+1*3,none⟩) ((u.n-s)-1) ((u.cap-s)-1))⟩,⟨some 3,none,30,Qg 1 false 1 (fun _=>Qe (.slice (some ⟨u.b,s*3+1*3,none⟩) ((u.n-s)-1) ((u.cap-s)-1)))⟩,⟨some 4,none,31,Qg 1 false (q.k+1) (fun i=>Qe ((Q0 R (i+1)).hs (s+1)))⟩] (.k (.u (some 0) [] .z)) (.k8 (.kkk .z)) rfl [0,1,3,7,15,31] 5 (by kernel_rfl) ?_ (.k (.d (.d (.k .z)))) (.dkkd (.kkkd (.dddd (.dddk .z)))) (fun a w hI=>hI) (⟨_,fun a w hI=>Jh hI [⟨3,3,some 0,none,(.grow (q.k+1) 1),28,0,false,pv Zb,[]⟩] [⟨some 0,none,3,Qg 1 false (q.k+1) (fun i=>Qe ((Q0 R (i+1)).hs (s+1)))⟩] (.k (.u (some 0) [] .z)) (.kkkk (.kk .z)) (by kernel_rfl) (Kq 1 rfl rfl (by kernel_rfl) rfl rfl 2 rfl rfl rfl rfl (by kernel_rfl) (.tmp 5 rfl rfl) (.here 6 rfl)) (.k (.d (.k .z))) (.kkkk (.kdk .z)),
     rfl⟩) ?_
   ·exact⟨Va 1 rfl rfl (by kernel_rfl) rfl rfl 2 rfl rfl rfl rfl (by kernel_rfl) (.tmp 3 rfl rfl) (.here 11 rfl),Qa (.tmp 7 rfl rfl) (.here 12 rfl),op_sliceLo (.tmp 12 rfl rfl) (.const _) Qy (by omega) (by omega) (by omega) (.at_ 13 _ _ rfl (pEq_to (by simp))),U9 (agg:=false) Qx Qek rfl rfl (by decide) (.tmp 13 rfl rfl) (J8 _ _ _) (.here 14 rfl),Qca 2 rfl rfl (by kernel_rfl) rfl rfl 3 rfl rfl rfl rfl rfl (by kernel_rfl) (by kernel_rfl) (.tmp 11 rfl rfl) (.tmp 14 rfl rfl) app_Rows (fun _=>rfl) (fun i _=>J8 _ _ _) (fun i _=>J8 _ _ _) (by omega) (.at_ 15 _ _ rfl (row_snoc1 (fun _ _ _ _ h=>h) (pEq_to (by unfold RowL.hs; rw[hat,show s*3+1*3=(s+1)*3 by omega,show u.n-s-1=u.n-(s+1) by omega,show u.cap-s-1=u.cap-(s+1) by omega])))),trivial⟩
   ·intro a w hI
    refine Xw ?_
    refine Qi ?_
    refine Yx hI [] [] [⟨some 0,none,32,pI ((q.k:Int)+(1:Int))⟩,⟨some 1,none,9,pI ((q.k:Int)+(1:Int))⟩] (.k (.k .z)) (.kkkk (.t 1 (.k .z))) rfl [0,1] (by kernel_rfl) ?_ (.k (.k .z)) (.kkkk (.dkdk .z)) fun a w hI=>?_
    ·exact⟨Qo (v:=.int .i64 (IntKind.i64.wrap ((q.k:Int)+(1:Int)))) (.tmp 4 rfl rfl) (.const _) (fun _=>rfl) (.at_ 6 _ _ rfl (Xe (by omega))),Qa (.tmp 6 rfl rfl) (.here 7 rfl),trivial⟩
    refine Qi ?_
    exact⟨⟨q.k+1,Y0 q.H u.b (Qw (if(X.getD (q.k+1) []).getD s 0/(X.getD 0 []).getD s 0=0 then(X.getD (q.k+1) [])else Xz (X.getD (q.k+1) []) s (X.getD 0 []) s ((X.getD (q.k+1) []).getD s 0/(X.getD 0 []).getD s 0) (r0.n-s)) u.cap)⟩,⟨⟨by show q.k+1+1≤X.length; omega,by show MatS s g cap R (Z6 (restF s X.length (X.getD 0 [])) X 1 (q.k+1+1)) (Y0 q.H u.b (Qw (if(X.getD (q.k+1) []).getD s 0/(X.getD 0 []).getD s 0=0 then(X.getD (q.k+1) [])else Xz (X.getD (q.k+1) []) s (X.getD 0 []) s ((X.getD (q.k+1) []).getD s 0/(X.getD 0 []).getD s 0) (r0.n-s)) u.cap)); rw[show r0.n-s=X.length by omega,← Qdl (by omega) (by omega)]; exact hMq.setRow hu (by rw[restF_len,eL])⟩,(hI.conv ⟨⟨0,_,_,rfl,⟨rfl,rfl,rfl⟩,rfl,fun _=>(fun _ _ h=>h)⟩,⟨1,_,_,rfl,⟨rfl,rfl,rfl⟩,rfl,fun _=>fun _ _ h=>h⟩,trivial⟩ ⟨⟨rfl,rfl,0,_,rfl,fun _ _ h=>h⟩,⟨rfl,rfl,1,_,rfl,fun _ _ h=>h⟩,⟨rfl,rfl,4,_,rfl,fun _ _ h=>h⟩,⟨rfl,rfl,2,_,rfl,fun _ _ h=>h⟩,⟨rfl,rfl,3,_,rfl,fun _ _ h=>h⟩,⟨rfl,rfl,5,_,rfl,(Xa (by show((q.k:Int)+1)=((q.k+1:Nat):Int); omega))⟩,trivial⟩)⟩,(show X.length-(q.k+1)<X.length-q.k by omega)⟩
 ·have t2:=of_decide_eq_false ht
  refine wp_exit ?_
  refine Qz ?_
  refine Qz ?_
  refine Xl ?_
  refine Qi ?_
  refine Qh hI [⟨33,33,some 0,some 1,(.grow q.k 1),28,0,false,pv Zb,[]⟩,⟨2,2,some 1,none,(.grow q.k 1),28,0,false,pv Zb,[]⟩] [] [⟨some 0,none,33,Qg 1 false q.k (fun i=>Qe ((Q0 R (i+1)).hs (s+1)))⟩,⟨some 1,none,2,Qg 1 false q.k (fun i=>Qe ((Q0 R (i+1)).hs (s+1)))⟩] (.k (.u (some 0) [] .z)) (.k (.t 1 (.kkkk (.k .z)))) rfl [0,1] (by kernel_rfl) ?_ (.k (.d (.d (.k .z)))) (.d8 (.k .z)) fun a w hI=>?_
  ·exact⟨Va 1 rfl rfl (by kernel_rfl) rfl rfl 2 rfl rfl rfl rfl (by kernel_rfl) (.tmp 2 rfl rfl) (.here 7 rfl),Kq 2 rfl rfl (by kernel_rfl) rfl rfl 3 rfl rfl rfl rfl (by kernel_rfl) (.tmp 7 rfl rfl) (.here 8 rfl),trivial⟩
  refine wp_ret ?_
  exact finJoin hI rfl (n0:=0) rfl (n1:=1) rfl (by decide) (k:=0) rfl (by rw[show q.k=m by omega]; exact rest_C (by omega) hr hc hp0 (by have h:=hMq; rw[show q.k+1=X.length by omega]at h; exact h))
end Wx
